/- A part of the proof. -/
import Derived.Test.YtameldglfobjkaaGreatL5P12
set_option linter.unusedSimpArgs false
set_option linter.unusedVariables false
section
namespace Go.Ab
def Ord (g:Gr) (out:List Int):Prop:=∀p,p<out.length→∀i,i<g.es.length→hd g i=out.getD p 0→tl g i∈out.take p
theorem qi {l r:List Int} {p:Nat} (h:p<l.length):(l++r).getD p 0=l.getD p 0:=by
 rw [List.getD_eq_getElem?_getD,List.getD_eq_getElem?_getD,List.getElem?_append_left h]
theorem Ord.next {g:Gr} {out:List Int} (h:Ord g out) {x:Nat} (hb:∀i,i<g.es.length→hd g i=x→tl g i∈out):Ord g (out++ [(x:Int)]):=by
 intro p hp i hi hh
 rw [List.length_append,List.length_singleton] at hp
 by_cases ez:p<out.length
 ·rw [qi ez] at hh
  have:=h p ez i hi hh
  rw [List.take_append_of_le_length (by omega)]
  exact this
 ·have hpe:p=out.length:=by omega
  subst hpe
  rw [List.getD_eq_getElem?_getD,List.getElem?_append_right (by omega)] at hh
  simp at hh
  rw [List.take_append_of_le_length (by omega),List.take_of_length_le (by omega)]
  exact hb i hi hh
theorem uL {g:Gr} (hm:aX g=true):∀f out,fq g out→Ord g out→left g out≤f→fq g (vZ g f out)∧Ord g (vZ g f out)∧gw (cW g (vZ g f out)) 0<0
 |f,out,hP,hO,hl=>by
  rcases NA (g:=g) out with hx|⟨x,hx,HZ,hw⟩
  ·rw [zZ (by omega)];exact ⟨hP,hO,by omega⟩
  ·obtain ⟨L3,_,hb⟩:=hP.next hm HZ hw
   have hn:=wU hP L3
   cases f with
   |zero=>omega
   |succ f=>
    have:=uL hm f (out++ [(x:Int)]) L3 (hO.next hb) (by omega)
    simp only [vZ,hx]
    rw [if_neg (by omega)]
    exact this
theorem gU {g:Gr} (hm:aX g=true):fq g (aO g)∧Ord g (aO g)∧gw (cW g (aO g)) 0<0:=
 uL hm _ _ (fq.nil g) (fun p hp=>by simp at hp) (by rw [qg];exact Nat.le_refl _)
theorem q8 {g:Gr} (hm:aX g=true) {y:Nat} (hy:y<g.n.toNat):0<wt g (aO g) y↔(y:Int)∉aO g:=by
 obtain ⟨_,_,hi⟩:=gU hm
 constructor
 ·intro h hin;simp [wt,hin] at h
 ·intro h
  have h0:wt g (aO g) y≠0:=by
   intro e
   rcases gT (f:=fun y:Int=>decide (0=y)) (l:=cW g (aO g)) 0 with ⟨_,h2⟩|⟨k,h1,_⟩
   ·have:=h2 _ (List.mem_of_getElem? (lD hy))
    rw [e] at this;simp at this
   ·have:gw (cW g (aO g)) 0=k:=h1
    omega
  have:0≤wt g (aO g) y:=by simp only [wt,h,if_false];omega
  omega
theorem uM {g:Gr} {l:List Bool} {j y:Nat} (h:y<g.n.toNat):(fE g l j).getD y false=(List.range j).any fun i=>decide (hd g i=(y:Int))&&(l.getD (tl g i).toNat false&&l.getD (hd g i).toNat false):=by
 simp [fE,List.getD_eq_getElem?_getD,List.getElem?_range h]
theorem uN {g:Gr} (hm:aX g=true):∀k y,y<g.n.toNat→(y:Int)∉aO g→(fZ g k).getD y false=true
 |0,y,hy,_=>by simp [fZ,mS,List.getD_eq_getElem?_getD,List.getElem?_range hy];omega
 |k+1,y,hy,h=>by
  have hw:=(q8 hm hy).2 h
  simp only [wt,h,if_false] at hw
  obtain ⟨i,hi,hp⟩:=List.countP_pos_iff.1 (Int.natCast_pos.1 hw)
  simp only [Bool.and_eq_true,decide_eq_true_eq,Bool.not_eq_true',decide_eq_false_iff_not] at hp
  have hil:=List.mem_range.1 hi
  obtain ⟨⟨h1,h2⟩,_⟩:=dX hm hil
  have ht:(g.es.getD i (0,0)).1=tl g i:=rfl
  rw [ht] at h1 h2
  have e:((tl g i).toNat:Int)=tl g i:=by omega
  have g1:=uN hm k (tl g i).toNat (by omega) (by rw [e];exact hp.2)
  have g2:=uN hm k y hy h
  show (fE g (fZ g k) g.es.length).getD y false=true
  rw [uM hy,List.any_eq_true]
  refine ⟨i,hi, ?_⟩
  rw [hp.1,Int.toNat_natCast,g1,g2];simp
theorem CW {g:Gr} (hm:aX g=true):∀k p,p<k→p<(aO g).length→(fZ g k).getD ((aO g).getD p 0).toNat false=false
 |0,p,h,_=>by omega
 |k+1,p,h,hp=>by
  obtain ⟨hP,hO,_⟩:=gU hm
  have hr:=hP.lo _ (jt hp)
  obtain ⟨y,hy⟩:∃y:Nat,(aO g).getD p 0=y:=⟨((aO g).getD p 0).toNat,by omega⟩
  have TF:y<g.n.toNat:=by omega
  rw [hy,Int.toNat_natCast]
  show (fE g (fZ g k) g.es.length).getD y false=false
  rw [uM TF,List.any_eq_false]
  intro i hi
  have hil:=List.mem_range.1 hi
  simp only [Bool.and_eq_true,decide_eq_true_eq]
  rintro ⟨h1,h2,_⟩
  have ht:=hO p hp i hil (by rw [h1,hy])
  rw [List.mem_iff_getElem?] at ht
  obtain ⟨q,hq⟩:=ht
  rw [List.getElem?_take] at hq
  split at hq
  ·rename_i TG
   have:=CW hm k q (by omega) (by omega)
   rw [List.getD_eq_getElem?_getD (l:=aO g),hq] at this
   rw [Option.getD_some,h2] at this
   cases this
  ·cases hq
theorem Gz {g:Gr} (hm:aX g=true) {y:Nat} (hy:y<g.n.toNat):(ym g).getD y false=true↔(y:Int)∉aO g:=by
 constructor
 ·intro h hin
  obtain ⟨hP,_,_⟩:=gU hm
  obtain ⟨p,hp,e⟩:=List.getElem_of_mem hin
  have hl:=hP.fuel
  have:=CW hm g.n.toNat p (by omega) hp
  rw [List.getD_eq_getElem?_getD (l:=aO g),List.getElem?_eq_getElem hp,Option.getD_some,e,Int.toNat_natCast] at this
  have h2:(fZ g g.n.toNat).getD y false=true:=h
  rw [this] at h2;cases h2
 ·intro h;exact uN hm _ y hy h
theorem GA {g:Gr} (hm:aX g=true) {y:Nat} (hy:y<g.n.toNat):(ym g).getD y false=decide (0<(cW g (aO g)).getD y 0):=by
 rw [mN hy,Bool.eq_iff_iff,Gz hm hy,decide_eq_true_eq,q8 hm hy]
theorem start_eq {g:Gr} (hm:aX g=true):(bS (fun n=>decide (0<n)) (cW g (aO g))= -1∧H7 g=g.n)∨∃a:Nat,a<g.n.toNat∧bS (fun n=>decide (0<n)) (cW g (aO g))=a∧H7 g=a∧(a:Int)∉aO g:=by
 have hlf:(ym g).length=g.n.toNat:=leftK_length
 rcases gT (f:=fun n:Int=>decide (0<n)) (l:=cW g (aO g)) 0 with ⟨h1,h2⟩|⟨k,h1,h2,h3,h4⟩
 ·refine .inl ⟨h1, ?_⟩
  have:bS (fun b:Bool=>b) (ym g)= -1:=bA false fun j hj=>by
   rw [hlf] at hj
   rw [GA hm hj]
   exact h2 _ (by rw [List.getD_eq_getElem?_getD,lD hj];exact List.mem_of_getElem? (lD hj))
  unfold H7;rw [this,if_pos (by omega)]
 ·rw [wts_length] at h2
  refine .inr ⟨k,h2,h1, ?_, ?_⟩
  ·have:bS (fun b:Bool=>b) (ym g)=k:=bZ (d:=false) (by omega) (fun j hj=>by
    rw [GA hm (by omega)];exact h4 j hj) (by rw [GA hm h2];exact h3)
   unfold H7;rw [this,if_neg (by omega)]
  ·rw [← q8 hm h2]
   rw [mN h2] at h3
   exact of_decide_eq_true h3
def Q (g:Gr) (a:Nat) (t:Int):Prop:=∃i,i<g.es.length∧hd g i=(a:Int)∧tl g i=t∧t∉aO g
theorem cM {g:Gr} (hm:aX g=true) {i:Nat} (hi:i<g.es.length):0≤tl g i∧tl g i<g.n:=(dX hm hi).1
theorem gA {g:Gr} (hm:aX g=true) {i:Nat} (hi:i<g.es.length):0≤hd g i∧hd g i<g.n:=(dX hm hi).2
theorem Eb {g:Gr} (hm:aX g=true) {i:Nat} (hi:i<g.es.length):0<(cW g (aO g)).getD (tl g i).toNat 0↔tl g i∉aO g:=by
 have h:=cM hm hi
 have e:((tl g i).toNat:Int)=tl g i:=by omega
 rw [mN (by omega),q8 hm (by omega),e]
theorem sy {g:Gr} (hm:aX g=true):∀(l:List Int) (b:Int),(∀e∈l,∃i:Nat,e=i∧i<g.es.length)→
 (b= -1∨0≤b)→(l.foldl (fW g (cW g (aO g))) b=b∨∃i:Nat,(i:Int)∈l∧tl g i∉aO g∧l.foldl (fW g (cW g (aO g))) b=tl g i)∧(0≤b→l.foldl (fW g (cW g (aO g))) b≤b)∧
   (∀i:Nat,(i:Int)∈l→tl g i∉aO g→0≤l.foldl (fW g (cW g (aO g))) b∧l.foldl (fW g (cW g (aO g))) b≤tl g i)
 | [],b,_,_=>⟨.inl rfl,fun _=>Int.le_refl _,by simp⟩
 |e::l,b,he,hb=>by
  obtain ⟨i,rfl,hi⟩:=he e List.mem_cons_self
  have htr:=cM hm hi
  have hw:=Eb hm hi
  have hstep:fW g (cW g (aO g)) b (i:Int)=if tl g i∉aO g∧(b<0∨tl g i<b) then tl g i else b:=by
   simp only [fW,Int.toNat_natCast,hw]
  have hb':fW g (cW g (aO g)) b (i:Int)= -1∨0≤fW g (cW g (aO g)) b (i:Int):=by
   rw [hstep];split
   ·exact .inr htr.1
   ·exact hb
  obtain ⟨h1,h2,h3⟩:=sy hm l (fW g (cW g (aO g)) b (i:Int)) (fun e h=>he e (List.mem_cons_of_mem _ h)) hb'
  simp only [List.foldl_cons]
  generalize hr:l.foldl (fW g (cW g (aO g))) (fW g (cW g (aO g)) b (i:Int))=r at h1 h2 h3 ⊢
  refine ⟨?_, ?_, ?_⟩
  ·rcases h1 with h1|⟨j,hj,h4,h5⟩
   ·rw [hstep] at h1
    split at h1
    ·rename_i hc
     exact .inr ⟨i,by simp,hc.1,h1⟩
    ·exact .inl h1
   ·exact .inr ⟨j,by simp [hj],h4,h5⟩
  ·intro h0
   rw [hstep] at h2
   split at h2
   ·rename_i hc;have:=h2 htr.1;omega
   ·exact h2 h0
  ·intro j hj hjn
   rcases List.mem_cons.1 hj with hj|hj
   ·have:j=i:=Int.ofNat.inj hj
    subst this
    rw [hstep] at h1 h2
    split at h1
    ·rename_i hc
     rw [if_pos hc] at h2
     have:=h2 htr.1
     rcases h1 with h1|⟨q,hq,h4,h5⟩
     ·omega
     ·obtain ⟨i',e',hi'⟩:=he q (List.mem_cons_of_mem _ hq)
      have:q=i':=Int.ofNat.inj e'
      subst this
      have:=cM hm hi';omega
    ·rename_i hc
     rw [if_neg hc] at h2
     have Iw:¬(b<0∨tl g j<b):=fun h=>hc ⟨hjn,h⟩
     have:=h2 (by omega)
     rcases h1 with h1|⟨q,hq,h4,h5⟩
     ·omega
     ·obtain ⟨i',e',hi'⟩:=he q (List.mem_cons_of_mem _ hq)
      have:q=i':=Int.ofNat.inj e'
      subst this
      have:=cM hm hi';omega
   ·exact h3 j hj hjn
theorem uO {g:Gr} (hm:aX g=true) {a:Nat} (h:∃t,Q g a t):Q g a (jP g (cW g (aO g)) a)∧∀t,Q g a t→jP g (cW g (aO g)) a≤t:=by
 have hin:∀i,i<g.es.length→hd g i=(a:Int)→(i:Int)∈kT g a:=by
  intro i hi hh
  simp only [kT,fD,List.mem_map,List.mem_filter,List.mem_range,decide_eq_true_eq]
  exact ⟨i,⟨hi,hh⟩,rfl⟩
 obtain ⟨h1,_,h3⟩:=sy hm (kT g a) (-1) Gv (.inl rfl)
 have hG:jP g (cW g (aO g)) a=(kT g a).foldl (fW g (cW g (aO g))) (-1):=by simp [jP,wX]
 rw [← hG] at h1 h3
 have hle:∀t,Q g a t→0≤jP g (cW g (aO g)) a∧jP g (cW g (aO g)) a≤t:=by
  rintro t ⟨i,h4,h5,rfl,h6⟩
  exact h3 i (hin i h4 h5) h6
 obtain ⟨t,ht⟩:=h
 have h0:=(hle t ht).1
 refine ⟨?_,fun t ht=>(hle t ht).2⟩
 rcases h1 with h1|⟨i,hi,h4,h5⟩
 ·omega
 ·obtain ⟨i',e',hi',hh⟩:=yl hi
  have:i=i':=Int.ofNat.inj e'
  subst this
  exact ⟨i,hi',hh,h5.symm,by rw [h5];exact h4⟩
theorem uP {g:Gr} (hm:aX g=true) {a:Nat} :∀k,k≤g.es.length→(eV g a k=g.n∨Q g a (eV g a k))∧eV g a k≤g.n∧∀i,i<k→hd g i=(a:Int)→tl g i∉aO g→eV g a k≤tl g i
 |0,_=>⟨.inl rfl,Int.le_refl _,by simp⟩
 |k+1,hk=>by
  obtain ⟨h1,h2,h3⟩:=uP hm (a:=a) k (by omega)
  have htr:=cM hm (i:=k) (by omega)
  have e:((tl g k).toNat:Int)=tl g k:=by omega
  have hlf:=Gz hm (y:=(tl g k).toNat) (by omega)
  rw [e] at hlf
  rw [o6]
  unfold yo
  split
  ·rename_i hc0
   have hc:hd g k=(a:Int)∧tl g k∉aO g:=⟨hc0.1,hlf.1 hc0.2⟩
   refine ⟨?_,by omega, ?_⟩
   ·by_cases hle:eV g a k≤tl g k
    ·rw [Int.min_eq_left hle];exact h1
    ·rw [Int.min_eq_right (by omega)];exact .inr ⟨k,by omega,hc.1,rfl,hc.2⟩
   ·intro i hi hh hn
    by_cases hik:i=k
    ·subst hik;omega
    ·have:=h3 i (by omega) hh hn;omega
  ·rename_i hc
   refine ⟨h1,h2, ?_⟩
   intro i hi hh hn
   by_cases hik:i=k
   ·subst hik;exact absurd ⟨hh,hlf.2 hn⟩ hc
   ·exact h3 i (by omega) hh hn
theorem back_eq {g:Gr} (hm:aX g=true) {a:Nat} (h:∃t,Q g a t):jP g (cW g (aO g)) a=eV g a g.es.length∧Q g a (eV g a g.es.length):=by
 obtain ⟨h1,h2⟩:=uO hm h
 obtain ⟨h3,h4,h5⟩:=uP hm (a:=a) g.es.length (Nat.le_refl _)
 have hb:eV g a g.es.length≤jP g (cW g (aO g)) a:=by
  obtain ⟨i,h6,h7,h8,h9⟩:=h1
  rw [← h8] at h9 ⊢
  exact h5 i h6 h7 h9
 have hlt:jP g (cW g (aO g)) a<g.n:=by
  obtain ⟨i,h6,h7,h8,h9⟩:=h1
  rw [← h8];exact (cM hm h6).2
 rcases h3 with h3|h3
 ·omega
 ·exact ⟨by have:=h2 _ h3;omega,h3⟩
theorem KN {g:Gr} (hm:aX g=true) {a:Nat} (ha:a<g.n.toNat) (h:(a:Int)∉aO g):∃t,Q g a t:=by
 have hw:=(q8 hm ha).2 h
 simp only [wt,h,if_false] at hw
 obtain ⟨i,hi,hp⟩:=List.countP_pos_iff.1 (Int.natCast_pos.1 hw)
 simp only [Bool.and_eq_true,decide_eq_true_eq,Bool.not_eq_true',decide_eq_false_iff_not] at hp
 exact ⟨tl g i,i,List.mem_range.1 hi,hp.1,rfl,hp.2⟩
theorem GB {g:Gr} (hm:aX g=true):∀(f f':Nat) (way:List Int) (a:Nat),way.Nodup→a<g.n.toNat→(a:Int)∉aO g→left g way≤f→left g way≤f'→
 lF g (cW g (aO g)) f way a=o5 g f' way a∧(0≤(o5 g f' way a).2∧(o5 g f' way a).2∈(o5 g f' way a).1∧(o5 g f' way a).1.Nodup)
 |f,f',way,a,hd,ha,hn,h1,h2=>by
  by_cases hmem:(a:Int)∈way
  ·rw [kB (.inr hmem),z7 hmem]
   exact ⟨rfl,by simp only;omega,hmem,hd⟩
  ·have hla:=jo ha hmem
   cases f with
   |zero=>omega
   |succ f=>
    cases f' with
    |zero=>omega
    |succ f'=>
     obtain ⟨hb,hq⟩:=back_eq hm (KN hm ha hn)
     obtain ⟨i,hi,_,ht,NC⟩:=hq
     have htr:=cM hm hi
     rw [ht] at htr
     obtain ⟨b,pI⟩:∃b:Nat,eV g a g.es.length=b:=⟨(eV g a g.es.length).toNat,by omega⟩
     rw [pI] at hb NC htr
     have hd':(way++ [(a:Int)]).Nodup:=by
      rw [List.nodup_append]
      refine ⟨hd,by simp, ?_⟩
      intro x hx y hy e
      simp at hy
      rw [← hy, ← e] at hmem;exact hmem hx
     have ih:=GB hm f f' (way++ [(a:Int)]) b hd' (by omega) NC (by omega) (by omega)
     have e1:lF g (cW g (aO g)) (f+1) way a=lF g (cW g (aO g)) f (way++ [(a:Int)]) b:=by
      simp only [lF];rw [if_neg (by intro h;rcases h with h|h;omega;exact hmem h),hb]
     have e2:o5 g (f'+1) way a=o5 g f' (way++ [(a:Int)]) b:=by
      simp only [o5];rw [if_neg hmem,pI]
     rw [e1,e2];exact ih
theorem yq {g:Gr} {way:List Int} :left g way≤g.n.toNat:=by
 unfold left
 have:=List.countP_le_length (p:=fun y:Nat=> !decide ((y:Int)∈way)) (l:=List.range g.n.toNat)
 simpa using this
theorem uQ {l:List Int} (h:l.Nodup) {i j:Nat} (hi:i<l.length) (hj:j<l.length) (e:l.getD i 0=l.getD j 0):i=j:=by
 rw [List.getD_eq_getElem?_getD,List.getD_eq_getElem?_getD,List.getElem?_eq_getElem hi,List.getElem?_eq_getElem hj] at e
 exact (List.getElem_inj h).1 e
theorem GC {l:List Int} {i:Nat} (hi:i<l.length):l.reverse.getD i 0=l.getD (l.length - 1 - i) 0:=by
 rw [List.getD_eq_getElem?_getD,List.getD_eq_getElem?_getD,List.getElem?_reverse hi]
theorem IP {l:List Int} (hd:l.Nodup) (h0:0<l.length):me l.reverse=w5 l:=by
 obtain ⟨m,vS,hm2,TH⟩:=eS (jq h0)
 have OG:0<l.reverse.length:=by simpa using h0
 obtain ⟨k,Bf,hk2,L4⟩:=eS (jq OG)
 have hmin:iU l.reverse=iU l:=by
  have h1:=yp (List.mem_reverse.2 (jq h0))
  have h2:=yp (List.mem_reverse.1 (jq OG))
  omega
 rw [List.length_reverse] at hk2
 have hk:l.length - 1 - k=m:=uQ hd (by omega) hm2 (by rw [← GC hk2,L4,TH,hmin])
 have e1:me l.reverse=l.reverse.drop k++l.reverse.take k:=by
  simp only [me,Bf,Int.toNat_natCast]
 have e2:w5 l=sY l m l.length:=by simp only [w5,vS,Int.toNat_natCast]
 rw [e1,e2]
 refine List.ext_getElem? fun i=> ?_
 by_cases hi:i<l.length
 ·have hr:(sY l m l.length)[i]? =some (l.getD ((m+l.length - i) % l.length) 0):=by
   simp [sY,List.getElem?_range hi]
  rw [hr]
  by_cases hik:i<l.length - k
  ·rw [List.getElem?_append_left (by simp;omega),List.getElem?_drop,List.getElem?_reverse (by omega)]
   have:(m+l.length - i) % l.length=m - i:=by
    rw [show m+l.length - i=(m - i)+l.length from by omega,Nat.add_mod_right,Nat.mod_eq_of_lt (by omega)]
   rw [this,show l.length - 1 - (k+i)=m - i from by omega,List.getD_eq_getElem?_getD,List.getElem?_eq_getElem (by omega)];rfl
  ·rw [List.getElem?_append_right (by simp;omega),List.length_drop,List.length_reverse,List.getElem?_take,if_pos (by omega),List.getElem?_reverse (by omega)]
   have:(m+l.length - i) % l.length=m+l.length - i:=Nat.mod_eq_of_lt (by omega)
   rw [this,show l.length - 1 - (i - (l.length - k))=m+l.length - i from by omega,List.getD_eq_getElem?_getD,List.getElem?_eq_getElem (by omega)];rfl
 ·rw [List.getElem?_eq_none (by simp;omega),List.getElem?_eq_none (by simp [sY];omega)]
theorem KO {g:Gr} (hm:aX g=true):kA g=mT g:=by
 have hn:=bF hm
 rcases start_eq hm with ⟨h1,h2⟩|⟨a,ha,h1,h2,h3⟩
 ·have:kz g=([], -1):=by
   unfold kz;rw [h1];exact kB (.inl (by omega)) _
  simp only [kA,mT,this]
  rw [if_pos (by omega),if_pos h2]
 ·obtain ⟨he,h4,h5,h6⟩:=GB hm g.n.toNat (g.n.toNat+1) [] a (by simp) ha h3 yq (Nat.le_succ_of_le yq)
  have hw:kz g=qh g:=by
   unfold kz qh;rw [h1,h2];exact he
  have hr:o5 g (g.n.toNat+1) [] a=qh g:=by unfold qh;rw [h2]
  rw [hr] at h4 h5 h6
  simp only [kA,mT,hw]
  rw [if_neg (by omega),if_neg (by omega)]
  obtain ⟨k,Bf,hk2,_⟩:=eS h5
  rw [Bf,Int.toNat_natCast]
  exact IP (List.Pairwise.drop h6) (by simp;omega)
theorem KP (g:Gr):dD g=mU g:=by
 unfold dD mU
 cases hm:aX g with
 |false=>simp [iM,hm]
 |true=>rw [KO hm]
end Go.Ab
end
section
namespace Go.Ab
end Go.Ab
end
section
namespace Go.Ab
open Go.Proofs
attribute [local congr] ACall.congr gd.congr Nx.congr
set_option maxRecDepth 10000
abbrev Pt:=Int × Int
def eP (p:Pt):AV:= .agg [.d (.sc (.int .i64 p.1)), .d (.sc (.int .i64 p.2))]
def rP (p:Pt):List D:= [.sc (.int .i64 p.1), .sc (.int .i64 p.2)]
attribute [go_sem] eP
def bn (p:Pt):Prop:=(-262144≤p.1∧p.1≤262144)∧(-262144≤p.2∧p.2≤262144)
theorem mw {x y m n:Int} (hx: -m≤x∧x≤m) (hy: -n≤y∧y≤n): -(m*n)≤x*y∧x*y≤m*n:=by
 have hm:0≤m:=by omega
 have hn:0≤n:=by omega
 have h1:x.natAbs≤m.natAbs:=by omega
 have h2:y.natAbs≤n.natAbs:=by omega
 have h3:(x*y).natAbs≤(m*n).natAbs:=by rw [Int.natAbs_mul,Int.natAbs_mul];exact Nat.mul_le_mul h1 h2
 have h4:0≤m*n:=Int.mul_nonneg hm hn
 omega
theorem cZ (n:Int):Spec Tryz.prog 132 (Args [eN n]) [] (eB false) []:=by
 (refine Spec.hd (C:=T.cfg [] []) (rs:= [.t 2]) (T.ah _ _) Tryz.func132 rfl rfl Tryz.ntmps132 Tryz.results132 (by simp [AObj.isNest]) (by simp [AObj.isNest]) (by kernel_rfl) T.mixed fun X hX hP hC aB bK=> ?_)
 repeat' (first|refine Rn.p ?_|(with_reducible apply And.intro)|((first|(refine hK _ ?_;clear hK K)|with_reducible intro K hK|refine Rs.p ?_|((with_reducible first|apply oP|apply oQ);exact rfl)|refine aa hX hC hP (hf _) rfl rfl rfl (by simp only [go_sem,simprocAttr]) rfl ?_|refine aa hX hC hP (cZ _) rfl rfl rfl (by simp only [go_sem,simprocAttr]) rfl ?_|refine aa hX hC hP (bQ _ _) rfl rfl rfl (by simp only [go_sem,simprocAttr]) rfl ?_|refine aa hX hC hP (bR _ _ _) rfl rfl rfl (by simp only [go_sem,simprocAttr]) rfl ?_|refine aa hX hC hP (aQ _ _ _ _ (by assumption) (by assumption) (by assumption) (by assumption)) rfl rfl rfl (by simp only [go_sem,simprocAttr]) rfl ?_|refine aa hX hC hP (aY _ _ _ (by assumption) (by assumption) (by assumption)) rfl rfl rfl (by simp only [go_sem,simprocAttr]) rfl ?_|refine aa hX hC hP (bU _ _ _ (by assumption) (by assumption) (by assumption)) rfl rfl rfl (by simp only [go_sem,simprocAttr]) rfl ?_);try simp only [go_sem,simprocAttr])|((with_reducible refine oD ?_ ?_);kernel_rfl)|((with_reducible intro h);try simp only [go_sem,simprocAttr] at h)|omega|intro h)
def gB (a b:Int):Int:=if a<b then -1 else if b<a then 1 else 0
theorem bQ (a b:Int):Spec Tryz.prog 79 (Args [eN a,eN b]) [] (eN (gB a b)) []:=by
 (refine Spec.hd (C:=T.cfg [] []) (rs:= [.t 4]) (T.ah _ _) Tryz.func79 rfl rfl Tryz.ntmps79 Tryz.results79 (by simp [AObj.isNest]) (by simp [AObj.isNest]) (by kernel_rfl) T.mixed fun X hX hP hC aB bK=> ?_)
 repeat' (first|refine Rn.p ?_|(with_reducible apply And.intro)|((first|(refine hK _ ?_;clear hK K)|with_reducible intro K hK|refine Rs.p ?_|((with_reducible first|apply oP|apply oQ);exact rfl)|refine aa hX hC hP (hf _) rfl rfl rfl (by simp only [go_sem,simprocAttr]) rfl ?_|refine aa hX hC hP (cZ _) rfl rfl rfl (by simp only [go_sem,simprocAttr]) rfl ?_|refine aa hX hC hP (bQ _ _) rfl rfl rfl (by simp only [go_sem,simprocAttr]) rfl ?_|refine aa hX hC hP (bR _ _ _) rfl rfl rfl (by simp only [go_sem,simprocAttr]) rfl ?_|refine aa hX hC hP (aQ _ _ _ _ (by assumption) (by assumption) (by assumption) (by assumption)) rfl rfl rfl (by simp only [go_sem,simprocAttr]) rfl ?_|refine aa hX hC hP (aY _ _ _ (by assumption) (by assumption) (by assumption)) rfl rfl rfl (by simp only [go_sem,simprocAttr]) rfl ?_|refine aa hX hC hP (bU _ _ _ (by assumption) (by assumption) (by assumption)) rfl rfl rfl (by simp only [go_sem,simprocAttr]) rfl ?_);try simp only [go_sem,simprocAttr])|((with_reducible refine oD ?_ ?_);kernel_rfl)|((with_reducible intro h);try simp only [go_sem,simprocAttr] at h)|omega|intro h)
 all_goals (unfold gB;repeat' split)<;>omega
def nG (a b n:Int):Bool:=decide (min a b≤n)&&decide (n≤max a b)
theorem bR (a b n:Int):Spec Tryz.prog 197 (Args [eN a,eN b,eN n]) [] (eB (nG a b n)) []:=by
 (refine Spec.hd (C:=T.cfg [] []) (rs:= [.t 6]) (T.ah _ _) Tryz.func197 rfl rfl Tryz.ntmps197 Tryz.results197 (by simp [AObj.isNest]) (by simp [AObj.isNest]) (by kernel_rfl) T.mixed fun X hX hP hC aB bK=> ?_)
 repeat' (first|refine Rn.p ?_|(with_reducible apply And.intro)|((first|(refine hK _ ?_;clear hK K)|with_reducible intro K hK|refine Rs.p ?_|((with_reducible first|apply oP|apply oQ);exact rfl)|refine aa hX hC hP (hf _) rfl rfl rfl (by simp only [go_sem,simprocAttr]) rfl ?_|refine aa hX hC hP (cZ _) rfl rfl rfl (by simp only [go_sem,simprocAttr]) rfl ?_|refine aa hX hC hP (bQ _ _) rfl rfl rfl (by simp only [go_sem,simprocAttr]) rfl ?_|refine aa hX hC hP (bR _ _ _) rfl rfl rfl (by simp only [go_sem,simprocAttr]) rfl ?_|refine aa hX hC hP (aQ _ _ _ _ (by assumption) (by assumption) (by assumption) (by assumption)) rfl rfl rfl (by simp only [go_sem,simprocAttr]) rfl ?_|refine aa hX hC hP (aY _ _ _ (by assumption) (by assumption) (by assumption)) rfl rfl rfl (by simp only [go_sem,simprocAttr]) rfl ?_|refine aa hX hC hP (bU _ _ _ (by assumption) (by assumption) (by assumption)) rfl rfl rfl (by simp only [go_sem,simprocAttr]) rfl ?_);try simp only [go_sem,simprocAttr])|((with_reducible refine oD ?_ ?_);kernel_rfl)|((with_reducible intro h);try simp only [go_sem,simprocAttr] at h)|omega|intro h)
 all_goals (unfold nG;rw [Bool.eq_iff_iff];simp;omega)
def tm (a b c d:Pt):Int:=(b.1 - a.1)*(d.2 - c.2) - (b.2 - a.2)*(d.1 - c.1)
theorem aQ (a b c d:Pt) (ha:bn a) (hb:bn b) (hc:bn c) (hd:bn d):Spec Tryz.prog 183 (Args [eP a,eP b,eP c,eP d]) [] (eN (tm a b c d)) []:=by
 (refine Spec.hd (C:=T.cfg [] []) (rs:= [.t 8]) (T.ah _ _) Tryz.func183 rfl rfl Tryz.ntmps183 Tryz.results183 (by simp [AObj.isNest]) (by simp [AObj.isNest]) (by kernel_rfl) T.mixed fun X hX hP hC aB bK=> ?_)
 obtain ⟨a1,a2⟩:=a
 obtain ⟨b1,b2⟩:=b
 obtain ⟨c1,c2⟩:=c
 obtain ⟨d1,d2⟩:=d
 simp only [bn] at ha hb hc hd
 have m1:=mw (x:=b1 - a1) (y:=d2 - c2) (m:=524288) (n:=524288) (by omega) (by omega)
 have m2:=mw (x:=b2 - a2) (y:=d1 - c1) (m:=524288) (n:=524288) (by omega) (by omega)
 repeat' (first|refine Rn.p ?_|(with_reducible apply And.intro)|((first|(refine hK _ ?_;clear hK K)|with_reducible intro K hK|refine Rs.p ?_|((with_reducible first|apply oP|apply oQ);exact rfl)|refine aa hX hC hP (hf _) rfl rfl rfl (by simp only [go_sem,simprocAttr]) rfl ?_|refine aa hX hC hP (cZ _) rfl rfl rfl (by simp only [go_sem,simprocAttr]) rfl ?_|refine aa hX hC hP (bQ _ _) rfl rfl rfl (by simp only [go_sem,simprocAttr]) rfl ?_|refine aa hX hC hP (bR _ _ _) rfl rfl rfl (by simp only [go_sem,simprocAttr]) rfl ?_|refine aa hX hC hP (aQ _ _ _ _ (by assumption) (by assumption) (by assumption) (by assumption)) rfl rfl rfl (by simp only [go_sem,simprocAttr]) rfl ?_|refine aa hX hC hP (aY _ _ _ (by assumption) (by assumption) (by assumption)) rfl rfl rfl (by simp only [go_sem,simprocAttr]) rfl ?_|refine aa hX hC hP (bU _ _ _ (by assumption) (by assumption) (by assumption)) rfl rfl rfl (by simp only [go_sem,simprocAttr]) rfl ?_);try simp only [go_sem,simprocAttr])|((with_reducible refine oD ?_ ?_);kernel_rfl)|((with_reducible intro h);try simp only [go_sem,simprocAttr] at h)|omega|intro h)
 all_goals simp [tm]
def sd (a b c:Pt):Int:=gB (tm a b a c) 0
theorem aY (a b c:Pt) (ha:bn a) (hb:bn b) (hc:bn c):Spec Tryz.prog 131 (Args [eP a,eP b,eP c]) [] (eN (sd a b c)) []:=by
 (refine Spec.hd (C:=T.cfg [] []) (rs:= [.t 6]) (T.ah _ _) Tryz.func131 rfl rfl Tryz.ntmps131 Tryz.results131 (by simp [AObj.isNest]) (by simp [AObj.isNest]) (by kernel_rfl) T.mixed fun X hX hP hC aB bK=> ?_)
 repeat' (first|refine Rn.p ?_|(with_reducible apply And.intro)|((first|(refine hK _ ?_;clear hK K)|with_reducible intro K hK|refine Rs.p ?_|((with_reducible first|apply oP|apply oQ);exact rfl)|refine aa hX hC hP (hf _) rfl rfl rfl (by simp only [go_sem,simprocAttr]) rfl ?_|refine aa hX hC hP (cZ _) rfl rfl rfl (by simp only [go_sem,simprocAttr]) rfl ?_|refine aa hX hC hP (bQ _ _) rfl rfl rfl (by simp only [go_sem,simprocAttr]) rfl ?_|refine aa hX hC hP (bR _ _ _) rfl rfl rfl (by simp only [go_sem,simprocAttr]) rfl ?_|refine aa hX hC hP (aQ _ _ _ _ (by assumption) (by assumption) (by assumption) (by assumption)) rfl rfl rfl (by simp only [go_sem,simprocAttr]) rfl ?_|refine aa hX hC hP (aY _ _ _ (by assumption) (by assumption) (by assumption)) rfl rfl rfl (by simp only [go_sem,simprocAttr]) rfl ?_|refine aa hX hC hP (bU _ _ _ (by assumption) (by assumption) (by assumption)) rfl rfl rfl (by simp only [go_sem,simprocAttr]) rfl ?_);try simp only [go_sem,simprocAttr])|((with_reducible refine oD ?_ ?_);kernel_rfl)|((with_reducible intro h);try simp only [go_sem,simprocAttr] at h)|omega|intro h)
 all_goals rfl
def iu (a b c:Pt):Bool:=decide (sd a b c=0)&&nG a.1 b.1 c.1&&nG a.2 b.2 c.2
theorem bU (a b c:Pt) (ha:bn a) (hb:bn b) (hc:bn c):Spec Tryz.prog 171 (Args [eP a,eP b,eP c]) [] (eB (iu a b c)) []:=by
 (refine Spec.hd (C:=T.cfg [] []) (rs:= [.t 6]) (T.ah _ _) Tryz.func171 rfl rfl Tryz.ntmps171 Tryz.results171 (by simp [AObj.isNest]) (by simp [AObj.isNest]) (by kernel_rfl) T.mixed fun X hX hP hC aB bK=> ?_)
 repeat' (first|refine Rn.p ?_|(with_reducible apply And.intro)|((first|(refine hK _ ?_;clear hK K)|with_reducible intro K hK|refine Rs.p ?_|((with_reducible first|apply oP|apply oQ);exact rfl)|refine aa hX hC hP (hf _) rfl rfl rfl (by simp only [go_sem,simprocAttr]) rfl ?_|refine aa hX hC hP (cZ _) rfl rfl rfl (by simp only [go_sem,simprocAttr]) rfl ?_|refine aa hX hC hP (bQ _ _) rfl rfl rfl (by simp only [go_sem,simprocAttr]) rfl ?_|refine aa hX hC hP (bR _ _ _) rfl rfl rfl (by simp only [go_sem,simprocAttr]) rfl ?_|refine aa hX hC hP (aQ _ _ _ _ (by assumption) (by assumption) (by assumption) (by assumption)) rfl rfl rfl (by simp only [go_sem,simprocAttr]) rfl ?_|refine aa hX hC hP (aY _ _ _ (by assumption) (by assumption) (by assumption)) rfl rfl rfl (by simp only [go_sem,simprocAttr]) rfl ?_|refine aa hX hC hP (bU _ _ _ (by assumption) (by assumption) (by assumption)) rfl rfl rfl (by simp only [go_sem,simprocAttr]) rfl ?_);try simp only [go_sem,simprocAttr])|((with_reducible refine oD ?_ ?_);kernel_rfl)|((with_reducible intro h);try simp only [go_sem,simprocAttr] at h)|omega|intro h)
 all_goals simp_all [iu]
end Go.Ab
end
section
namespace Go.Ab
open Go.Proofs
attribute [local congr] ACall.congr gd.congr Nx.congr
set_option maxRecDepth 10000
def jZ (p:Pt):Bool:=decide (262144<max p.1 p.2)||decide (min p.1 p.2< -262144)
theorem kE (p:Pt):Spec Tryz.prog 166 (Args [eP p]) [] (eB (jZ p)) []:=by
 (refine Spec.hd (C:=T.cfg [] []) (rs:= [.t 2]) (T.ah _ _) Tryz.func166 rfl rfl Tryz.ntmps166 Tryz.results166 (by simp [AObj.isNest]) (by simp [AObj.isNest]) (by kernel_rfl) T.mixed fun X hX hP hC aB bK=> ?_)
 repeat' (first|refine Rn.p ?_|(with_reducible apply And.intro)|((first|(refine hK _ ?_;clear hK K)|with_reducible intro K hK|refine Rs.p ?_|((with_reducible first|apply oP|apply oQ);exact rfl)|refine aa hX hC hP (hf _) rfl rfl rfl (by simp only [go_sem,simprocAttr]) rfl ?_|refine aa hX hC hP (eo _ _ hf _ hl) rfl rfl rfl (by simp only [go_sem,simprocAttr]) rfl ?_|refine aa hX hC hP (c7 _ _ kE _ hl) rfl rfl rfl (by simp only [go_sem,simprocAttr]) rfl ?_|refine aa hX hC hP (cZ _) rfl rfl rfl (by simp only [go_sem,simprocAttr]) rfl ?_|refine aa hX hC hP (bQ _ _) rfl rfl rfl (by simp only [go_sem,simprocAttr]) rfl ?_|refine aa hX hC hP (bR _ _ _) rfl rfl rfl (by simp only [go_sem,simprocAttr]) rfl ?_|refine aa hX hC hP (aQ _ _ _ _ (by assumption) (by assumption) (by assumption) (by assumption)) rfl rfl rfl (by simp only [go_sem,simprocAttr]) rfl ?_|refine aa hX hC hP (aY _ _ _ (by assumption) (by assumption) (by assumption)) rfl rfl rfl (by simp only [go_sem,simprocAttr]) rfl ?_|refine aa hX hC hP (bU _ _ _ (by assumption) (by assumption) (by assumption)) rfl rfl rfl (by simp only [go_sem,simprocAttr]) rfl ?_);try simp only [go_sem,simprocAttr])|((with_reducible refine oD ?_ ?_);kernel_rfl)|((with_reducible intro h);try simp only [go_sem,simprocAttr] at h)|omega|intro h)
 all_goals simp_all [jZ]
 all_goals omega
theorem getD_rP (ps:List Pt) (i:Nat):(ps.map rP).getD i [.sc (.int .i64 0), .sc (.int .i64 0)]=rP (ps.getD i (0,0)):=by
 simp only [List.getD_eq_getElem?_getD,List.getElem?_map]
 cases ps[i]? <;>rfl
theorem rP_eq (p:Pt):rP p= [.sc (.int .i64 p.1), .sc (.int .i64 p.2)]:=rfl
attribute [go_sem] getD_rP rP_eq Int.toNat_natCast
theorem eo (f:Nat) (g:Pt→Bool) (hf:∀p,Spec Tryz.prog f (Args [eP p]) [] (eB (g p)) []) (ps:List Pt) (hl:ps.length≤9223372036854775806):
 Spec Tryz.prog 172 (Args [.d (.sl 2 (ps.map rP)), .fn f [] []]) [] (eN (bS g ps)) []:=by
 (refine Spec.hd (C:=T.cfg [] []) (rs:= [.t 4]) (T.ah _ _) Tryz.func172 rfl rfl Tryz.ntmps172 Tryz.results172 (by simp [AObj.isNest]) (by simp [AObj.isNest]) (by kernel_rfl) T.mixed fun X hX hP hC aB bK=> ?_)
 repeat' (first|refine Rn.p ?_|(with_reducible apply And.intro)|((first|(refine hK _ ?_;clear hK K)|with_reducible intro K hK|refine Rs.p ?_|((with_reducible first|apply oP|apply oQ);exact rfl)|refine aa hX hC hP (hf _) rfl rfl rfl (by simp only [go_sem,simprocAttr]) rfl ?_|refine aa hX hC hP (eo _ _ hf _ hl) rfl rfl rfl (by simp only [go_sem,simprocAttr]) rfl ?_|refine aa hX hC hP (c7 _ _ kE _ hl) rfl rfl rfl (by simp only [go_sem,simprocAttr]) rfl ?_|refine aa hX hC hP (cZ _) rfl rfl rfl (by simp only [go_sem,simprocAttr]) rfl ?_|refine aa hX hC hP (bQ _ _) rfl rfl rfl (by simp only [go_sem,simprocAttr]) rfl ?_|refine aa hX hC hP (bR _ _ _) rfl rfl rfl (by simp only [go_sem,simprocAttr]) rfl ?_|refine aa hX hC hP (aQ _ _ _ _ (by assumption) (by assumption) (by assumption) (by assumption)) rfl rfl rfl (by simp only [go_sem,simprocAttr]) rfl ?_|refine aa hX hC hP (aY _ _ _ (by assumption) (by assumption) (by assumption)) rfl rfl rfl (by simp only [go_sem,simprocAttr]) rfl ?_|refine aa hX hC hP (bU _ _ _ (by assumption) (by assumption) (by assumption)) rfl rfl rfl (by simp only [go_sem,simprocAttr]) rfl ?_);try simp only [go_sem,simprocAttr])|((with_reducible refine oD ?_ ?_);kernel_rfl)|((with_reducible intro h);try simp only [go_sem,simprocAttr] at h)|omega|intro h)
 refine ag (fun k:Nat=>k≤ps.length∧∀j,j<k→g (ps.getD j (0,0))=false) (fun k=>⟨[(0, .d (.sl 2 (ps.map rP))),(1, .fn f [] []),(7, .d (.sc (.int .i64 (ps.length:Int)))),(8, .d (.sc (.int .i64 (k:Int))))], []⟩) (fun k=>ps.length - k) 0 (by simp) ?_ ?_
 ·refine Le.of ?_ ?_<;>simp [go_sem,simprocAttr]
 rintro k ⟨hk,hg⟩
 repeat' (first|refine Rn.p ?_|(with_reducible apply And.intro)|((first|(refine hK _ ?_;clear hK K)|with_reducible intro K hK|refine Rs.p ?_|((with_reducible first|apply oP|apply oQ);exact rfl)|refine aa hX hC hP (hf _) rfl rfl rfl (by simp only [go_sem,simprocAttr]) rfl ?_|refine aa hX hC hP (eo _ _ hf _ hl) rfl rfl rfl (by simp only [go_sem,simprocAttr]) rfl ?_|refine aa hX hC hP (c7 _ _ kE _ hl) rfl rfl rfl (by simp only [go_sem,simprocAttr]) rfl ?_|refine aa hX hC hP (cZ _) rfl rfl rfl (by simp only [go_sem,simprocAttr]) rfl ?_|refine aa hX hC hP (bQ _ _) rfl rfl rfl (by simp only [go_sem,simprocAttr]) rfl ?_|refine aa hX hC hP (bR _ _ _) rfl rfl rfl (by simp only [go_sem,simprocAttr]) rfl ?_|refine aa hX hC hP (aQ _ _ _ _ (by assumption) (by assumption) (by assumption) (by assumption)) rfl rfl rfl (by simp only [go_sem,simprocAttr]) rfl ?_|refine aa hX hC hP (aY _ _ _ (by assumption) (by assumption) (by assumption)) rfl rfl rfl (by simp only [go_sem,simprocAttr]) rfl ?_|refine aa hX hC hP (bU _ _ _ (by assumption) (by assumption) (by assumption)) rfl rfl rfl (by simp only [go_sem,simprocAttr]) rfl ?_);try simp only [go_sem,simprocAttr])|((with_reducible refine oD ?_ ?_);kernel_rfl)|((with_reducible intro h);try simp only [go_sem,simprocAttr] at h)|omega|intro h)
 ·exact (bZ (d:=(0,0)) (by omega) hg h).symm
 ·refine ⟨k+1,⟨by omega,fun j hj=> ?_⟩,Le.of ?_ ?_,by omega⟩
  ·by_cases hjk:j=k
   ·subst hjk;exact h
   ·exact hg j (by omega)
  ·simp [go_sem,simprocAttr]
  ·simp [go_sem,simprocAttr]
 ·exact (bA (0,0) fun j hj=>hg j (by omega)).symm
theorem c7 (f:Nat) (g:Pt→Bool) (hf:∀p,Spec Tryz.prog f (Args [eP p]) [] (eB (g p)) []) (ps:List Pt) (hl:ps.length≤9223372036854775806):
 Spec Tryz.prog 127 (Args [.d (.sl 2 (ps.map rP)), .fn f [] []]) [] (eB (ps.any g)) []:=by
 (refine Spec.hd (C:=T.cfg [] []) (rs:= [.t 4]) (T.ah _ _) Tryz.func127 rfl rfl Tryz.ntmps127 Tryz.results127 (by simp [AObj.isNest]) (by simp [AObj.isNest]) (by kernel_rfl) T.mixed fun X hX hP hC aB bK=> ?_)
 repeat' (first|refine Rn.p ?_|(with_reducible apply And.intro)|((first|(refine hK _ ?_;clear hK K)|with_reducible intro K hK|refine Rs.p ?_|((with_reducible first|apply oP|apply oQ);exact rfl)|refine aa hX hC hP (hf _) rfl rfl rfl (by simp only [go_sem,simprocAttr]) rfl ?_|refine aa hX hC hP (eo _ _ hf _ hl) rfl rfl rfl (by simp only [go_sem,simprocAttr]) rfl ?_|refine aa hX hC hP (c7 _ _ kE _ hl) rfl rfl rfl (by simp only [go_sem,simprocAttr]) rfl ?_|refine aa hX hC hP (cZ _) rfl rfl rfl (by simp only [go_sem,simprocAttr]) rfl ?_|refine aa hX hC hP (bQ _ _) rfl rfl rfl (by simp only [go_sem,simprocAttr]) rfl ?_|refine aa hX hC hP (bR _ _ _) rfl rfl rfl (by simp only [go_sem,simprocAttr]) rfl ?_|refine aa hX hC hP (aQ _ _ _ _ (by assumption) (by assumption) (by assumption) (by assumption)) rfl rfl rfl (by simp only [go_sem,simprocAttr]) rfl ?_|refine aa hX hC hP (aY _ _ _ (by assumption) (by assumption) (by assumption)) rfl rfl rfl (by simp only [go_sem,simprocAttr]) rfl ?_|refine aa hX hC hP (bU _ _ _ (by assumption) (by assumption) (by assumption)) rfl rfl rfl (by simp only [go_sem,simprocAttr]) rfl ?_);try simp only [go_sem,simprocAttr])|((with_reducible refine oD ?_ ?_);kernel_rfl)|((with_reducible intro h);try simp only [go_sem,simprocAttr] at h)|omega|intro h)
 rw [← cT]
theorem nH (ps:List Pt) (hl:ps.length≤9223372036854775806):Spec Tryz.prog 115 (Args [.d (.sl 2 (ps.map rP))]) [] (eB (!ps.any jZ)) []:=by
 (refine Spec.hd (C:=T.cfg [] []) (rs:= [.t 2]) (T.ah _ _) Tryz.func115 rfl rfl Tryz.ntmps115 Tryz.results115 (by simp [AObj.isNest]) (by simp [AObj.isNest]) (by kernel_rfl) T.mixed fun X hX hP hC aB bK=> ?_)
 repeat' (first|refine Rn.p ?_|(with_reducible apply And.intro)|((first|(refine hK _ ?_;clear hK K)|with_reducible intro K hK|refine Rs.p ?_|((with_reducible first|apply oP|apply oQ);exact rfl)|refine aa hX hC hP (hf _) rfl rfl rfl (by simp only [go_sem,simprocAttr]) rfl ?_|refine aa hX hC hP (eo _ _ hf _ hl) rfl rfl rfl (by simp only [go_sem,simprocAttr]) rfl ?_|refine aa hX hC hP (c7 _ _ kE _ hl) rfl rfl rfl (by simp only [go_sem,simprocAttr]) rfl ?_|refine aa hX hC hP (cZ _) rfl rfl rfl (by simp only [go_sem,simprocAttr]) rfl ?_|refine aa hX hC hP (bQ _ _) rfl rfl rfl (by simp only [go_sem,simprocAttr]) rfl ?_|refine aa hX hC hP (bR _ _ _) rfl rfl rfl (by simp only [go_sem,simprocAttr]) rfl ?_|refine aa hX hC hP (aQ _ _ _ _ (by assumption) (by assumption) (by assumption) (by assumption)) rfl rfl rfl (by simp only [go_sem,simprocAttr]) rfl ?_|refine aa hX hC hP (aY _ _ _ (by assumption) (by assumption) (by assumption)) rfl rfl rfl (by simp only [go_sem,simprocAttr]) rfl ?_|refine aa hX hC hP (bU _ _ _ (by assumption) (by assumption) (by assumption)) rfl rfl rfl (by simp only [go_sem,simprocAttr]) rfl ?_);try simp only [go_sem,simprocAttr])|((with_reducible refine oD ?_ ?_);kernel_rfl)|((with_reducible intro h);try simp only [go_sem,simprocAttr] at h)|omega|intro h)
end Go.Ab
end
section
namespace Go.Ab
open Go.Proofs
attribute [local congr] ACall.congr gd.congr Nx.congr
set_option maxRecDepth 10000
instance (p:Pt):Decidable (bn p):=by unfold bn;infer_instance
theorem qj (p:Pt):jZ p= !decide (bn p):=by
 by_cases h:bn p
 ·rw [decide_eq_true h]
  simp only [bn] at h
  simp only [jZ,Int.max_def,Int.min_def,Bool.not_true,Bool.or_eq_false_iff,decide_eq_false_iff_not]
  split<;>omega
 ·rw [decide_eq_false h]
  simp only [bn] at h
  simp only [jZ,Int.max_def,Int.min_def,Bool.not_false,Bool.or_eq_true,decide_eq_true_eq]
  split<;>omega
theorem CX (ps:List Pt):(!ps.any jZ)=decide (∀p∈ps,bn p):=by
 rw [Bool.eq_iff_iff];simp [qj]
theorem GD (ps:List Pt) (hl:ps.length≤9223372036854775806) (h:∀p∈ps,bn p):Spec Tryz.prog 115 (Args [.d (.sl 2 (ps.map rP))]) [] (eB true) []:=by
 have:=nH ps hl
 rw [CX,decide_eq_true h] at this
 exact this
theorem CY (ps:List Pt) (hl:ps.length≤9223372036854775806) (h:¬∀p∈ps,bn p):Spec Tryz.prog 115 (Args [.d (.sl 2 (ps.map rP))]) [] (eB false) []:=by
 have:=nH ps hl
 rw [CX,decide_eq_false h] at this
 exact this
theorem CZ (a b c:Pt) (ha:bn a) (hb:bn b) (hc:bn c):Spec Tryz.prog 115 (Args [.d (.sl 2 ([a,b,c].map rP))]) [] (eB true) []:=GD _ (by simp) (by simp [ha,hb,hc])
theorem eA (a b c d:Pt) (ha:bn a) (hb:bn b) (hc:bn c) (hd:bn d):Spec Tryz.prog 115 (Args [.d (.sl 2 ([a,b,c,d].map rP))]) [] (eB true) []:=GD _ (by simp) (by simp [ha,hb,hc,hd])
theorem Aa (a b c:Pt) (h:¬(bn a∧bn b∧bn c)):Spec Tryz.prog 115 (Args [.d (.sl 2 ([a,b,c].map rP))]) [] (eB false) []:=CY _ (by simp) (by simpa using h)
theorem c8 (a b c d:Pt) (h:¬(bn a∧bn b∧bn c∧bn d)):Spec Tryz.prog 115 (Args [.d (.sl 2 ([a,b,c,d].map rP))]) [] (eB false) []:=CY _ (by simp) (by simpa using h)
def R9 (a b c:Pt):Int:=if bn a∧bn b∧bn c then sd a b c else 0
def lH (a b c:Pt):Bool:=decide (bn a∧bn b∧bn c)&&iu a b c
theorem yu (a b c:Pt):Spec Tryz.prog 126 (Args [eP a,eP b,eP c]) [] (eB (lH a b c)) []:=by
 by_cases hin:bn a∧bn b∧bn c
 ·obtain ⟨ha,hb,hc⟩:=hin
  (refine Spec.hd (C:=T.cfg [] []) (rs:= [.t 6]) (T.ah _ _) Tryz.func126 rfl rfl Tryz.ntmps126 Tryz.results126 (by simp [AObj.isNest]) (by simp [AObj.isNest]) (by kernel_rfl) T.mixed fun X hX hP hC aB bK=> ?_)
  repeat' (first|refine Rn.p ?_|(with_reducible apply And.intro)|((first|(refine hK _ ?_;clear hK K)|with_reducible intro K hK|refine Rs.p ?_|((with_reducible first|apply oP|apply oQ);exact rfl)|refine aa hX hC hP (bQ _ _) rfl rfl rfl (by simp only [go_sem,simprocAttr]) rfl ?_|refine aa hX hC hP (bR _ _ _) rfl rfl rfl (by simp only [go_sem,simprocAttr]) rfl ?_|refine aa hX hC hP (aQ _ _ _ _ (by assumption) (by assumption) (by assumption) (by assumption)) rfl rfl rfl (by simp only [go_sem,simprocAttr]) rfl ?_|refine aa hX hC hP (aY _ _ _ (by assumption) (by assumption) (by assumption)) rfl rfl rfl (by simp only [go_sem,simprocAttr]) rfl ?_|refine aa hX hC hP (bU _ _ _ (by assumption) (by assumption) (by assumption)) rfl rfl rfl (by simp only [go_sem,simprocAttr]) rfl ?_|(refine aq hX hC hP (CZ a b c (by assumption) (by assumption) (by assumption)) rfl rfl rfl ?_ ?_ rfl ?_;iterate 2 (focus (simp only [go_sem,simprocAttr];done)))|(refine aq hX hC hP (eA a b c d (by assumption) (by assumption) (by assumption) (by assumption)) rfl rfl rfl ?_ ?_ rfl ?_;iterate 2 (focus (simp only [go_sem,simprocAttr];done)))|(refine aq hX hC hP (Aa a b c (by assumption)) rfl rfl rfl ?_ ?_ rfl ?_;iterate 2 (focus (simp only [go_sem,simprocAttr];done)))|(refine aq hX hC hP (c8 a b c d (by assumption)) rfl rfl rfl ?_ ?_ rfl ?_;iterate 2 (focus (simp only [go_sem,simprocAttr];done))));try simp only [go_sem,simprocAttr])|((with_reducible refine oD ?_ ?_);kernel_rfl)|((with_reducible intro h);try simp only [go_sem,simprocAttr] at h)|omega|intro h)
  all_goals simp [lH,ha,hb,hc]
 ·(refine Spec.hd (C:=T.cfg [] []) (rs:= [.t 6]) (T.ah _ _) Tryz.func126 rfl rfl Tryz.ntmps126 Tryz.results126 (by simp [AObj.isNest]) (by simp [AObj.isNest]) (by kernel_rfl) T.mixed fun X hX hP hC aB bK=> ?_)
  repeat' (first|refine Rn.p ?_|(with_reducible apply And.intro)|((first|(refine hK _ ?_;clear hK K)|with_reducible intro K hK|refine Rs.p ?_|((with_reducible first|apply oP|apply oQ);exact rfl)|refine aa hX hC hP (bQ _ _) rfl rfl rfl (by simp only [go_sem,simprocAttr]) rfl ?_|refine aa hX hC hP (bR _ _ _) rfl rfl rfl (by simp only [go_sem,simprocAttr]) rfl ?_|refine aa hX hC hP (aQ _ _ _ _ (by assumption) (by assumption) (by assumption) (by assumption)) rfl rfl rfl (by simp only [go_sem,simprocAttr]) rfl ?_|refine aa hX hC hP (aY _ _ _ (by assumption) (by assumption) (by assumption)) rfl rfl rfl (by simp only [go_sem,simprocAttr]) rfl ?_|refine aa hX hC hP (bU _ _ _ (by assumption) (by assumption) (by assumption)) rfl rfl rfl (by simp only [go_sem,simprocAttr]) rfl ?_|(refine aq hX hC hP (CZ a b c (by assumption) (by assumption) (by assumption)) rfl rfl rfl ?_ ?_ rfl ?_;iterate 2 (focus (simp only [go_sem,simprocAttr];done)))|(refine aq hX hC hP (eA a b c d (by assumption) (by assumption) (by assumption) (by assumption)) rfl rfl rfl ?_ ?_ rfl ?_;iterate 2 (focus (simp only [go_sem,simprocAttr];done)))|(refine aq hX hC hP (Aa a b c (by assumption)) rfl rfl rfl ?_ ?_ rfl ?_;iterate 2 (focus (simp only [go_sem,simprocAttr];done)))|(refine aq hX hC hP (c8 a b c d (by assumption)) rfl rfl rfl ?_ ?_ rfl ?_;iterate 2 (focus (simp only [go_sem,simprocAttr];done))));try simp only [go_sem,simprocAttr])|((with_reducible refine oD ?_ ?_);kernel_rfl)|((with_reducible intro h);try simp only [go_sem,simprocAttr] at h)|omega|intro h)
  all_goals rw [lH,decide_eq_false hin];rfl
end Go.Ab
end
section
namespace Go.Ab
open Go.Proofs
attribute [local congr] ACall.congr gd.congr Nx.congr
set_option maxRecDepth 10000
theorem KQ {p:Prop} [Decidable p] {b:Bool} (h:b=true↔p):b=decide p:=by
 by_cases hp:p
 ·rw [decide_eq_true hp];exact h.2 hp
 ·rw [decide_eq_false hp]
  cases b with
  |true=>exact absurd (h.1 rfl) hp
  |false=>rfl
theorem lI (p:Pt):Spec Tryz.prog 108 (Args [eP p]) [] (eB (decide (bn p))) []:=by
 (refine Spec.hd (C:=T.cfg [] []) (rs:= [.t 2]) (T.ah _ _) Tryz.func108 rfl rfl Tryz.ntmps108 Tryz.results108 (by simp [AObj.isNest]) (by simp [AObj.isNest]) (by kernel_rfl) T.mixed fun X hX hP hC aB bK=> ?_)
 repeat' (first|refine Rn.p ?_|(with_reducible apply And.intro)|((first|(refine hK _ ?_;clear hK K)|with_reducible intro K hK|refine Rs.p ?_|((with_reducible first|apply oP|apply oQ);exact rfl)|refine aa hX hC hP (bg _ (by assumption)) rfl rfl rfl (by simp only [go_sem,simprocAttr]) rfl ?_|refine aa hX hC hP (aW _ (by assumption)) rfl rfl rfl (by simp only [go_sem,simprocAttr]) rfl ?_|refine aa hX hC hP (bH _) rfl rfl rfl (by simp only [go_sem,simprocAttr]) rfl ?_|refine aa hX hC hP (bI _ _ _ (by assumption) (by assumption) (by assumption)) rfl rfl rfl (by simp only [go_sem,simprocAttr]) rfl ?_|refine aa hX hC hP (bh _ _ _ (by assumption) (by assumption) (by assumption)) rfl rfl rfl (by simp only [go_sem,simprocAttr]) rfl ?_|refine aa hX hC hP (bf _ _ _) rfl rfl rfl (by simp only [go_sem,simprocAttr]) rfl ?_);try simp only [go_sem,simprocAttr])|((with_reducible refine oD ?_ ?_);kernel_rfl)|((with_reducible intro h);try simp only [go_sem,simprocAttr] at h)|omega|intro h)
 all_goals (refine KQ ?_;simp only [bn,decide_eq_true_eq,Bool.false_eq_true,false_iff];omega)
theorem bg (p:Pt) (h:bn p):Spec Tryz.prog 108 (Args [eP p]) [] (eB true) []:=by
 have:=lI p;rwa [decide_eq_true h] at this
theorem aW (p:Pt) (h:¬bn p):Spec Tryz.prog 108 (Args [eP p]) [] (eB false) []:=by
 have:=lI p;rwa [decide_eq_false h] at this
theorem bH (n:Int):Spec Tryz.prog 158 (Args [eN n]) [] (eN (gB n 0)) []:=by
 (refine Spec.hd (C:=T.cfg [] []) (rs:= [.t 2]) (T.ah _ _) Tryz.func158 rfl rfl Tryz.ntmps158 Tryz.results158 (by simp [AObj.isNest]) (by simp [AObj.isNest]) (by kernel_rfl) T.mixed fun X hX hP hC aB bK=> ?_)
 repeat' (first|refine Rn.p ?_|(with_reducible apply And.intro)|((first|(refine hK _ ?_;clear hK K)|with_reducible intro K hK|refine Rs.p ?_|((with_reducible first|apply oP|apply oQ);exact rfl)|refine aa hX hC hP (bg _ (by assumption)) rfl rfl rfl (by simp only [go_sem,simprocAttr]) rfl ?_|refine aa hX hC hP (aW _ (by assumption)) rfl rfl rfl (by simp only [go_sem,simprocAttr]) rfl ?_|refine aa hX hC hP (bH _) rfl rfl rfl (by simp only [go_sem,simprocAttr]) rfl ?_|refine aa hX hC hP (bI _ _ _ (by assumption) (by assumption) (by assumption)) rfl rfl rfl (by simp only [go_sem,simprocAttr]) rfl ?_|refine aa hX hC hP (bh _ _ _ (by assumption) (by assumption) (by assumption)) rfl rfl rfl (by simp only [go_sem,simprocAttr]) rfl ?_|refine aa hX hC hP (bf _ _ _) rfl rfl rfl (by simp only [go_sem,simprocAttr]) rfl ?_);try simp only [go_sem,simprocAttr])|((with_reducible refine oD ?_ ?_);kernel_rfl)|((with_reducible intro h);try simp only [go_sem,simprocAttr] at h)|omega|intro h)
 all_goals (unfold gB;repeat' split)<;>omega
def aj (a b c:Pt):Int:=a.1*b.2 - a.2*b.1+b.1*c.2 - b.2*c.1+c.1*a.2 - c.2*a.1
theorem bI (a b c:Pt) (ha:bn a) (hb:bn b) (hc:bn c):Spec Tryz.prog 157 (Args [eP a,eP b,eP c]) [] (eN (aj a b c)) []:=by
 (refine Spec.hd (C:=T.cfg [] []) (rs:= [.t 6]) (T.ah _ _) Tryz.func157 rfl rfl Tryz.ntmps157 Tryz.results157 (by simp [AObj.isNest]) (by simp [AObj.isNest]) (by kernel_rfl) T.mixed fun X hX hP hC aB bK=> ?_)
 have m1:=mw ha.1 hb.2
 have m2:=mw ha.2 hb.1
 have m3:=mw hb.1 hc.2
 have m4:=mw hb.2 hc.1
 have m5:=mw hc.1 ha.2
 have m6:=mw hc.2 ha.1
 repeat' (first|refine Rn.p ?_|(with_reducible apply And.intro)|((first|(refine hK _ ?_;clear hK K)|with_reducible intro K hK|refine Rs.p ?_|((with_reducible first|apply oP|apply oQ);exact rfl)|refine aa hX hC hP (bg _ (by assumption)) rfl rfl rfl (by simp only [go_sem,simprocAttr]) rfl ?_|refine aa hX hC hP (aW _ (by assumption)) rfl rfl rfl (by simp only [go_sem,simprocAttr]) rfl ?_|refine aa hX hC hP (bH _) rfl rfl rfl (by simp only [go_sem,simprocAttr]) rfl ?_|refine aa hX hC hP (bI _ _ _ (by assumption) (by assumption) (by assumption)) rfl rfl rfl (by simp only [go_sem,simprocAttr]) rfl ?_|refine aa hX hC hP (bh _ _ _ (by assumption) (by assumption) (by assumption)) rfl rfl rfl (by simp only [go_sem,simprocAttr]) rfl ?_|refine aa hX hC hP (bf _ _ _) rfl rfl rfl (by simp only [go_sem,simprocAttr]) rfl ?_);try simp only [go_sem,simprocAttr])|((with_reducible refine oD ?_ ?_);kernel_rfl)|((with_reducible intro h);try simp only [go_sem,simprocAttr] at h)|omega|intro h)
 all_goals rfl
def an (a b p:Pt):Int:=(p.1 - a.1)*(b.1 - a.1)+(p.2 - a.2)*(b.2 - a.2)
theorem bh (a b c:Pt) (ha:bn a) (hb:bn b) (hc:bn c):Spec Tryz.prog 159 (Args [eP a,eP b,eP c]) [] (eN (an a b c)) []:=by
 (refine Spec.hd (C:=T.cfg [] []) (rs:= [.t 6]) (T.ah _ _) Tryz.func159 rfl rfl Tryz.ntmps159 Tryz.results159 (by simp [AObj.isNest]) (by simp [AObj.isNest]) (by kernel_rfl) T.mixed fun X hX hP hC aB bK=> ?_)
 simp only [bn] at ha hb hc
 have m1:=mw (x:=c.1 - a.1) (y:=b.1 - a.1) (m:=524288) (n:=524288) (by omega) (by omega)
 have m2:=mw (x:=c.2 - a.2) (y:=b.2 - a.2) (m:=524288) (n:=524288) (by omega) (by omega)
 repeat' (first|refine Rn.p ?_|(with_reducible apply And.intro)|((first|(refine hK _ ?_;clear hK K)|with_reducible intro K hK|refine Rs.p ?_|((with_reducible first|apply oP|apply oQ);exact rfl)|refine aa hX hC hP (bg _ (by assumption)) rfl rfl rfl (by simp only [go_sem,simprocAttr]) rfl ?_|refine aa hX hC hP (aW _ (by assumption)) rfl rfl rfl (by simp only [go_sem,simprocAttr]) rfl ?_|refine aa hX hC hP (bH _) rfl rfl rfl (by simp only [go_sem,simprocAttr]) rfl ?_|refine aa hX hC hP (bI _ _ _ (by assumption) (by assumption) (by assumption)) rfl rfl rfl (by simp only [go_sem,simprocAttr]) rfl ?_|refine aa hX hC hP (bh _ _ _ (by assumption) (by assumption) (by assumption)) rfl rfl rfl (by simp only [go_sem,simprocAttr]) rfl ?_|refine aa hX hC hP (bf _ _ _) rfl rfl rfl (by simp only [go_sem,simprocAttr]) rfl ?_);try simp only [go_sem,simprocAttr])|((with_reducible refine oD ?_ ?_);kernel_rfl)|((with_reducible intro h);try simp only [go_sem,simprocAttr] at h)|omega|intro h)
 all_goals rfl
def Ac (a b c:Pt):Int:=if bn a∧bn b∧bn c then gB (aj a b c) 0 else 0
def j0 (a b c:Pt):Bool:=decide (bn a∧bn b∧bn c)&&(decide (aj a b c=0)&&decide ((a.1 - c.1)*(b.1 - c.1)+(a.2 - c.2)*(b.2 - c.2)≤0))
theorem bf (a b c:Pt):Spec Tryz.prog 109 (Args [eP a,eP b,eP c]) [] (eB (j0 a b c)) []:=by
 by_cases ha:bn a
 ·by_cases hb:bn b
  ·by_cases hc:bn c
   ·(refine Spec.hd (C:=T.cfg [] []) (rs:= [.t 6]) (T.ah _ _) Tryz.func109 rfl rfl Tryz.ntmps109 Tryz.results109 (by simp [AObj.isNest]) (by simp [AObj.isNest]) (by kernel_rfl) T.mixed fun X hX hP hC aB bK=> ?_)
    have i1:=ha
    have i2:=hb
    have i3:=hc
    simp only [bn] at i1 i2 i3
    have m1:=mw (x:=a.1 - c.1) (y:=b.1 - c.1) (m:=524288) (n:=524288) (by omega) (by omega)
    have m2:=mw (x:=a.2 - c.2) (y:=b.2 - c.2) (m:=524288) (n:=524288) (by omega) (by omega)
    repeat' (first|refine Rn.p ?_|(with_reducible apply And.intro)|((first|(refine hK _ ?_;clear hK K)|with_reducible intro K hK|refine Rs.p ?_|((with_reducible first|apply oP|apply oQ);exact rfl)|refine aa hX hC hP (bg _ (by assumption)) rfl rfl rfl (by simp only [go_sem,simprocAttr]) rfl ?_|refine aa hX hC hP (aW _ (by assumption)) rfl rfl rfl (by simp only [go_sem,simprocAttr]) rfl ?_|refine aa hX hC hP (bH _) rfl rfl rfl (by simp only [go_sem,simprocAttr]) rfl ?_|refine aa hX hC hP (bI _ _ _ (by assumption) (by assumption) (by assumption)) rfl rfl rfl (by simp only [go_sem,simprocAttr]) rfl ?_|refine aa hX hC hP (bh _ _ _ (by assumption) (by assumption) (by assumption)) rfl rfl rfl (by simp only [go_sem,simprocAttr]) rfl ?_|refine aa hX hC hP (bf _ _ _) rfl rfl rfl (by simp only [go_sem,simprocAttr]) rfl ?_);try simp only [go_sem,simprocAttr])|((with_reducible refine oD ?_ ?_);kernel_rfl)|((with_reducible intro h);try simp only [go_sem,simprocAttr] at h)|omega|intro h)
    all_goals simp_all [j0]
   ·(refine Spec.hd (C:=T.cfg [] []) (rs:= [.t 6]) (T.ah _ _) Tryz.func109 rfl rfl Tryz.ntmps109 Tryz.results109 (by simp [AObj.isNest]) (by simp [AObj.isNest]) (by kernel_rfl) T.mixed fun X hX hP hC aB bK=> ?_)
    repeat' (first|refine Rn.p ?_|(with_reducible apply And.intro)|((first|(refine hK _ ?_;clear hK K)|with_reducible intro K hK|refine Rs.p ?_|((with_reducible first|apply oP|apply oQ);exact rfl)|refine aa hX hC hP (bg _ (by assumption)) rfl rfl rfl (by simp only [go_sem,simprocAttr]) rfl ?_|refine aa hX hC hP (aW _ (by assumption)) rfl rfl rfl (by simp only [go_sem,simprocAttr]) rfl ?_|refine aa hX hC hP (bH _) rfl rfl rfl (by simp only [go_sem,simprocAttr]) rfl ?_|refine aa hX hC hP (bI _ _ _ (by assumption) (by assumption) (by assumption)) rfl rfl rfl (by simp only [go_sem,simprocAttr]) rfl ?_|refine aa hX hC hP (bh _ _ _ (by assumption) (by assumption) (by assumption)) rfl rfl rfl (by simp only [go_sem,simprocAttr]) rfl ?_|refine aa hX hC hP (bf _ _ _) rfl rfl rfl (by simp only [go_sem,simprocAttr]) rfl ?_);try simp only [go_sem,simprocAttr])|((with_reducible refine oD ?_ ?_);kernel_rfl)|((with_reducible intro h);try simp only [go_sem,simprocAttr] at h)|omega|intro h)
    all_goals simp [j0,ha,hb,hc]
  ·(refine Spec.hd (C:=T.cfg [] []) (rs:= [.t 6]) (T.ah _ _) Tryz.func109 rfl rfl Tryz.ntmps109 Tryz.results109 (by simp [AObj.isNest]) (by simp [AObj.isNest]) (by kernel_rfl) T.mixed fun X hX hP hC aB bK=> ?_)
   repeat' (first|refine Rn.p ?_|(with_reducible apply And.intro)|((first|(refine hK _ ?_;clear hK K)|with_reducible intro K hK|refine Rs.p ?_|((with_reducible first|apply oP|apply oQ);exact rfl)|refine aa hX hC hP (bg _ (by assumption)) rfl rfl rfl (by simp only [go_sem,simprocAttr]) rfl ?_|refine aa hX hC hP (aW _ (by assumption)) rfl rfl rfl (by simp only [go_sem,simprocAttr]) rfl ?_|refine aa hX hC hP (bH _) rfl rfl rfl (by simp only [go_sem,simprocAttr]) rfl ?_|refine aa hX hC hP (bI _ _ _ (by assumption) (by assumption) (by assumption)) rfl rfl rfl (by simp only [go_sem,simprocAttr]) rfl ?_|refine aa hX hC hP (bh _ _ _ (by assumption) (by assumption) (by assumption)) rfl rfl rfl (by simp only [go_sem,simprocAttr]) rfl ?_|refine aa hX hC hP (bf _ _ _) rfl rfl rfl (by simp only [go_sem,simprocAttr]) rfl ?_);try simp only [go_sem,simprocAttr])|((with_reducible refine oD ?_ ?_);kernel_rfl)|((with_reducible intro h);try simp only [go_sem,simprocAttr] at h)|omega|intro h)
   all_goals simp [j0,ha,hb]
 ·(refine Spec.hd (C:=T.cfg [] []) (rs:= [.t 6]) (T.ah _ _) Tryz.func109 rfl rfl Tryz.ntmps109 Tryz.results109 (by simp [AObj.isNest]) (by simp [AObj.isNest]) (by kernel_rfl) T.mixed fun X hX hP hC aB bK=> ?_)
  repeat' (first|refine Rn.p ?_|(with_reducible apply And.intro)|((first|(refine hK _ ?_;clear hK K)|with_reducible intro K hK|refine Rs.p ?_|((with_reducible first|apply oP|apply oQ);exact rfl)|refine aa hX hC hP (bg _ (by assumption)) rfl rfl rfl (by simp only [go_sem,simprocAttr]) rfl ?_|refine aa hX hC hP (aW _ (by assumption)) rfl rfl rfl (by simp only [go_sem,simprocAttr]) rfl ?_|refine aa hX hC hP (bH _) rfl rfl rfl (by simp only [go_sem,simprocAttr]) rfl ?_|refine aa hX hC hP (bI _ _ _ (by assumption) (by assumption) (by assumption)) rfl rfl rfl (by simp only [go_sem,simprocAttr]) rfl ?_|refine aa hX hC hP (bh _ _ _ (by assumption) (by assumption) (by assumption)) rfl rfl rfl (by simp only [go_sem,simprocAttr]) rfl ?_|refine aa hX hC hP (bf _ _ _) rfl rfl rfl (by simp only [go_sem,simprocAttr]) rfl ?_);try simp only [go_sem,simprocAttr])|((with_reducible refine oD ?_ ?_);kernel_rfl)|((with_reducible intro h);try simp only [go_sem,simprocAttr] at h)|omega|intro h)
  all_goals simp [j0,ha]
end Go.Ab
end
section
namespace Go.Ab
open Go.Proofs
attribute [local congr] ACall.congr gd.congr Nx.congr
set_option maxRecDepth 10000
set_option maxHeartbeats 2000000
def tj:OT:=(.br 0 (.br 1 (.br 2 (.br 3 (.br 4 (.br 5 (.br 6 .nil .nil) .nil) .nil) (.br 4 (.br 3 (.br 5 (.br 6 .nil .nil) .nil) (.br 5 (.br 3 (.br 6 .nil .nil) .nil) .nil)) .nil)) (.br 4 (.br 2 (.br 3 (.br 5 (.br 6 .nil .nil) .nil) (.br 5 (.br 3 (.br 6 .nil .nil) .nil) .nil)) (.br 5 (.br 2 (.br 3 (.br 6 .nil .nil) .nil) .nil) .nil)) .nil)) .nil) (.br 1 (.br 0 (.br 2 (.br 3 (.br 4 (.br 5 (.br 6 .nil .nil) .nil) .nil) (.br 4 (.br 3 (.br 5 (.br 6 .nil .nil) .nil) (.br 5 (.br 3 (.br 6 .nil .nil) .nil) .nil)) .nil)) (.br 4 (.br 2 (.br 3 (.br 5 (.br 6 .nil .nil) .nil) (.br 5 (.br 3 (.br 6 .nil .nil) .nil) .nil)) (.br 5 (.br 2 (.br 3 (.br 6 .nil .nil) .nil) .nil) .nil)) .nil)) .nil) .nil))
theorem mV (n:Int): -1≤gB n 0∧gB n 0≤1:=by unfold gB;repeat' split<;>omega
def gC (a b c d:Pt):Int:=
 if bn a∧bn b∧bn c∧bn d then
  if a=b then (if j0 c d a=true then 1 else 0)
  else if c=d then (if j0 a b c=true then 1 else 0)
  else if gB (aj a b c) 0=0∧gB (aj a b d) 0=0 then
   let lo:=max (an a b a) (min (an a b c) (an a b d))
   let hi:=min (an a b b) (max (an a b c) (an a b d))
   if hi<lo then 0 else if lo=hi then 1 else 2
  else if gB (aj a b c) 0*gB (aj a b d) 0≤0∧gB (aj c d a) 0*gB (aj c d b) 0≤0 then 1 else 0
 else 0
theorem yw (a b c d:Pt):Spec Tryz.prog 110 (Args [eP a,eP b,eP c,eP d]) [] (eN (gC a b c d)) []:=by
 by_cases ha:bn a
 ·by_cases hb:bn b
  ·by_cases hc:bn c
   ·by_cases hd:bn d
    ·(refine Spec.hd (C:=T.cfg [] []) (rs:= [.t 8]) (T.ah _ _) Tryz.func110 rfl rfl Tryz.ntmps110 Tryz.results110 (by simp [AObj.isNest]) (by simp [AObj.isNest]) (by kernel_rfl) T.mixed fun X hX hP hC aB bK=> ?_)
     have m1:=mw (mV (aj a b c)) (mV (aj a b d))
     have m2:=mw (mV (aj c d a)) (mV (aj c d b))
     repeat' (first|((with_reducible refine ef hX hC aB tj (by kernel_rfl) ?_);simp only [tj])|((with_reducible apply oI);(iterate 2 exact rfl);intro K hK;try simp only [go_sem,simprocAttr])|(with_reducible (first|apply oJ|exact oK))|refine Rn.p ?_|(with_reducible apply And.intro)|((first|(refine hK _ ?_;clear hK K)|with_reducible intro K hK|refine Rs.p ?_|((with_reducible first|apply oP|apply oQ);exact rfl)|refine aa hX hC hP (bg _ (by assumption)) rfl rfl rfl (by simp only [go_sem,simprocAttr]) rfl ?_|refine aa hX hC hP (aW _ (by assumption)) rfl rfl rfl (by simp only [go_sem,simprocAttr]) rfl ?_|refine aa hX hC hP (bH _) rfl rfl rfl (by simp only [go_sem,simprocAttr]) rfl ?_|refine aa hX hC hP (bI _ _ _ (by assumption) (by assumption) (by assumption)) rfl rfl rfl (by simp only [go_sem,simprocAttr]) rfl ?_|refine aa hX hC hP (bh _ _ _ (by assumption) (by assumption) (by assumption)) rfl rfl rfl (by simp only [go_sem,simprocAttr]) rfl ?_|refine aa hX hC hP (bf _ _ _) rfl rfl rfl (by simp only [go_sem,simprocAttr]) rfl ?_|refine aa hX hC hP (aQ _ _ _ _ (by assumption) (by assumption) (by assumption) (by assumption)) rfl rfl rfl (by simp only [go_sem,simprocAttr]) rfl ?_|refine aa hX hC hP (aY _ _ _ (by assumption) (by assumption) (by assumption)) rfl rfl rfl (by simp only [go_sem,simprocAttr]) rfl ?_|refine aa hX hC hP (bU _ _ _ (by assumption) (by assumption) (by assumption)) rfl rfl rfl (by simp only [go_sem,simprocAttr]) rfl ?_|(refine aq hX hC hP (eA a b c d (by assumption) (by assumption) (by assumption) (by assumption)) rfl rfl rfl ?_ ?_ rfl ?_;iterate 2 (focus (simp only [go_sem,simprocAttr];done)))|(refine aq hX hC hP (c8 a b c d (by assumption)) rfl rfl rfl ?_ ?_ rfl ?_;iterate 2 (focus (simp only [go_sem,simprocAttr];done))));try simp only [go_sem,simprocAttr])|((with_reducible refine oD ?_ ?_);kernel_rfl)|((with_reducible intro h);try simp only [go_sem,simprocAttr] at h)|omega|intro h)
     all_goals simp only [gC,ha,hb,hc,hd,and_self,if_true,Prod.ext_iff]
     all_goals clear hX aB hP hC bK X
     all_goals grind
    ·(refine Spec.hd (C:=T.cfg [] []) (rs:= [.t 8]) (T.ah _ _) Tryz.func110 rfl rfl Tryz.ntmps110 Tryz.results110 (by simp [AObj.isNest]) (by simp [AObj.isNest]) (by kernel_rfl) T.mixed fun X hX hP hC aB bK=> ?_)
     repeat' (first|((with_reducible refine ef hX hC aB tj (by kernel_rfl) ?_);simp only [tj])|((with_reducible apply oI);(iterate 2 exact rfl);intro K hK;try simp only [go_sem,simprocAttr])|(with_reducible (first|apply oJ|exact oK))|refine Rn.p ?_|(with_reducible apply And.intro)|((first|(refine hK _ ?_;clear hK K)|with_reducible intro K hK|refine Rs.p ?_|((with_reducible first|apply oP|apply oQ);exact rfl)|refine aa hX hC hP (bg _ (by assumption)) rfl rfl rfl (by simp only [go_sem,simprocAttr]) rfl ?_|refine aa hX hC hP (aW _ (by assumption)) rfl rfl rfl (by simp only [go_sem,simprocAttr]) rfl ?_|refine aa hX hC hP (bH _) rfl rfl rfl (by simp only [go_sem,simprocAttr]) rfl ?_|refine aa hX hC hP (bI _ _ _ (by assumption) (by assumption) (by assumption)) rfl rfl rfl (by simp only [go_sem,simprocAttr]) rfl ?_|refine aa hX hC hP (bh _ _ _ (by assumption) (by assumption) (by assumption)) rfl rfl rfl (by simp only [go_sem,simprocAttr]) rfl ?_|refine aa hX hC hP (bf _ _ _) rfl rfl rfl (by simp only [go_sem,simprocAttr]) rfl ?_|refine aa hX hC hP (aQ _ _ _ _ (by assumption) (by assumption) (by assumption) (by assumption)) rfl rfl rfl (by simp only [go_sem,simprocAttr]) rfl ?_|refine aa hX hC hP (aY _ _ _ (by assumption) (by assumption) (by assumption)) rfl rfl rfl (by simp only [go_sem,simprocAttr]) rfl ?_|refine aa hX hC hP (bU _ _ _ (by assumption) (by assumption) (by assumption)) rfl rfl rfl (by simp only [go_sem,simprocAttr]) rfl ?_|(refine aq hX hC hP (eA a b c d (by assumption) (by assumption) (by assumption) (by assumption)) rfl rfl rfl ?_ ?_ rfl ?_;iterate 2 (focus (simp only [go_sem,simprocAttr];done)))|(refine aq hX hC hP (c8 a b c d (by assumption)) rfl rfl rfl ?_ ?_ rfl ?_;iterate 2 (focus (simp only [go_sem,simprocAttr];done))));try simp only [go_sem,simprocAttr])|((with_reducible refine oD ?_ ?_);kernel_rfl)|((with_reducible intro h);try simp only [go_sem,simprocAttr] at h)|omega|intro h)
     all_goals simp [gC,hd]
   ·(refine Spec.hd (C:=T.cfg [] []) (rs:= [.t 8]) (T.ah _ _) Tryz.func110 rfl rfl Tryz.ntmps110 Tryz.results110 (by simp [AObj.isNest]) (by simp [AObj.isNest]) (by kernel_rfl) T.mixed fun X hX hP hC aB bK=> ?_)
    repeat' (first|((with_reducible refine ef hX hC aB tj (by kernel_rfl) ?_);simp only [tj])|((with_reducible apply oI);(iterate 2 exact rfl);intro K hK;try simp only [go_sem,simprocAttr])|(with_reducible (first|apply oJ|exact oK))|refine Rn.p ?_|(with_reducible apply And.intro)|((first|(refine hK _ ?_;clear hK K)|with_reducible intro K hK|refine Rs.p ?_|((with_reducible first|apply oP|apply oQ);exact rfl)|refine aa hX hC hP (bg _ (by assumption)) rfl rfl rfl (by simp only [go_sem,simprocAttr]) rfl ?_|refine aa hX hC hP (aW _ (by assumption)) rfl rfl rfl (by simp only [go_sem,simprocAttr]) rfl ?_|refine aa hX hC hP (bH _) rfl rfl rfl (by simp only [go_sem,simprocAttr]) rfl ?_|refine aa hX hC hP (bI _ _ _ (by assumption) (by assumption) (by assumption)) rfl rfl rfl (by simp only [go_sem,simprocAttr]) rfl ?_|refine aa hX hC hP (bh _ _ _ (by assumption) (by assumption) (by assumption)) rfl rfl rfl (by simp only [go_sem,simprocAttr]) rfl ?_|refine aa hX hC hP (bf _ _ _) rfl rfl rfl (by simp only [go_sem,simprocAttr]) rfl ?_|refine aa hX hC hP (aQ _ _ _ _ (by assumption) (by assumption) (by assumption) (by assumption)) rfl rfl rfl (by simp only [go_sem,simprocAttr]) rfl ?_|refine aa hX hC hP (aY _ _ _ (by assumption) (by assumption) (by assumption)) rfl rfl rfl (by simp only [go_sem,simprocAttr]) rfl ?_|refine aa hX hC hP (bU _ _ _ (by assumption) (by assumption) (by assumption)) rfl rfl rfl (by simp only [go_sem,simprocAttr]) rfl ?_|(refine aq hX hC hP (eA a b c d (by assumption) (by assumption) (by assumption) (by assumption)) rfl rfl rfl ?_ ?_ rfl ?_;iterate 2 (focus (simp only [go_sem,simprocAttr];done)))|(refine aq hX hC hP (c8 a b c d (by assumption)) rfl rfl rfl ?_ ?_ rfl ?_;iterate 2 (focus (simp only [go_sem,simprocAttr];done))));try simp only [go_sem,simprocAttr])|((with_reducible refine oD ?_ ?_);kernel_rfl)|((with_reducible intro h);try simp only [go_sem,simprocAttr] at h)|omega|intro h)
    all_goals simp [gC,hc]
  ·(refine Spec.hd (C:=T.cfg [] []) (rs:= [.t 8]) (T.ah _ _) Tryz.func110 rfl rfl Tryz.ntmps110 Tryz.results110 (by simp [AObj.isNest]) (by simp [AObj.isNest]) (by kernel_rfl) T.mixed fun X hX hP hC aB bK=> ?_)
   repeat' (first|((with_reducible refine ef hX hC aB tj (by kernel_rfl) ?_);simp only [tj])|((with_reducible apply oI);(iterate 2 exact rfl);intro K hK;try simp only [go_sem,simprocAttr])|(with_reducible (first|apply oJ|exact oK))|refine Rn.p ?_|(with_reducible apply And.intro)|((first|(refine hK _ ?_;clear hK K)|with_reducible intro K hK|refine Rs.p ?_|((with_reducible first|apply oP|apply oQ);exact rfl)|refine aa hX hC hP (bg _ (by assumption)) rfl rfl rfl (by simp only [go_sem,simprocAttr]) rfl ?_|refine aa hX hC hP (aW _ (by assumption)) rfl rfl rfl (by simp only [go_sem,simprocAttr]) rfl ?_|refine aa hX hC hP (bH _) rfl rfl rfl (by simp only [go_sem,simprocAttr]) rfl ?_|refine aa hX hC hP (bI _ _ _ (by assumption) (by assumption) (by assumption)) rfl rfl rfl (by simp only [go_sem,simprocAttr]) rfl ?_|refine aa hX hC hP (bh _ _ _ (by assumption) (by assumption) (by assumption)) rfl rfl rfl (by simp only [go_sem,simprocAttr]) rfl ?_|refine aa hX hC hP (bf _ _ _) rfl rfl rfl (by simp only [go_sem,simprocAttr]) rfl ?_|refine aa hX hC hP (aQ _ _ _ _ (by assumption) (by assumption) (by assumption) (by assumption)) rfl rfl rfl (by simp only [go_sem,simprocAttr]) rfl ?_|refine aa hX hC hP (aY _ _ _ (by assumption) (by assumption) (by assumption)) rfl rfl rfl (by simp only [go_sem,simprocAttr]) rfl ?_|refine aa hX hC hP (bU _ _ _ (by assumption) (by assumption) (by assumption)) rfl rfl rfl (by simp only [go_sem,simprocAttr]) rfl ?_|(refine aq hX hC hP (eA a b c d (by assumption) (by assumption) (by assumption) (by assumption)) rfl rfl rfl ?_ ?_ rfl ?_;iterate 2 (focus (simp only [go_sem,simprocAttr];done)))|(refine aq hX hC hP (c8 a b c d (by assumption)) rfl rfl rfl ?_ ?_ rfl ?_;iterate 2 (focus (simp only [go_sem,simprocAttr];done))));try simp only [go_sem,simprocAttr])|((with_reducible refine oD ?_ ?_);kernel_rfl)|((with_reducible intro h);try simp only [go_sem,simprocAttr] at h)|omega|intro h)
   all_goals simp [gC,hb]
 ·(refine Spec.hd (C:=T.cfg [] []) (rs:= [.t 8]) (T.ah _ _) Tryz.func110 rfl rfl Tryz.ntmps110 Tryz.results110 (by simp [AObj.isNest]) (by simp [AObj.isNest]) (by kernel_rfl) T.mixed fun X hX hP hC aB bK=> ?_)
  repeat' (first|((with_reducible refine ef hX hC aB tj (by kernel_rfl) ?_);simp only [tj])|((with_reducible apply oI);(iterate 2 exact rfl);intro K hK;try simp only [go_sem,simprocAttr])|(with_reducible (first|apply oJ|exact oK))|refine Rn.p ?_|(with_reducible apply And.intro)|((first|(refine hK _ ?_;clear hK K)|with_reducible intro K hK|refine Rs.p ?_|((with_reducible first|apply oP|apply oQ);exact rfl)|refine aa hX hC hP (bg _ (by assumption)) rfl rfl rfl (by simp only [go_sem,simprocAttr]) rfl ?_|refine aa hX hC hP (aW _ (by assumption)) rfl rfl rfl (by simp only [go_sem,simprocAttr]) rfl ?_|refine aa hX hC hP (bH _) rfl rfl rfl (by simp only [go_sem,simprocAttr]) rfl ?_|refine aa hX hC hP (bI _ _ _ (by assumption) (by assumption) (by assumption)) rfl rfl rfl (by simp only [go_sem,simprocAttr]) rfl ?_|refine aa hX hC hP (bh _ _ _ (by assumption) (by assumption) (by assumption)) rfl rfl rfl (by simp only [go_sem,simprocAttr]) rfl ?_|refine aa hX hC hP (bf _ _ _) rfl rfl rfl (by simp only [go_sem,simprocAttr]) rfl ?_|refine aa hX hC hP (aQ _ _ _ _ (by assumption) (by assumption) (by assumption) (by assumption)) rfl rfl rfl (by simp only [go_sem,simprocAttr]) rfl ?_|refine aa hX hC hP (aY _ _ _ (by assumption) (by assumption) (by assumption)) rfl rfl rfl (by simp only [go_sem,simprocAttr]) rfl ?_|refine aa hX hC hP (bU _ _ _ (by assumption) (by assumption) (by assumption)) rfl rfl rfl (by simp only [go_sem,simprocAttr]) rfl ?_|(refine aq hX hC hP (eA a b c d (by assumption) (by assumption) (by assumption) (by assumption)) rfl rfl rfl ?_ ?_ rfl ?_;iterate 2 (focus (simp only [go_sem,simprocAttr];done)))|(refine aq hX hC hP (c8 a b c d (by assumption)) rfl rfl rfl ?_ ?_ rfl ?_;iterate 2 (focus (simp only [go_sem,simprocAttr];done))));try simp only [go_sem,simprocAttr])|((with_reducible refine oD ?_ ?_);kernel_rfl)|((with_reducible intro h);try simp only [go_sem,simprocAttr] at h)|omega|intro h)
  all_goals simp [gC,ha]
end Go.Ab
end
section
namespace Go.Ab
open Go.Proofs
attribute [local congr] ACall.congr gd.congr Nx.congr
set_option maxRecDepth 10000
set_option maxHeartbeats 2000000
theorem mval_touch (es:List (List Int × Int)) (k:List Int):fN (dI es k) k=fN es k:=by
 unfold dI
 cases h:cz es k with
 |some i=>rfl
 |none=>
  have hn:=jj h
  have:cz (es++ [(k,0)]) k=some es.length:=by
   unfold cz
   rw [List.findIdx?_eq_some_iff_getElem]
   refine ⟨by simp,by simp,fun j hj=> ?_⟩
   rw [List.getElem_append_left hj]
   have:=hn es[j] (List.getElem_mem hj)
   simpa using fun e=>this e.symm
  simp [fN,h,this]
theorem nI (es:List (List Int × Int)) (k:List Int):iE es k<(dI es k).length:=by
 unfold iE dI
 cases h:cz es k with
 |some i=>
  obtain ⟨p,hp,_⟩:=eM h
  exact (List.getElem?_eq_some_iff.1 hp).1
 |none=>simp
def bump (es:List (List Int × Int)) (k:List Int):List (List Int × Int):=jX (dI es k) (iE es k) (fN es k+1)
theorem Ec (es:List (List Int × Int)) (i:Nat) (v:Int):(jX es i v).map (·.1)=es.map (·.1):=by
 apply List.ext_getElem?
 intro j
 rw [List.getElem?_map,List.getElem?_map]
 unfold jX
 rw [List.getElem?_modify]
 split<;>cases es[j]? <;>rfl
def we (p:Pt) (ks:List (List Int)):List (List Int):=if [p.1,p.2]∈ks then ks else ks++ [[p.1,p.2]]
theorem nJ (es:List (List Int × Int)) (p:Pt):(bump es [p.1,p.2]).map (·.1)=we p (es.map (·.1)):=by
 unfold bump we
 rw [Ec]
 unfold dI
 cases h:cz es [p.1,p.2] with
 |some i=>
  obtain ⟨q,hq,hk⟩:=eM h
  have: [p.1,p.2]∈es.map (·.1):=List.mem_map.2 ⟨q,List.mem_of_getElem? hq,hk⟩
  rw [if_pos this]
 |none=>
  have: [p.1,p.2]∉es.map (·.1):=fun hm=>by
   obtain ⟨q,hq,hk⟩:=List.mem_map.1 hm
   exact jj h q hq hk
  rw [if_neg this];simp
def BE (n:Int) (es:List (List Int × Int)):Prop:=∀p∈es,0≤p.2∧p.2≤n
theorem uR {n:Int} (hn:0≤n) {es:List (List Int × Int)} (h:BE n es) (k:List Int):0≤fN es k∧fN es k≤n:=by
 unfold fN
 cases hf:cz es k with
 |none=>simp [hn]
 |some i=>
  obtain ⟨p,hp,_⟩:=eM hf
  simp only [hp,Option.map_some,Option.getD_some]
  exact h p (List.mem_of_getElem? hp)
theorem yx {n:Int} (hn:0≤n) {es:List (List Int × Int)} (h:BE n es) (k:List Int):BE (n+1) (bump es k):=by
 intro p hp
 have hv:=uR hn h k
 have ht:BE n (dI es k):=by
  unfold dI
  split
  ·exact h
  ·intro q hq
   rcases List.mem_append.1 hq with hq|hq
   ·exact h q hq
   ·simp at hq;subst hq;simp [hn]
 obtain ⟨j,hj⟩:=List.mem_iff_getElem?.1 hp
 unfold bump jX at hj
 rw [List.getElem?_modify] at hj
 split at hj
 ·simp only [Option.map_eq_map,Option.map_eq_some_iff] at hj
  obtain ⟨q,hq,rfl⟩:=hj
  constructor<;>simp only<;>omega
 ·have:=ht p (List.mem_of_getElem? (by simpa using hj))
  omega
end Go.Ab
end
section
namespace Go.Ab
open Go.Proofs
attribute [local congr] ACall.congr gd.congr Nx.congr
set_option maxRecDepth 10000
set_option maxHeartbeats 4000000
attribute [go_sem] mval_touch
def K1 (a _b c d:Pt):List (List Int):=if iu c d a=true then we a [] else []
def K2 (a b c d:Pt):List (List Int):=if iu c d b=true then we b (K1 a b c d) else K1 a b c d
def K3 (a b c d:Pt):List (List Int):=if iu a b c=true then we c (K2 a b c d) else K2 a b c d
def K4 (a b c d:Pt):List (List Int):=if iu a b d=true then we d (K3 a b c d) else K3 a b c d
def eW (a b c d:Pt):Int:=
 if bn a∧bn b∧bn c∧bn d then
  if 0<(K4 a b c d).length then min ((K4 a b c d).length:Int) 2
  else if sd a b c*sd a b d<0∧sd c d a*sd c d b<0 then 1 else 0
 else 0
def RS (A B C:List (List Int)) (p:Nat × List (List Int × Int)) (n:Int):Prop:=
 (p.1=0∧p.2.map (·.1)=A∧BE n p.2)∨(p.1=1∧p.2.map (·.1)=B∧BE (n+1) p.2)∨(p.1=2∧p.2.map (·.1)=C∧BE (n+2) p.2)
def bx (p:Pt):AObj:= .box [.d (.sc (.int .i64 p.1)), .d (.sc (.int .i64 p.2))]
attribute [go_sem] bx
def st1 (a b c d:Pt) (i:Nat × List (List Int × Int)):ASt:=
 ⟨[(9, .mref 21),(4, .ptr 4 0),(5, .ptr 5 0),(6, .ptr 6 0),(7, .ptr 7 0),(24, .agg [eN a.1,eN a.2,eN b.1,eN b.2]),(25,eN i.1)],
   [(4,bx a),(5,bx b),(6,bx c),(7,bx d),(21, .mp 2 i.2)]⟩
def st2 (a b c d:Pt) (i:Nat × List (List Int × Int)):ASt:=
 ⟨[(9, .mref 21),(4, .ptr 4 0),(5, .ptr 5 0),(6, .ptr 6 0),(7, .ptr 7 0),(41, .agg [eN c.1,eN c.2,eN d.1,eN d.2]),(42,eN i.1)],
   [(4,bx a),(5,bx b),(6,bx c),(7,bx d),(21, .mp 2 i.2)]⟩
theorem IQ (a b c d:Pt) (ha:bn a) (hb:bn b) (hc:bn c) (hd:bn d):Spec Tryz.prog 124 (Args [eP a,eP b,eP c,eP d]) [] (eN (eW a b c d)) []:=by
 (refine Spec.hd (C:=T.cfg [] []) (rs:= [.t 8]) (T.ah _ _) Tryz.func124 rfl rfl Tryz.ntmps124 Tryz.results124 (by simp [AObj.isNest]) (by simp [AObj.isNest]) (by kernel_rfl) T.mixed fun X hX hP hC aB bK=> ?_)
 repeat' (first|((with_reducible refine ef hX hC aB tj (by kernel_rfl) ?_);simp only [tj])|((with_reducible apply oI);(iterate 2 exact rfl);intro K hK;try simp only [go_sem,simprocAttr])|(with_reducible (first|apply oJ|exact oK))|refine Rn.p ?_|(with_reducible apply And.intro)|((first|(refine hK _ ?_;clear hK K)|with_reducible intro K hK|refine Rs.p ?_|((with_reducible first|apply oP|apply oQ);exact rfl)|refine aa hX hC hP (bg _ (by assumption)) rfl rfl rfl (by simp only [go_sem,simprocAttr]) rfl ?_|refine aa hX hC hP (aW _ (by assumption)) rfl rfl rfl (by simp only [go_sem,simprocAttr]) rfl ?_|refine aa hX hC hP (bH _) rfl rfl rfl (by simp only [go_sem,simprocAttr]) rfl ?_|refine aa hX hC hP (bI _ _ _ (by assumption) (by assumption) (by assumption)) rfl rfl rfl (by simp only [go_sem,simprocAttr]) rfl ?_|refine aa hX hC hP (bh _ _ _ (by assumption) (by assumption) (by assumption)) rfl rfl rfl (by simp only [go_sem,simprocAttr]) rfl ?_|refine aa hX hC hP (bf _ _ _) rfl rfl rfl (by simp only [go_sem,simprocAttr]) rfl ?_|refine aa hX hC hP (aQ _ _ _ _ (by assumption) (by assumption) (by assumption) (by assumption)) rfl rfl rfl (by simp only [go_sem,simprocAttr]) rfl ?_|refine aa hX hC hP (aY _ _ _ (by assumption) (by assumption) (by assumption)) rfl rfl rfl (by simp only [go_sem,simprocAttr]) rfl ?_|refine aa hX hC hP (bU _ _ _ (by assumption) (by assumption) (by assumption)) rfl rfl rfl (by simp only [go_sem,simprocAttr]) rfl ?_|(refine aq hX hC hP (eA a b c d (by assumption) (by assumption) (by assumption) (by assumption)) rfl rfl rfl ?_ ?_ rfl ?_;iterate 2 (focus (simp only [go_sem,simprocAttr];done)))|(refine aq hX hC hP (c8 a b c d (by assumption)) rfl rfl rfl ?_ ?_ rfl ?_;iterate 2 (focus (simp only [go_sem,simprocAttr];done))));try simp only [go_sem,simprocAttr])|((with_reducible refine oD ?_ ?_);kernel_rfl)|((with_reducible intro h);try simp only [go_sem,simprocAttr] at h)|omega|intro h)
 refine ag (fun i:Nat × List (List Int × Int)=>RS [] (K1 a b c d) (K2 a b c d) i 0) (st1 a b c d) (fun i=>2 - i.1) (0, []) (.inl ⟨rfl,rfl,by simp [BE]⟩) ?_ ?_
 ·refine Le.of ?_ ?_<;>simp [go_sem,simprocAttr,st1]
 rintro ⟨k,es⟩ (⟨hk,hks,pI⟩|⟨hk,hks,pI⟩|⟨hk,hks,pI⟩)<;>simp only at hk hks pI<;>subst hk<;>simp only [st1]
 ·have hv:=uR (by omega) pI [a.1,a.2]
  have hs:=nI es [a.1,a.2]
  have aI:=yx (by omega) pI [a.1,a.2]
  have hk2:=nJ es a
  repeat' (first|((with_reducible refine ef hX hC aB tj (by kernel_rfl) ?_);simp only [tj])|((with_reducible apply oI);(iterate 2 exact rfl);intro K hK;try simp only [go_sem,simprocAttr])|(with_reducible (first|apply oJ|exact oK))|refine Rn.p ?_|(with_reducible apply And.intro)|((first|(refine hK _ ?_;clear hK K)|with_reducible intro K hK|refine Rs.p ?_|((with_reducible first|apply oP|apply oQ);exact rfl)|refine aa hX hC hP (bg _ (by assumption)) rfl rfl rfl (by simp only [go_sem,simprocAttr]) rfl ?_|refine aa hX hC hP (aW _ (by assumption)) rfl rfl rfl (by simp only [go_sem,simprocAttr]) rfl ?_|refine aa hX hC hP (bH _) rfl rfl rfl (by simp only [go_sem,simprocAttr]) rfl ?_|refine aa hX hC hP (bI _ _ _ (by assumption) (by assumption) (by assumption)) rfl rfl rfl (by simp only [go_sem,simprocAttr]) rfl ?_|refine aa hX hC hP (bh _ _ _ (by assumption) (by assumption) (by assumption)) rfl rfl rfl (by simp only [go_sem,simprocAttr]) rfl ?_|refine aa hX hC hP (bf _ _ _) rfl rfl rfl (by simp only [go_sem,simprocAttr]) rfl ?_|refine aa hX hC hP (aQ _ _ _ _ (by assumption) (by assumption) (by assumption) (by assumption)) rfl rfl rfl (by simp only [go_sem,simprocAttr]) rfl ?_|refine aa hX hC hP (aY _ _ _ (by assumption) (by assumption) (by assumption)) rfl rfl rfl (by simp only [go_sem,simprocAttr]) rfl ?_|refine aa hX hC hP (bU _ _ _ (by assumption) (by assumption) (by assumption)) rfl rfl rfl (by simp only [go_sem,simprocAttr]) rfl ?_|(refine aq hX hC hP (eA a b c d (by assumption) (by assumption) (by assumption) (by assumption)) rfl rfl rfl ?_ ?_ rfl ?_;iterate 2 (focus (simp only [go_sem,simprocAttr];done)))|(refine aq hX hC hP (c8 a b c d (by assumption)) rfl rfl rfl ?_ ?_ rfl ?_;iterate 2 (focus (simp only [go_sem,simprocAttr];done))));try simp only [go_sem,simprocAttr])|((with_reducible refine oD ?_ ?_);kernel_rfl)|((with_reducible intro h);try simp only [go_sem,simprocAttr] at h)|omega|intro h)
  all_goals first
   |(refine ⟨(1,bump es [a.1,a.2]), .inr (.inl ⟨rfl,by rw [hk2,hks];simp only [K1,if_pos h],by simpa using aI⟩),Le.of ?_ ?_,by simp⟩<;>simp [go_sem,simprocAttr,bump];done)
   |(refine ⟨(1,es), .inr (.inl ⟨rfl,by rw [hks];simp [K1,h],fun p hp=>by have:=pI p hp;omega⟩),Le.of ?_ ?_,by simp⟩<;>simp [go_sem,simprocAttr];done)
 ·have hv:=uR (by omega) pI [b.1,b.2]
  have hs:=nI es [b.1,b.2]
  have aI:=yx (by omega) pI [b.1,b.2]
  have hk2:=nJ es b
  repeat' (first|((with_reducible refine ef hX hC aB tj (by kernel_rfl) ?_);simp only [tj])|((with_reducible apply oI);(iterate 2 exact rfl);intro K hK;try simp only [go_sem,simprocAttr])|(with_reducible (first|apply oJ|exact oK))|refine Rn.p ?_|(with_reducible apply And.intro)|((first|(refine hK _ ?_;clear hK K)|with_reducible intro K hK|refine Rs.p ?_|((with_reducible first|apply oP|apply oQ);exact rfl)|refine aa hX hC hP (bg _ (by assumption)) rfl rfl rfl (by simp only [go_sem,simprocAttr]) rfl ?_|refine aa hX hC hP (aW _ (by assumption)) rfl rfl rfl (by simp only [go_sem,simprocAttr]) rfl ?_|refine aa hX hC hP (bH _) rfl rfl rfl (by simp only [go_sem,simprocAttr]) rfl ?_|refine aa hX hC hP (bI _ _ _ (by assumption) (by assumption) (by assumption)) rfl rfl rfl (by simp only [go_sem,simprocAttr]) rfl ?_|refine aa hX hC hP (bh _ _ _ (by assumption) (by assumption) (by assumption)) rfl rfl rfl (by simp only [go_sem,simprocAttr]) rfl ?_|refine aa hX hC hP (bf _ _ _) rfl rfl rfl (by simp only [go_sem,simprocAttr]) rfl ?_|refine aa hX hC hP (aQ _ _ _ _ (by assumption) (by assumption) (by assumption) (by assumption)) rfl rfl rfl (by simp only [go_sem,simprocAttr]) rfl ?_|refine aa hX hC hP (aY _ _ _ (by assumption) (by assumption) (by assumption)) rfl rfl rfl (by simp only [go_sem,simprocAttr]) rfl ?_|refine aa hX hC hP (bU _ _ _ (by assumption) (by assumption) (by assumption)) rfl rfl rfl (by simp only [go_sem,simprocAttr]) rfl ?_|(refine aq hX hC hP (eA a b c d (by assumption) (by assumption) (by assumption) (by assumption)) rfl rfl rfl ?_ ?_ rfl ?_;iterate 2 (focus (simp only [go_sem,simprocAttr];done)))|(refine aq hX hC hP (c8 a b c d (by assumption)) rfl rfl rfl ?_ ?_ rfl ?_;iterate 2 (focus (simp only [go_sem,simprocAttr];done))));try simp only [go_sem,simprocAttr])|((with_reducible refine oD ?_ ?_);kernel_rfl)|((with_reducible intro h);try simp only [go_sem,simprocAttr] at h)|omega|intro h)
  all_goals first
   |(refine ⟨(2,bump es [b.1,b.2]), .inr (.inr ⟨rfl,by rw [hk2,hks];simp only [K2,if_pos h],by simpa using aI⟩),Le.of ?_ ?_,by simp⟩<;>simp [go_sem,simprocAttr,bump];done)
   |(refine ⟨(2,es), .inr (.inr ⟨rfl,by rw [hks];simp [K2,h],fun p hp=>by have:=pI p hp;omega⟩),Le.of ?_ ?_,by simp⟩<;>simp [go_sem,simprocAttr];done)
 ·repeat' (first|((with_reducible refine ef hX hC aB tj (by kernel_rfl) ?_);simp only [tj])|((with_reducible apply oI);(iterate 2 exact rfl);intro K hK;try simp only [go_sem,simprocAttr])|(with_reducible (first|apply oJ|exact oK))|refine Rn.p ?_|(with_reducible apply And.intro)|((first|(refine hK _ ?_;clear hK K)|with_reducible intro K hK|refine Rs.p ?_|((with_reducible first|apply oP|apply oQ);exact rfl)|refine aa hX hC hP (bg _ (by assumption)) rfl rfl rfl (by simp only [go_sem,simprocAttr]) rfl ?_|refine aa hX hC hP (aW _ (by assumption)) rfl rfl rfl (by simp only [go_sem,simprocAttr]) rfl ?_|refine aa hX hC hP (bH _) rfl rfl rfl (by simp only [go_sem,simprocAttr]) rfl ?_|refine aa hX hC hP (bI _ _ _ (by assumption) (by assumption) (by assumption)) rfl rfl rfl (by simp only [go_sem,simprocAttr]) rfl ?_|refine aa hX hC hP (bh _ _ _ (by assumption) (by assumption) (by assumption)) rfl rfl rfl (by simp only [go_sem,simprocAttr]) rfl ?_|refine aa hX hC hP (bf _ _ _) rfl rfl rfl (by simp only [go_sem,simprocAttr]) rfl ?_|refine aa hX hC hP (aQ _ _ _ _ (by assumption) (by assumption) (by assumption) (by assumption)) rfl rfl rfl (by simp only [go_sem,simprocAttr]) rfl ?_|refine aa hX hC hP (aY _ _ _ (by assumption) (by assumption) (by assumption)) rfl rfl rfl (by simp only [go_sem,simprocAttr]) rfl ?_|refine aa hX hC hP (bU _ _ _ (by assumption) (by assumption) (by assumption)) rfl rfl rfl (by simp only [go_sem,simprocAttr]) rfl ?_|(refine aq hX hC hP (eA a b c d (by assumption) (by assumption) (by assumption) (by assumption)) rfl rfl rfl ?_ ?_ rfl ?_;iterate 2 (focus (simp only [go_sem,simprocAttr];done)))|(refine aq hX hC hP (c8 a b c d (by assumption)) rfl rfl rfl ?_ ?_ rfl ?_;iterate 2 (focus (simp only [go_sem,simprocAttr];done))));try simp only [go_sem,simprocAttr])|((with_reducible refine oD ?_ ?_);kernel_rfl)|((with_reducible intro h);try simp only [go_sem,simprocAttr] at h)|omega|intro h)
  refine ag (fun i:Nat × List (List Int × Int)=>RS (K2 a b c d) (K3 a b c d) (K4 a b c d) i 2) (st2 a b c d) (fun i=>2 - i.1) (0,es) (.inl ⟨rfl,hks,by simpa using pI⟩) ?_ ?_
  ·refine Le.of ?_ ?_<;>simp [go_sem,simprocAttr,st2]
  clear hks pI es
  rintro ⟨k,es⟩ (⟨hk,hks,pI⟩|⟨hk,hks,pI⟩|⟨hk,hks,pI⟩)<;>simp only at hk hks pI<;>subst hk<;>simp only [st2]
  ·have hv:=uR (by omega) pI [c.1,c.2]
   have hs:=nI es [c.1,c.2]
   have aI:=yx (by omega) pI [c.1,c.2]
   have hk2:=nJ es c
   repeat' (first|((with_reducible refine ef hX hC aB tj (by kernel_rfl) ?_);simp only [tj])|((with_reducible apply oI);(iterate 2 exact rfl);intro K hK;try simp only [go_sem,simprocAttr])|(with_reducible (first|apply oJ|exact oK))|refine Rn.p ?_|(with_reducible apply And.intro)|((first|(refine hK _ ?_;clear hK K)|with_reducible intro K hK|refine Rs.p ?_|((with_reducible first|apply oP|apply oQ);exact rfl)|refine aa hX hC hP (bg _ (by assumption)) rfl rfl rfl (by simp only [go_sem,simprocAttr]) rfl ?_|refine aa hX hC hP (aW _ (by assumption)) rfl rfl rfl (by simp only [go_sem,simprocAttr]) rfl ?_|refine aa hX hC hP (bH _) rfl rfl rfl (by simp only [go_sem,simprocAttr]) rfl ?_|refine aa hX hC hP (bI _ _ _ (by assumption) (by assumption) (by assumption)) rfl rfl rfl (by simp only [go_sem,simprocAttr]) rfl ?_|refine aa hX hC hP (bh _ _ _ (by assumption) (by assumption) (by assumption)) rfl rfl rfl (by simp only [go_sem,simprocAttr]) rfl ?_|refine aa hX hC hP (bf _ _ _) rfl rfl rfl (by simp only [go_sem,simprocAttr]) rfl ?_|refine aa hX hC hP (aQ _ _ _ _ (by assumption) (by assumption) (by assumption) (by assumption)) rfl rfl rfl (by simp only [go_sem,simprocAttr]) rfl ?_|refine aa hX hC hP (aY _ _ _ (by assumption) (by assumption) (by assumption)) rfl rfl rfl (by simp only [go_sem,simprocAttr]) rfl ?_|refine aa hX hC hP (bU _ _ _ (by assumption) (by assumption) (by assumption)) rfl rfl rfl (by simp only [go_sem,simprocAttr]) rfl ?_|(refine aq hX hC hP (eA a b c d (by assumption) (by assumption) (by assumption) (by assumption)) rfl rfl rfl ?_ ?_ rfl ?_;iterate 2 (focus (simp only [go_sem,simprocAttr];done)))|(refine aq hX hC hP (c8 a b c d (by assumption)) rfl rfl rfl ?_ ?_ rfl ?_;iterate 2 (focus (simp only [go_sem,simprocAttr];done))));try simp only [go_sem,simprocAttr])|((with_reducible refine oD ?_ ?_);kernel_rfl)|((with_reducible intro h);try simp only [go_sem,simprocAttr] at h)|omega|intro h)
   all_goals first
    |(refine ⟨(1,bump es [c.1,c.2]), .inr (.inl ⟨rfl,by rw [hk2,hks];simp only [K3,if_pos h],by simpa using aI⟩),Le.of ?_ ?_,by simp⟩<;>simp [go_sem,simprocAttr,bump];done)
    |(refine ⟨(1,es), .inr (.inl ⟨rfl,by rw [hks];simp [K3,h],fun p hp=>by have:=pI p hp;omega⟩),Le.of ?_ ?_,by simp⟩<;>simp [go_sem,simprocAttr];done)
  ·have hv:=uR (by omega) pI [d.1,d.2]
   have hs:=nI es [d.1,d.2]
   have aI:=yx (by omega) pI [d.1,d.2]
   have hk2:=nJ es d
   repeat' (first|((with_reducible refine ef hX hC aB tj (by kernel_rfl) ?_);simp only [tj])|((with_reducible apply oI);(iterate 2 exact rfl);intro K hK;try simp only [go_sem,simprocAttr])|(with_reducible (first|apply oJ|exact oK))|refine Rn.p ?_|(with_reducible apply And.intro)|((first|(refine hK _ ?_;clear hK K)|with_reducible intro K hK|refine Rs.p ?_|((with_reducible first|apply oP|apply oQ);exact rfl)|refine aa hX hC hP (bg _ (by assumption)) rfl rfl rfl (by simp only [go_sem,simprocAttr]) rfl ?_|refine aa hX hC hP (aW _ (by assumption)) rfl rfl rfl (by simp only [go_sem,simprocAttr]) rfl ?_|refine aa hX hC hP (bH _) rfl rfl rfl (by simp only [go_sem,simprocAttr]) rfl ?_|refine aa hX hC hP (bI _ _ _ (by assumption) (by assumption) (by assumption)) rfl rfl rfl (by simp only [go_sem,simprocAttr]) rfl ?_|refine aa hX hC hP (bh _ _ _ (by assumption) (by assumption) (by assumption)) rfl rfl rfl (by simp only [go_sem,simprocAttr]) rfl ?_|refine aa hX hC hP (bf _ _ _) rfl rfl rfl (by simp only [go_sem,simprocAttr]) rfl ?_|refine aa hX hC hP (aQ _ _ _ _ (by assumption) (by assumption) (by assumption) (by assumption)) rfl rfl rfl (by simp only [go_sem,simprocAttr]) rfl ?_|refine aa hX hC hP (aY _ _ _ (by assumption) (by assumption) (by assumption)) rfl rfl rfl (by simp only [go_sem,simprocAttr]) rfl ?_|refine aa hX hC hP (bU _ _ _ (by assumption) (by assumption) (by assumption)) rfl rfl rfl (by simp only [go_sem,simprocAttr]) rfl ?_|(refine aq hX hC hP (eA a b c d (by assumption) (by assumption) (by assumption) (by assumption)) rfl rfl rfl ?_ ?_ rfl ?_;iterate 2 (focus (simp only [go_sem,simprocAttr];done)))|(refine aq hX hC hP (c8 a b c d (by assumption)) rfl rfl rfl ?_ ?_ rfl ?_;iterate 2 (focus (simp only [go_sem,simprocAttr];done))));try simp only [go_sem,simprocAttr])|((with_reducible refine oD ?_ ?_);kernel_rfl)|((with_reducible intro h);try simp only [go_sem,simprocAttr] at h)|omega|intro h)
   all_goals first
    |(refine ⟨(2,bump es [d.1,d.2]), .inr (.inr ⟨rfl,by rw [hk2,hks];simp only [K4,if_pos h],by simpa using aI⟩),Le.of ?_ ?_,by simp⟩<;>simp [go_sem,simprocAttr,bump];done)
    |(refine ⟨(2,es), .inr (.inr ⟨rfl,by rw [hks];simp [K4,h],fun p hp=>by have:=pI p hp;omega⟩),Le.of ?_ ?_,by simp⟩<;>simp [go_sem,simprocAttr];done)
  ·have hlen:(es.length:Int)=((K4 a b c d).length:Int):=by rw [← hks,List.length_map]
   have m1: -(1*1)≤sd a b c*sd a b d∧sd a b c*sd a b d≤1*1:=mw (mV _) (mV _)
   have m2: -(1*1)≤sd c d a*sd c d b∧sd c d a*sd c d b≤1*1:=mw (mV _) (mV _)
   repeat' (first|((with_reducible refine ef hX hC aB tj (by kernel_rfl) ?_);simp only [tj])|((with_reducible apply oI);(iterate 2 exact rfl);intro K hK;try simp only [go_sem,simprocAttr])|(with_reducible (first|apply oJ|exact oK))|refine Rn.p ?_|(with_reducible apply And.intro)|((first|(refine hK _ ?_;clear hK K)|with_reducible intro K hK|refine Rs.p ?_|((with_reducible first|apply oP|apply oQ);exact rfl)|refine aa hX hC hP (bg _ (by assumption)) rfl rfl rfl (by simp only [go_sem,simprocAttr]) rfl ?_|refine aa hX hC hP (aW _ (by assumption)) rfl rfl rfl (by simp only [go_sem,simprocAttr]) rfl ?_|refine aa hX hC hP (bH _) rfl rfl rfl (by simp only [go_sem,simprocAttr]) rfl ?_|refine aa hX hC hP (bI _ _ _ (by assumption) (by assumption) (by assumption)) rfl rfl rfl (by simp only [go_sem,simprocAttr]) rfl ?_|refine aa hX hC hP (bh _ _ _ (by assumption) (by assumption) (by assumption)) rfl rfl rfl (by simp only [go_sem,simprocAttr]) rfl ?_|refine aa hX hC hP (bf _ _ _) rfl rfl rfl (by simp only [go_sem,simprocAttr]) rfl ?_|refine aa hX hC hP (aQ _ _ _ _ (by assumption) (by assumption) (by assumption) (by assumption)) rfl rfl rfl (by simp only [go_sem,simprocAttr]) rfl ?_|refine aa hX hC hP (aY _ _ _ (by assumption) (by assumption) (by assumption)) rfl rfl rfl (by simp only [go_sem,simprocAttr]) rfl ?_|refine aa hX hC hP (bU _ _ _ (by assumption) (by assumption) (by assumption)) rfl rfl rfl (by simp only [go_sem,simprocAttr]) rfl ?_|(refine aq hX hC hP (eA a b c d (by assumption) (by assumption) (by assumption) (by assumption)) rfl rfl rfl ?_ ?_ rfl ?_;iterate 2 (focus (simp only [go_sem,simprocAttr];done)))|(refine aq hX hC hP (c8 a b c d (by assumption)) rfl rfl rfl ?_ ?_ rfl ?_;iterate 2 (focus (simp only [go_sem,simprocAttr];done))));try simp only [go_sem,simprocAttr])|((with_reducible refine oD ?_ ?_);kernel_rfl)|((with_reducible intro h);try simp only [go_sem,simprocAttr] at h)|omega|intro h)
   all_goals clear hX aB hP hC bK X hks pI m1 m2
   all_goals simp only [eW,ha,hb,hc,hd,and_self,if_true, ← hlen]
   all_goals grind
end Go.Ab
end
section
namespace Go.Ab
open Go.Proofs
attribute [local congr] ACall.congr gd.congr Nx.congr
set_option maxRecDepth 10000
theorem yy (a b c:Pt):aj a b c=tm a b a c:=by unfold aj tm;grind
theorem nK (n:Int):gB n 0=0↔n=0:=by unfold gB;split<;>(try split)<;>omega
theorem sC {u v:Int} :(min u v≤0∧0≤max u v)↔u*v≤0:=by
 rcases Int.lt_trichotomy u 0 with hu|hu|hu<;>rcases Int.lt_trichotomy v 0 with hv|hv|hv
 ·have:=Int.mul_pos_of_neg_of_neg hu hv;omega
 ·subst hv;simp;omega
 ·have:=Int.mul_neg_of_neg_of_pos hu hv;omega
 ·subst hu;simp;omega
 ·subst hu;simp;omega
 ·subst hu;simp;omega
 ·have:=Int.mul_neg_of_pos_of_neg hu hv;omega
 ·subst hv;simp;omega
 ·have:=Int.mul_pos hu hv;omega
theorem sq_nonneg (s:Int):0≤s*s:=by
 rcases Int.le_total 0 s with h|h
 ·exact Int.mul_nonneg h h
 ·exact Int.mul_nonneg_of_nonpos_of_nonpos h h
theorem IS {u1 u2 v1 v2:Int} (h:u1*v2=u2*v1):(u1*v1≤0∧u2*v2≤0)↔u1*v1+u2*v2≤0:=by
 constructor
 ·omega
 ·intro hs
  have key:(u1*v1)*(u2*v2)=(u1*v2)*(u1*v2):=by grind
  have h0:=sq_nonneg (u1*v2)
  rw [← key] at h0
  constructor
  ·refine Int.not_lt.1 fun hp=> ?_
   have:=Int.mul_neg_of_pos_of_neg hp (show u2*v2<0 by omega)
   omega
  ·refine Int.not_lt.1 fun hp=> ?_
   have:=Int.mul_neg_of_neg_of_pos (show u1*v1<0 by omega) hp
   omega
theorem within_iff (a b n:Int):nG a b n=decide ((a - n)*(b - n)≤0):=by
 rw [Bool.eq_iff_iff]
 simp only [nG,Bool.and_eq_true,decide_eq_true_eq]
 rw [← sC]
 omega
theorem KR (a b c:Pt):iu a b c=(decide (aj a b c=0)&&decide ((a.1 - c.1)*(b.1 - c.1)+(a.2 - c.2)*(b.2 - c.2)≤0)):=by
 unfold iu sd
 rw [← yy,within_iff,within_iff]
 by_cases h:aj a b c=0
 ·have h':(a.1 - c.1)*(b.2 - c.2)=(a.2 - c.2)*(b.1 - c.1):=by unfold aj at h;grind
  rw [Bool.eq_iff_iff]
  simp only [nK,h,decide_true,Bool.true_and,Bool.and_eq_true,decide_eq_true_eq]
  exact IS h'
 ·simp [nK,h]
theorem JL (a b c:Pt):j0 a b c=lH a b c:=by unfold j0 lH;rw [KR]
theorem GF (a b c d:Pt) (h:¬(bn a∧bn b∧bn c∧bn d)):Spec Tryz.prog 124 (Args [eP a,eP b,eP c,eP d]) [] (eN 0) []:=by
 (refine Spec.hd (C:=T.cfg [] []) (rs:= [.t 8]) (T.ah _ _) Tryz.func124 rfl rfl Tryz.ntmps124 Tryz.results124 (by simp [AObj.isNest]) (by simp [AObj.isNest]) (by kernel_rfl) T.mixed fun X hX hP hC aB bK=> ?_)
 repeat' (first|refine Rn.p ?_|(with_reducible apply And.intro)|((first|(refine hK _ ?_;clear hK K)|with_reducible intro K hK|refine Rs.p ?_|((with_reducible first|apply oP|apply oQ);exact rfl)|(refine aq hX hC hP (c8 a b c d (by assumption)) rfl rfl rfl ?_ ?_ rfl ?_;iterate 2 (focus (simp only [go_sem,simprocAttr];done))));try simp only [go_sem,simprocAttr])|((with_reducible refine oD ?_ ?_);kernel_rfl)|((with_reducible intro h);try simp only [go_sem,simprocAttr] at h)|omega|intro h)
theorem Ee {a b c d:Pt} (h:¬(bn a∧bn b∧bn c∧bn d)):eW a b c d=0:=by rw [eW,if_neg h]
theorem Ef (a b c d:Pt):Spec Tryz.prog 124 (Args [eP a,eP b,eP c,eP d]) [] (eN (eW a b c d)) []:=by
 by_cases h:bn a∧bn b∧bn c∧bn d
 ·exact IQ a b c d h.1 h.2.1 h.2.2.1 h.2.2.2
 ·rw [Ee h];exact GF a b c d h
def key (p:Pt):List Int:= [p.1,p.2]
theorem key_inj {p q:Pt} :key p=key q↔p=q:=by simp [key,Prod.ext_iff]
theorem qk {x:List Int} {p:Pt} {ks:List (List Int)} :x∈we p ks↔x=key p∨x∈ks:=by
 unfold we
 split
 ·rename_i h
  constructor
  ·exact .inr
  ·rintro (rfl|h')
   ·exact h
   ·exact h'
 ·simp [key,or_comm]
theorem lJ {p:Pt} {ks:List (List Int)} (h:ks.Nodup):(we p ks).Nodup:=by
 unfold we
 split
 ·exact h
 ·rename_i hn
  rw [List.nodup_append]
  exact ⟨h,by simp,fun a ha b hb=>by simp at hb;subst hb;exact fun e=>hn (e ▸ ha)⟩
theorem mW (a b c d:Pt):(K4 a b c d).Nodup:=by
 have h1:(K1 a b c d).Nodup:=by unfold K1;split;exact lJ List.nodup_nil;exact List.nodup_nil
 have h2:(K2 a b c d).Nodup:=by unfold K2;split;exact lJ h1;exact h1
 have h3:(K3 a b c d).Nodup:=by unfold K3;split;exact lJ h2;exact h2
 unfold K4;split;exact lJ h3;exact h3
def vU (a b c d p:Pt):Prop:=(iu c d a=true∧p=a)∨(iu c d b=true∧p=b)∨(iu a b c=true∧p=c)∨(iu a b d=true∧p=d)
theorem gD {a b c d:Pt} {x:List Int} :x∈K4 a b c d↔∃p,vU a b c d p∧x=key p:=by
 have h1:x∈K1 a b c d↔iu c d a=true∧x=key a:=by unfold K1;split<;>simp_all [qk]
 have h2:x∈K2 a b c d↔(iu c d b=true∧x=key b)∨x∈K1 a b c d:=by unfold K2;split<;>simp_all [qk]
 have h3:x∈K3 a b c d↔(iu a b c=true∧x=key c)∨x∈K2 a b c d:=by unfold K3;split<;>simp_all [qk]
 have h4:x∈K4 a b c d↔(iu a b d=true∧x=key d)∨x∈K3 a b c d:=by unfold K4;split<;>simp_all [qk]
 rw [h4,h3,h2,h1]
 unfold vU
 constructor
 ·rintro (⟨h,rfl⟩|⟨h,rfl⟩|⟨h,rfl⟩|⟨h,rfl⟩)
  ·exact ⟨d, .inr (.inr (.inr ⟨h,rfl⟩)),rfl⟩
  ·exact ⟨c, .inr (.inr (.inl ⟨h,rfl⟩)),rfl⟩
  ·exact ⟨b, .inr (.inl ⟨h,rfl⟩),rfl⟩
  ·exact ⟨a, .inl ⟨h,rfl⟩,rfl⟩
 ·rintro ⟨p,(⟨h,rfl⟩|⟨h,rfl⟩|⟨h,rfl⟩|⟨h,rfl⟩),rfl⟩
  ·exact .inr (.inr (.inr ⟨h,rfl⟩))
  ·exact .inr (.inr (.inl ⟨h,rfl⟩))
  ·exact .inr (.inl ⟨h,rfl⟩)
  ·exact .inl ⟨h,rfl⟩
theorem tq {a b c d:Pt} (h:∀p,¬vU a b c d p):(K4 a b c d).length=0:=by
 rw [List.length_eq_zero_iff,List.eq_nil_iff_forall_not_mem]
 intro x hx
 obtain ⟨p,hp,_⟩:=gD.1 hx
 exact h p hp
theorem BB {a b c d p:Pt} (h:vU a b c d p) (h1:∀q,vU a b c d q→q=p):(K4 a b c d).length=1:=by
 have e:(K4 a b c d).Perm [key p]:=(List.perm_ext_iff_of_nodup (mW a b c d) (by simp)).2 fun x=>by
  rw [gD]
  constructor
  ·rintro ⟨q,hq,rfl⟩;rw [h1 q hq];simp
  ·intro hx;simp at hx;exact ⟨p,h,hx⟩
 exact e.length_eq
theorem KS {a b c d p q:Pt} (h:vU a b c d p) (h1:vU a b c d q) (hn:p≠q):2≤(K4 a b c d).length:=by
 have:=List.Nodup.length_le_of_subset (l₁:= [key p,key q]) (l₂:=K4 a b c d) (by simp [key_inj,hn]) (by
  intro x hx
  simp at hx
  rcases hx with rfl|rfl
  ·exact gD.2 ⟨p,h,rfl⟩
  ·exact gD.2 ⟨q,h1,rfl⟩)
 simpa using this
theorem yz {a b c:Pt} :sd a b c=0↔aj a b c=0:=by unfold sd;rw [nK,yy]
theorem fc {a b c:Pt} :iu a b c=true↔aj a b c=0∧(a.1 - c.1)*(b.1 - c.1)≤0∧(a.2 - c.2)*(b.2 - c.2)≤0:=by
 unfold iu
 rw [within_iff,within_iff]
 simp only [Bool.and_eq_true,decide_eq_true_eq,yz,and_assoc]
theorem cu {x s:Int} (hs:s≠0) (h:x*(s*s)≤0):x≤0:=by
 have h1:=sq_nonneg s
 have h2:s*s≠0:=Int.mul_ne_zero hs hs
 refine Int.not_lt.1 fun hp=> ?_
 have:=Int.mul_pos hp (show 0<s*s by omega)
 omega
theorem cQ {x s:Int} (h:x≤0):x*(s*s)≤0:=Int.mul_nonpos_of_nonpos_of_nonneg h (sq_nonneg s)
theorem C0 {a b c d:Pt} (h0:aj c d a=0):tm a b c d*(c.1 - a.1)=aj a b c*(d.1 - c.1):=by unfold aj at*;unfold tm;grind
theorem GG {a b c d:Pt} (h0:aj c d a=0):tm a b c d*(d.1 - a.1)=aj a b d*(d.1 - c.1):=by unfold aj at*;unfold tm;grind
theorem C1 {a b c d:Pt} (h0:aj c d a=0):tm a b c d*(c.2 - a.2)=aj a b c*(d.2 - c.2):=by unfold aj at*;unfold tm;grind
theorem GH {a b c d:Pt} (h0:aj c d a=0):tm a b c d*(d.2 - a.2)=aj a b d*(d.2 - c.2):=by unfold aj at*;unfold tm;grind
theorem JM {t p q u v w:Int} (h1:t*p=u*w) (h2:t*q=v*w):(p*q)*(t*t)=(u*v)*(w*w):=by grind
theorem ql {a b c d:Pt} (hT:tm a b c d≠0):iu c d a=true↔aj c d a=0∧aj a b c*aj a b d≤0:=by
 rw [fc]
 refine and_congr_right fun h0=> ?_
 have e1:=JM (C0 (b:=b) h0) (GG (b:=b) h0)
 have e2:=JM (C1 (b:=b) h0) (GH (b:=b) h0)
 constructor
 ·rintro ⟨h1,h2⟩
  by_cases hx:d.1 - c.1=0
  ·have hy:d.2 - c.2≠0:=fun hy=>hT (by unfold tm;simp [hx,hy])
   exact cu hy (e2 ▸ cQ h2)
  ·exact cu hx (e1 ▸ cQ h1)
 ·intro h
  exact ⟨cu hT (e1 ▸ cQ h),cu hT (e2 ▸ cQ h)⟩
theorem yA (a b c d:Pt):tm b a c d= - tm a b c d:=by unfold tm;grind
theorem tr (a b c d:Pt):tm c d a b= - tm a b c d:=by unfold tm;grind
theorem uS (a b c d:Pt):tm a b d c= - tm a b c d:=by unfold tm;grind
theorem fe (a b c:Pt):aj b a c= - aj a b c:=by unfold aj;grind
theorem q9 (a b c d:Pt):aj a b d - aj a b c=tm a b c d:=by unfold aj tm;grind
theorem uT (a b c d:Pt):aj c d a - aj c d b=tm a b c d:=by unfold aj tm;grind
theorem qm (a b c:Pt):iu b a c=iu a b c:=by
 rw [Bool.eq_iff_iff,fc,fc,fe,Int.mul_comm (b.1 - c.1),Int.mul_comm (b.2 - c.2)]
 simp
theorem BC {a b c d:Pt} (hT:tm a b c d≠0):iu c d b=true↔aj c d b=0∧aj a b c*aj a b d≤0:=by
 rw [ql (a:=b) (b:=a) (by rw [yA];omega),fe a b c,fe a b d,Int.neg_mul_neg]
theorem BD {a b c d:Pt} (hT:tm a b c d≠0):iu a b c=true↔aj a b c=0∧aj c d a*aj c d b≤0:=by
 rw [ql (a:=c) (b:=d) (c:=a) (d:=b) (by rw [tr];omega)]
theorem BF {a b c d:Pt} (hT:tm a b c d≠0):iu a b d=true↔aj a b d=0∧aj c d a*aj c d b≤0:=by
 rw [ql (a:=d) (b:=c) (c:=a) (d:=b) (by rw [tr,uS];omega),fe c d a,fe c d b,Int.neg_mul_neg]
theorem nL {a b c d:Pt} (hT:tm a b c d≠0) (h1:aj c d a=0) (h2:aj a b c=0):a=c:=by
 have k1:=C0 (b:=b) h1
 have k2:=C1 (b:=b) h1
 rw [h2,Int.zero_mul] at k1 k2
 have e1:=(Int.mul_eq_zero.1 k1).resolve_left hT
 have e2:=(Int.mul_eq_zero.1 k2).resolve_left hT
 exact Prod.ext (by omega) (by omega)
theorem qn (u v:Int):gB u 0*gB v 0<0↔u*v<0:=by
 unfold gB
 rcases Int.lt_trichotomy u 0 with hu|hu|hu<;>rcases Int.lt_trichotomy v 0 with hv|hv|hv
 ·have:=Int.mul_pos_of_neg_of_neg hu hv;simp [hu,hv];omega
 ·subst hv;simp
 ·have:=Int.mul_neg_of_neg_of_pos hu hv;simp [hu,hv,show ¬v<0 by omega,this]
 ·subst hu;simp
 ·subst hu;simp
 ·subst hu;simp
 ·have:=Int.mul_neg_of_pos_of_neg hu hv;simp [hu,hv,show ¬u<0 by omega,this]
 ·subst hv;simp
 ·have:=Int.mul_pos hu hv;simp [hu,hv,show ¬u<0 by omega,show ¬v<0 by omega];omega
theorem Eg (u v:Int):gB u 0*gB v 0≤0↔u*v≤0:=by
 unfold gB
 rcases Int.lt_trichotomy u 0 with hu|hu|hu<;>rcases Int.lt_trichotomy v 0 with hv|hv|hv
 ·have:=Int.mul_pos_of_neg_of_neg hu hv;simp [hu,hv];omega
 ·subst hv;simp
 ·have:=Int.mul_neg_of_neg_of_pos hu hv;simp [hu,hv,show ¬v<0 by omega];omega
 ·subst hu;simp
 ·subst hu;simp
 ·subst hu;simp
 ·have:=Int.mul_neg_of_pos_of_neg hu hv;simp [hu,hv,show ¬u<0 by omega];omega
 ·subst hv;simp
 ·have:=Int.mul_pos hu hv;simp [hu,hv,show ¬u<0 by omega,show ¬v<0 by omega];omega
theorem nM (a b c:Pt):sd a b c=gB (aj a b c) 0:=by rw [yy];rfl
def fm (a b c d:Pt):Int:=if 0<(K4 a b c d).length then min ((K4 a b c d).length:Int) 2 else if sd a b c*sd a b d<0∧sd c d a*sd c d b<0 then 1 else 0
theorem sD {a b c d:Pt} (hT:tm a b c d≠0):fm a b c d=if aj a b c*aj a b d≤0∧aj c d a*aj c d b≤0 then 1 else 0:=by
 have oa:=ql hT
 have ob:=BC hT
 have oc:=BD hT
 have od:=BF hT
 have d1:=q9 a b c d
 have d2:=uT a b c d
 have one:∀p q,vU a b c d p→vU a b c d q→q=p:=by
  have ab:iu c d a=true→iu c d b=true→False:=fun h1 h2=>by have:=oa.1 h1;have:=ob.1 h2;omega
  have cd:iu a b c=true→iu a b d=true→False:=fun h1 h2=>by have:=oc.1 h1;have:=od.1 h2;omega
  have ac:iu c d a=true→iu a b c=true→a=c:=fun h1 h2=>nL hT (oa.1 h1).1 (oc.1 h2).1
  have ad:iu c d a=true→iu a b d=true→a=d:=fun h1 h2=>nL (c:=d) (d:=c) (by rw [uS];omega) (by rw [fe,(oa.1 h1).1];rfl) (od.1 h2).1
  have bc:iu c d b=true→iu a b c=true→b=c:=fun h1 h2=>nL (a:=b) (b:=a) (d:=d) (by rw [yA];omega) (ob.1 h1).1 (by rw [fe,(oc.1 h2).1];rfl)
  have bd:iu c d b=true→iu a b d=true→b=d:=fun h1 h2=>nL (a:=b) (b:=a) (c:=d) (d:=c) (by rw [yA,uS];omega) (by rw [fe,(ob.1 h1).1];rfl) (by rw [fe,(od.1 h2).1];rfl)
  rintro p q (⟨h1,rfl⟩|⟨h1,rfl⟩|⟨h1,rfl⟩|⟨h1,rfl⟩) (⟨h2,rfl⟩|⟨h2,rfl⟩|⟨h2,rfl⟩|⟨h2,rfl⟩)
  ·rfl
  ·exact (ab h1 h2).elim
  ·exact (ac h1 h2).symm
  ·exact (ad h1 h2).symm
  ·exact (ab h2 h1).elim
  ·rfl
  ·exact (bc h1 h2).symm
  ·exact (bd h1 h2).symm
  ·exact ac h2 h1
  ·exact bc h2 h1
  ·rfl
  ·exact (cd h1 h2).elim
  ·exact ad h2 h1
  ·exact bd h2 h1
  ·exact (cd h2 h1).elim
  ·rfl
 unfold fm
 simp only [nM,qn]
 by_cases hc:∃p,vU a b c d p
 ·obtain ⟨p,hp⟩:=hc
  rw [BB hp fun q hq=>one p q hp hq]
  have:aj a b c*aj a b d≤0∧aj c d a*aj c d b≤0:=by
   rcases hp with ⟨h,_⟩|⟨h,_⟩|⟨h,_⟩|⟨h,_⟩
   ·have:=oa.1 h;exact ⟨this.2,by rw [this.1];simp⟩
   ·have:=ob.1 h;exact ⟨this.2,by rw [this.1];simp⟩
   ·have:=oc.1 h;exact ⟨by rw [this.1];simp,this.2⟩
   ·have:=od.1 h;exact ⟨by rw [this.1];simp,this.2⟩
  rw [if_pos this];rfl
 ·have hn:∀p,¬vU a b c d p:=fun p hp=>hc ⟨p,hp⟩
  rw [tq hn]
  simp only [Nat.lt_irrefl,if_false]
  by_cases h:aj a b c*aj a b d≤0∧aj c d a*aj c d b≤0
  ·rw [if_pos h,if_pos]
   have n1:aj a b c*aj a b d≠0:=fun h0=>by
    rcases Int.mul_eq_zero.1 h0 with h0|h0
    ·exact hn c (.inr (.inr (.inl ⟨oc.2 ⟨h0,h.2⟩,rfl⟩)))
    ·exact hn d (.inr (.inr (.inr ⟨od.2 ⟨h0,h.2⟩,rfl⟩)))
   have n2:aj c d a*aj c d b≠0:=fun h0=>by
    rcases Int.mul_eq_zero.1 h0 with h0|h0
    ·exact hn a (.inl ⟨oa.2 ⟨h0,h.1⟩,rfl⟩)
    ·exact hn b (.inr (.inl ⟨ob.2 ⟨h0,h.1⟩,rfl⟩))
   omega
  ·rw [if_neg h,if_neg (by omega)]
section
variable {a b:Pt}
theorem BG {p r:Pt} (hp:aj a b p=0) (hr:aj a b r=0):an a b b*(p.1 - r.1)=(an a b p - an a b r)*(b.1 - a.1):=by unfold aj at*;unfold an;grind
theorem BH {p r:Pt} (hp:aj a b p=0) (hr:aj a b r=0):an a b b*(p.2 - r.2)=(an a b p - an a b r)*(b.2 - a.2):=by unfold aj at*;unfold an;grind
theorem rq (hab:a≠b):0<an a b b:=by
 unfold an
 have h1:=sq_nonneg (b.1 - a.1)
 have h2:=sq_nonneg (b.2 - a.2)
 by_cases hx:b.1 - a.1=0
 ·have hy:b.2 - a.2≠0:=fun hy=>hab (Prod.ext (by omega) (by omega))
  have:=Int.mul_ne_zero hy hy
  omega
 ·have:=Int.mul_ne_zero hx hx
  omega
theorem IT:an a b a=0:=by unfold an;simp
theorem ru:aj a b a=0:=by unfold aj;grind
theorem yC:aj a b b=0:=by unfold aj;grind
theorem Ad (hab:a≠b) {p r:Pt} (hp:aj a b p=0) (hr:aj a b r=0) (h:an a b p=an a b r):p=r:=by
 have hN:=rq hab
 have h1:=BG hp hr
 have h2:=BH hp hr
 rw [h,Int.sub_self,Int.zero_mul] at h1 h2
 have e1:=(Int.mul_eq_zero.1 h1).resolve_left (by omega)
 have e2:=(Int.mul_eq_zero.1 h2).resolve_left (by omega)
 exact Prod.ext (by omega) (by omega)
theorem w6 (hab:a≠b) {p q r:Pt} (hp:aj a b p=0) (hq:aj a b q=0) (hr:aj a b r=0):aj p q r=0:=by
 have h1:(b.1 - a.1)*aj p q r=0:=by unfold aj at*;grind
 have h2:(b.2 - a.2)*aj p q r=0:=by unfold aj at*;grind
 by_cases h:aj p q r=0
 ·exact h
 ·have e1:=(Int.mul_eq_zero.1 h1).resolve_right h
  have e2:=(Int.mul_eq_zero.1 h2).resolve_right h
  exact absurd (Prod.ext (by omega) (by omega)) hab
theorem GI {N x y u v w:Int} (h1:N*x=u*w) (h2:N*y=v*w):(x*y)*(N*N)=(u*v)*(w*w):=by grind
theorem tu (hab:a≠b) {p q r:Pt} (hp:aj a b p=0) (hq:aj a b q=0) (hr:aj a b r=0):iu p q r=true↔min (an a b p) (an a b q)≤an a b r∧an a b r≤max (an a b p) (an a b q):=by
 have hN:=rq hab
 have e1:=GI (BG hp hr) (BG hq hr)
 have e2:=GI (BH hp hr) (BH hq hr)
 have e3:(min (an a b p) (an a b q)≤an a b r∧an a b r≤max (an a b p) (an a b q))↔(an a b p - an a b r)*(an a b q - an a b r)≤0:=by
  rw [← sC];omega
 rw [fc,e3]
 constructor
 ·rintro ⟨_,h1,h2⟩
  by_cases hx:b.1 - a.1=0
  ·have hy:b.2 - a.2≠0:=fun hy=>hab (Prod.ext (by omega) (by omega))
   exact cu hy (e2 ▸ cQ h2)
  ·exact cu hx (e1 ▸ cQ h1)
 ·intro h
  exact ⟨w6 hab hp hq hr,cu (by omega) (e1 ▸ cQ h),cu (by omega) (e2 ▸ cQ h)⟩
end
theorem BI {a b c d:Pt} (hab:a≠b) (hcd:c≠d) (hc:aj a b c=0) (hd:aj a b d=0):
 fm a b c d=if min (an a b b) (max (an a b c) (an a b d))<max (an a b a) (min (an a b c) (an a b d)) then 0
  else if max (an a b a) (min (an a b c) (an a b d))=min (an a b b) (max (an a b c) (an a b d)) then 1 else 2:=by
 have hN:=rq hab
 have h0:=IT (a:=a) (b:=b)
 have oa:=tu hab hc hd ru
 have ob:=tu hab hc hd yC
 have oc:=tu hab ru yC hc
 have od:=tu hab ru yC hd
 have hne:an a b c≠an a b d:=fun h=>hcd (Ad hab hc hd h)
 have on:∀p,vU a b c d p→aj a b p=0∧max (an a b a) (min (an a b c) (an a b d))≤an a b p∧an a b p≤min (an a b b) (max (an a b c) (an a b d)):=by
  rintro p (⟨h,rfl⟩|⟨h,rfl⟩|⟨h,rfl⟩|⟨h,rfl⟩)
  ·have:=oa.1 h;exact ⟨ru,by omega⟩
  ·have:=ob.1 h;exact ⟨yC,by omega⟩
  ·have:=oc.1 h;exact ⟨hc,by omega⟩
  ·have:=od.1 h;exact ⟨hd,by omega⟩
 have hz:¬(sd a b c*sd a b d<0∧sd c d a*sd c d b<0):=by
  have:sd a b c=0:=yz.2 hc
  rw [this];simp
 by_cases hlt:min (an a b b) (max (an a b c) (an a b d))<max (an a b a) (min (an a b c) (an a b d))
 ·unfold fm
  rw [tq fun p hp=>by have:=on p hp;omega,if_neg (by simp),if_neg hz,if_pos hlt]
 ·rw [if_neg hlt]
  have lo:∃p,vU a b c d p∧an a b p=max (an a b a) (min (an a b c) (an a b d)):=by
   by_cases h1:min (an a b c) (an a b d)≤an a b a
   ·exact ⟨a, .inl ⟨oa.2 (by omega),rfl⟩,by omega⟩
   ·by_cases h2:an a b c≤an a b d
    ·exact ⟨c, .inr (.inr (.inl ⟨oc.2 (by omega),rfl⟩)),by omega⟩
    ·exact ⟨d, .inr (.inr (.inr ⟨od.2 (by omega),rfl⟩)),by omega⟩
  have hi:∃p,vU a b c d p∧an a b p=min (an a b b) (max (an a b c) (an a b d)):=by
   by_cases h1:an a b b≤max (an a b c) (an a b d)
   ·exact ⟨b, .inr (.inl ⟨ob.2 (by omega),rfl⟩),by omega⟩
   ·by_cases h2:an a b c≤an a b d
    ·exact ⟨d, .inr (.inr (.inr ⟨od.2 (by omega),rfl⟩)),by omega⟩
    ·exact ⟨c, .inr (.inr (.inl ⟨oc.2 (by omega),rfl⟩)),by omega⟩
  obtain ⟨p,hp,hp1⟩:=lo
  obtain ⟨q,hq,hq1⟩:=hi
  by_cases heq:max (an a b a) (min (an a b c) (an a b d))=min (an a b b) (max (an a b c) (an a b d))
  ·unfold fm
   rw [if_pos heq,BB hp fun r hr=>by
    have h1:=on r hr
    exact Ad hab h1.1 (on p hp).1 (by omega)]
   rfl
  ·have h2:=KS hp hq (fun e=>by subst e;omega)
   unfold fm
   rw [if_neg heq,if_pos (by omega)]
   omega
theorem C2 {a c:Pt} :iu a a c=true↔c=a:=by
 rw [fc]
 constructor
 ·rintro ⟨_,h1,h2⟩
  have e1:a.1 - c.1=0:=by
   by_cases h:a.1 - c.1=0
   ·exact h
   ·have:=Int.mul_ne_zero h h;have:=sq_nonneg (a.1 - c.1);omega
  have e2:a.2 - c.2=0:=by
   by_cases h:a.2 - c.2=0
   ·exact h
   ·have:=Int.mul_ne_zero h h;have:=sq_nonneg (a.2 - c.2);omega
  exact Prod.ext (by omega) (by omega)
 ·rintro rfl
  exact ⟨by unfold aj;grind,by simp,by simp⟩
theorem lK {a d:Pt} :iu a d a=true:=by rw [fc];exact ⟨ru,by simp,by simp⟩
theorem uU {a c d:Pt} :fm a a c d=if iu c d a=true then 1 else 0:=by
 have hz:sd a a c=0:=yz.2 (by unfold aj;grind)
 have on:∀p,vU a a c d p→iu c d a=true∧p=a:=by
  rintro p (⟨h,rfl⟩|⟨h,rfl⟩|⟨h,rfl⟩|⟨h,rfl⟩)
  ·exact ⟨h,rfl⟩
  ·exact ⟨h,rfl⟩
  ·have:=C2.1 h;subst this;exact ⟨lK,rfl⟩
  ·have:=C2.1 h;subst this;exact ⟨by rw [qm];exact lK,rfl⟩
 unfold fm
 by_cases h:iu c d a=true
 ·rw [BB (p:=a) (.inl ⟨h,rfl⟩) fun q hq=>(on q hq).2,if_pos h];rfl
 ·rw [tq fun p hp=>h (on p hp).1,if_neg h]
  simp [hz]
theorem BJ (a b c d:Pt):fm c d a b=fm a b c d:=by
 have e:(K4 c d a b).Perm (K4 a b c d):=(List.perm_ext_iff_of_nodup (mW _ _ _ _) (mW _ _ _ _)).2 fun x=>by
  rw [gD,gD]
  refine exists_congr fun p=>and_congr_left fun _=> ?_
  unfold vU
  grind
 unfold fm
 rw [e.length_eq]
 congr 1
 simp only [and_comm]
theorem Ae {a b c:Pt} :fm a b c c=if iu a b c=true then 1 else 0:=by rw [← BJ,uU]
theorem tw (a b c d:Pt):eW a b c d=if bn a∧bn b∧bn c∧bn d then fm a b c d else 0:=rfl
theorem C3 (a b c d:Pt):gC a b c d=eW a b c d:=by
 rw [tw]
 unfold gC
 split
 ·rename_i hin
  have vO:∀x y z:Pt,bn x→bn y→bn z→j0 x y z=iu x y z:=fun x y z h1 h2 h3=>by rw [JL,lH,decide_eq_true ⟨h1,h2,h3⟩,Bool.true_and]
  rw [vO c d a hin.2.2.1 hin.2.2.2 hin.1,vO a b c hin.1 hin.2.1 hin.2.2.1]
  split
  ·rename_i hab;subst hab;rw [uU]
  ·rename_i hab
   split
   ·rename_i hcd;subst hcd;rw [Ae]
   ·rename_i hcd
    simp only [nK,Eg]
    by_cases hT:tm a b c d=0
    ·have d1:=q9 a b c d
     split
     ·rename_i hz;rw [BI hab hcd hz.1 hz.2]
     ·rename_i hz
      have hne:aj a b c≠0:=by omega
      have ND:∀p,iu c d p=true→p=a∨p=b→False:=fun p hp h=>by
       have h1:=(fc.1 hp).1
       have d2:=uT a b c d
       have h2:aj c d a=0∧aj c d b=0:=by rcases h with rfl|rfl<;>omega
       exact hne (w6 hcd h2.1 h2.2 ru)
      have hn:∀p,¬vU a b c d p:=by
       rintro p (⟨h,rfl⟩|⟨h,rfl⟩|⟨h,rfl⟩|⟨h,rfl⟩)
       ·exact ND _ h (.inl rfl)
       ·exact ND _ h (.inr rfl)
       ·exact hne (fc.1 h).1
       ·have:=(fc.1 h).1;omega
      have hq:aj a b d=aj a b c:=by omega
      have hp:=sq_nonneg (aj a b c)
      have MI:=Int.mul_ne_zero hne hne
      unfold fm
      rw [tq hn]
      simp only [nM,qn,Nat.lt_irrefl,if_false]
      rw [if_neg (fun h=>by have h:=h.1;rw [hq] at h;omega),if_neg (fun h=>by have h:=h.1;rw [hq] at h;omega)]
    ·rw [sD hT,if_neg]
     have d1:=q9 a b c d
     omega
 ·rfl
end Go.Ab
end
section
namespace Go.Ab
open Go.Proofs
attribute [local congr] ACall.congr gd.congr Nx.congr
set_option maxRecDepth 10000
abbrev Pc:=Pt × Pt
def rQ (q:Pc):List D:= [.sc (.int .i64 q.1.1), .sc (.int .i64 q.1.2), .sc (.int .i64 q.2.1), .sc (.int .i64 q.2.2)]
def eQ (q:Pc):AV:= .agg [.d (.sc (.int .i64 q.1.1)), .d (.sc (.int .i64 q.1.2)), .d (.sc (.int .i64 q.2.1)), .d (.sc (.int .i64 q.2.2))]
def sQ (qs:List Pc):D:= .sl 4 (qs.map rQ)
def sP (ps:List Pt):D:= .sl 2 (ps.map rP)
def vP (ls:List (List Pt)):List (List D):=ls.map fun l=> [sP l]
def sLn (ls:List (List Pt)):D:= .sl 1 (vP ls)
def eLn (l:List Pt):AV:= .d (sP l)
theorem getD_rQ (ps:List Pc) (i:Nat):(ps.map rQ).getD i [.sc (.int .i64 0), .sc (.int .i64 0), .sc (.int .i64 0), .sc (.int .i64 0)]=rQ (ps.getD i ((0,0),(0,0))):=by
 simp only [List.getD_eq_getElem?_getD,List.getElem?_map]
 cases ps[i]? <;>rfl
theorem rQ_eq (q:Pc):rQ q= [.sc (.int .i64 q.1.1), .sc (.int .i64 q.1.2), .sc (.int .i64 q.2.1), .sc (.int .i64 q.2.2)]:=rfl
theorem vP_length (ls:List (List Pt)):(vP ls).length=ls.length:=by simp [vP]
theorem vP_getD (ls:List (List Pt)) (i:Nat):(vP ls).getD i [.sl 2 []]= [sP (ls.getD i [])]:=by
 simp only [vP,List.getD_eq_getElem?_getD,List.getElem?_map]
 cases ls[i]? <;>rfl
attribute [go_sem] getD_rQ rQ_eq eQ sQ sP sLn eLn vP_length vP_getD
theorem aD {α:Type} {l:List α} {m:Nat} {d:α} (h:m<l.length):l.getD m d∈l:=by
 rw [List.getD_eq_getElem?_getD,List.getElem?_eq_getElem h];exact List.getElem_mem h
theorem mg {m:List (Nat × AObj)} (hR:aH m) (f:Nat) (caps:List AV) (g:Pc→Bool) (ps:List Pc) (hf:∀p∈ps,Spec Tryz.prog f (Args (eQ p::caps)) m (eB (g p)) m) (hl:ps.length≤9223372036854775807):
 Spec Tryz.prog 168 (Args [.d (sQ ps), .fn f [] caps]) m (eN (bS g ps)) m:=by
 (refine Spec.hd (C:=T.cfg [] []) (rs:= [.t 4]) (T.ah _ _) Tryz.func168 rfl rfl Tryz.ntmps168 Tryz.results168 (fun p hp=>⟨(aH.low hR p hp).1,aH.nest hR p hp⟩) (fun p hp=>⟨(aH.low hR p hp).2,aH.nest hR p hp⟩) (by kernel_rfl) T.mixed fun X hX hP hC aB bK=> ?_)
 repeat' (first|refine Rn.p ?_|(with_reducible apply And.intro)|((first|(refine hK _ ?_;clear hK K)|with_reducible intro K hK|refine Rs.p ?_|((with_reducible first|apply oP|apply oQ);exact rfl));try simp only [go_sem,simprocAttr])|((with_reducible refine oD ?_ ?_);kernel_rfl)|((with_reducible intro h);try simp only [go_sem,simprocAttr] at h)|omega|intro h)
 refine ag (fun k:Nat=>k≤ps.length∧∀j,j<k→g (ps.getD j ((0,0),(0,0)))=false) (fun k=>⟨[(0, .d (sQ ps)),(1, .fn f [] caps),(7,eN ps.length),(8,eN k)],m⟩) (fun k=>ps.length - k) 0 (by simp) ?_ ?_
 ·(refine ⟨bD ?_,fun _ _ h=>h⟩;simp [go_sem,simprocAttr])
 rintro k ⟨hk,hg⟩
 rcases Nat.lt_or_ge k ps.length with hlt|hge
 ·have hb:decide ((k:Int)<(ps.length:Int))=true:=decide_eq_true (by omega)
  have hf':=hf (ps.getD k ((0,0),(0,0))) (aD hlt)
  repeat' (first|refine Rn.p ?_|(with_reducible apply And.intro)|((first|(refine hK _ ?_;clear hK K)|with_reducible intro K hK|refine Rs.p ?_|((with_reducible first|apply oP|apply oQ);exact rfl)|(first|(refine au hX hC hP hR (hf') rfl rfl rfl ?_ ?_ rfl rfl ?_;(focus (simp only [go_sem,simprocAttr,hb];done));(focus (first|(intro p hp;exact az (aH.nd hR) hp)|(simp [go_sem,simprocAttr,hb];done))))|(refine au hX hC hP hR (hf') rfl rfl rfl ?_ ?_ ?_ rfl ?_;(focus (simp only [go_sem,simprocAttr,hb];done));(focus (first|(intro p hp;exact az (aH.nd hR) hp)|(simp [go_sem,simprocAttr,hb];done)));(focus (simp [go_sem,simprocAttr,hb];done)))));try simp only [go_sem,simprocAttr,hb])|((with_reducible refine oD ?_ ?_);kernel_rfl)|((with_reducible intro h);try simp only [go_sem,simprocAttr,hb] at h)|omega|intro h)
  ·exact (bZ (by omega) hg h).symm
  ·exact bV hR
  ·refine ⟨k+1,⟨by omega,fun j hj=> ?_⟩, ?_,by omega⟩
   ·by_cases hjk:j=k
    ·subst hjk;exact h
    ·exact hg j (by omega)
   ·(refine ⟨bD ?_,fun _ _ h=>h⟩;simp [go_sem,simprocAttr,hb])
 ·have hb:decide ((k:Int)<(ps.length:Int))=false:=decide_eq_false (by omega)
  repeat' (first|refine Rn.p ?_|(with_reducible apply And.intro)|((first|(refine hK _ ?_;clear hK K)|with_reducible intro K hK|refine Rs.p ?_|((with_reducible first|apply oP|apply oQ);exact rfl)|(first|(refine au hX hC hP hR (hf') rfl rfl rfl ?_ ?_ rfl rfl ?_;(focus (simp only [go_sem,simprocAttr,hb];done));(focus (first|(intro p hp;exact az (aH.nd hR) hp)|(simp [go_sem,simprocAttr,hb];done))))|(refine au hX hC hP hR (hf') rfl rfl rfl ?_ ?_ ?_ rfl ?_;(focus (simp only [go_sem,simprocAttr,hb];done));(focus (first|(intro p hp;exact az (aH.nd hR) hp)|(simp [go_sem,simprocAttr,hb];done)));(focus (simp [go_sem,simprocAttr,hb];done)))));try simp only [go_sem,simprocAttr,hb])|((with_reducible refine oD ?_ ?_);kernel_rfl)|((with_reducible intro h);try simp only [go_sem,simprocAttr,hb] at h)|omega|intro h)
  ·exact (bA ((0,0),(0,0)) fun j hj=>hg j (by omega)).symm
  ·exact bV hR
theorem jv {m:List (Nat × AObj)} (hR:aH m) (f:Nat) (caps:List AV) (g:Pc→Bool) (ps:List Pc) (hf:∀p∈ps,Spec Tryz.prog f (Args (eQ p::caps)) m (eB (g p)) m) (hl:ps.length≤9223372036854775807):
 Spec Tryz.prog 118 (Args [.d (sQ ps), .fn f [] caps]) m (eB (ps.any g)) m:=by
 (refine Spec.hd (C:=T.cfg [] []) (rs:= [.t 4]) (T.ah _ _) Tryz.func118 rfl rfl Tryz.ntmps118 Tryz.results118 (fun p hp=>⟨(aH.low hR p hp).1,aH.nest hR p hp⟩) (fun p hp=>⟨(aH.low hR p hp).2,aH.nest hR p hp⟩) (by kernel_rfl) T.mixed fun X hX hP hC aB bK=> ?_)
 repeat' (first|refine Rn.p ?_|(with_reducible apply And.intro)|((first|(refine hK _ ?_;clear hK K)|with_reducible intro K hK|refine Rs.p ?_|((with_reducible first|apply oP|apply oQ);exact rfl)|(first|(refine au hX hC hP hR (mg hR f caps g ps hf hl) rfl rfl rfl ?_ ?_ rfl rfl ?_;(focus (simp only [go_sem,simprocAttr];done));(focus (first|(intro p hp;exact az (aH.nd hR) hp)|(simp [go_sem,simprocAttr];done))))|(refine au hX hC hP hR (mg hR f caps g ps hf hl) rfl rfl rfl ?_ ?_ ?_ rfl ?_;(focus (simp only [go_sem,simprocAttr];done));(focus (first|(intro p hp;exact az (aH.nd hR) hp)|(simp [go_sem,simprocAttr];done)));(focus (simp [go_sem,simprocAttr];done)))));try simp only [go_sem,simprocAttr])|((with_reducible refine oD ?_ ?_);kernel_rfl)|((with_reducible intro h);try simp only [go_sem,simprocAttr] at h)|omega|intro h)
 ·exact cT g ps
 ·exact bV hR
theorem kF {m:List (Nat × AObj)} (hR:aH m) (f:Nat) (caps:List AV) (g:Pt→Bool) (ps:List Pt) (hf:∀p∈ps,Spec Tryz.prog f (Args (eP p::caps)) m (eB (g p)) m) (hl:ps.length≤9223372036854775807):
 Spec Tryz.prog 172 (Args [.d (sP ps), .fn f [] caps]) m (eN (bS g ps)) m:=by
 (refine Spec.hd (C:=T.cfg [] []) (rs:= [.t 4]) (T.ah _ _) Tryz.func172 rfl rfl Tryz.ntmps172 Tryz.results172 (fun p hp=>⟨(aH.low hR p hp).1,aH.nest hR p hp⟩) (fun p hp=>⟨(aH.low hR p hp).2,aH.nest hR p hp⟩) (by kernel_rfl) T.mixed fun X hX hP hC aB bK=> ?_)
 repeat' (first|refine Rn.p ?_|(with_reducible apply And.intro)|((first|(refine hK _ ?_;clear hK K)|with_reducible intro K hK|refine Rs.p ?_|((with_reducible first|apply oP|apply oQ);exact rfl));try simp only [go_sem,simprocAttr])|((with_reducible refine oD ?_ ?_);kernel_rfl)|((with_reducible intro h);try simp only [go_sem,simprocAttr] at h)|omega|intro h)
 refine ag (fun k:Nat=>k≤ps.length∧∀j,j<k→g (ps.getD j (0,0))=false) (fun k=>⟨[(0, .d (sP ps)),(1, .fn f [] caps),(7,eN ps.length),(8,eN k)],m⟩) (fun k=>ps.length - k) 0 (by simp) ?_ ?_
 ·(refine ⟨bD ?_,fun _ _ h=>h⟩;simp [go_sem,simprocAttr])
 rintro k ⟨hk,hg⟩
 rcases Nat.lt_or_ge k ps.length with hlt|hge
 ·have hb:decide ((k:Int)<(ps.length:Int))=true:=decide_eq_true (by omega)
  have hf':=hf (ps.getD k (0,0)) (aD hlt)
  repeat' (first|refine Rn.p ?_|(with_reducible apply And.intro)|((first|(refine hK _ ?_;clear hK K)|with_reducible intro K hK|refine Rs.p ?_|((with_reducible first|apply oP|apply oQ);exact rfl)|(first|(refine au hX hC hP hR (hf') rfl rfl rfl ?_ ?_ rfl rfl ?_;(focus (simp only [go_sem,simprocAttr,hb];done));(focus (first|(intro p hp;exact az (aH.nd hR) hp)|(simp [go_sem,simprocAttr,hb];done))))|(refine au hX hC hP hR (hf') rfl rfl rfl ?_ ?_ ?_ rfl ?_;(focus (simp only [go_sem,simprocAttr,hb];done));(focus (first|(intro p hp;exact az (aH.nd hR) hp)|(simp [go_sem,simprocAttr,hb];done)));(focus (simp [go_sem,simprocAttr,hb];done)))));try simp only [go_sem,simprocAttr,hb])|((with_reducible refine oD ?_ ?_);kernel_rfl)|((with_reducible intro h);try simp only [go_sem,simprocAttr,hb] at h)|omega|intro h)
  ·exact (bZ (by omega) hg h).symm
  ·exact bV hR
  ·refine ⟨k+1,⟨by omega,fun j hj=> ?_⟩, ?_,by omega⟩
   ·by_cases hjk:j=k
    ·subst hjk;exact h
    ·exact hg j (by omega)
   ·(refine ⟨bD ?_,fun _ _ h=>h⟩;simp [go_sem,simprocAttr,hb])
 ·have hb:decide ((k:Int)<(ps.length:Int))=false:=decide_eq_false (by omega)
  repeat' (first|refine Rn.p ?_|(with_reducible apply And.intro)|((first|(refine hK _ ?_;clear hK K)|with_reducible intro K hK|refine Rs.p ?_|((with_reducible first|apply oP|apply oQ);exact rfl)|(first|(refine au hX hC hP hR (hf') rfl rfl rfl ?_ ?_ rfl rfl ?_;(focus (simp only [go_sem,simprocAttr,hb];done));(focus (first|(intro p hp;exact az (aH.nd hR) hp)|(simp [go_sem,simprocAttr,hb];done))))|(refine au hX hC hP hR (hf') rfl rfl rfl ?_ ?_ ?_ rfl ?_;(focus (simp only [go_sem,simprocAttr,hb];done));(focus (first|(intro p hp;exact az (aH.nd hR) hp)|(simp [go_sem,simprocAttr,hb];done)));(focus (simp [go_sem,simprocAttr,hb];done)))));try simp only [go_sem,simprocAttr,hb])|((with_reducible refine oD ?_ ?_);kernel_rfl)|((with_reducible intro h);try simp only [go_sem,simprocAttr,hb] at h)|omega|intro h)
  ·exact (bA (0,0) fun j hj=>hg j (by omega)).symm
  ·exact bV hR
theorem og {m:List (Nat × AObj)} (hR:aH m) (f:Nat) (caps:List AV) (g:Pt→Bool) (ps:List Pt) (hf:∀p∈ps,Spec Tryz.prog f (Args (eP p::caps)) m (eB (g p)) m) (hl:ps.length≤9223372036854775807):
 Spec Tryz.prog 127 (Args [.d (sP ps), .fn f [] caps]) m (eB (ps.any g)) m:=by
 (refine Spec.hd (C:=T.cfg [] []) (rs:= [.t 4]) (T.ah _ _) Tryz.func127 rfl rfl Tryz.ntmps127 Tryz.results127 (fun p hp=>⟨(aH.low hR p hp).1,aH.nest hR p hp⟩) (fun p hp=>⟨(aH.low hR p hp).2,aH.nest hR p hp⟩) (by kernel_rfl) T.mixed fun X hX hP hC aB bK=> ?_)
 repeat' (first|refine Rn.p ?_|(with_reducible apply And.intro)|((first|(refine hK _ ?_;clear hK K)|with_reducible intro K hK|refine Rs.p ?_|((with_reducible first|apply oP|apply oQ);exact rfl)|(first|(refine au hX hC hP hR (kF hR f caps g ps hf hl) rfl rfl rfl ?_ ?_ rfl rfl ?_;(focus (simp only [go_sem,simprocAttr];done));(focus (first|(intro p hp;exact az (aH.nd hR) hp)|(simp [go_sem,simprocAttr];done))))|(refine au hX hC hP hR (kF hR f caps g ps hf hl) rfl rfl rfl ?_ ?_ ?_ rfl ?_;(focus (simp only [go_sem,simprocAttr];done));(focus (first|(intro p hp;exact az (aH.nd hR) hp)|(simp [go_sem,simprocAttr];done)));(focus (simp [go_sem,simprocAttr];done)))));try simp only [go_sem,simprocAttr])|((with_reducible refine oD ?_ ?_);kernel_rfl)|((with_reducible intro h);try simp only [go_sem,simprocAttr] at h)|omega|intro h)
 ·exact cT g ps
 ·exact bV hR
theorem kG {m:List (Nat × AObj)} (hR:aH m) (f:Nat) (caps:List AV) (g:List Pt→Bool) (ps:List (List Pt)) (hf:∀p∈ps,Spec Tryz.prog f (Args (eLn p::caps)) m (eB (g p)) m) (hl:ps.length≤9223372036854775807):
 Spec Tryz.prog 167 (Args [.d (sLn ps), .fn f [] caps]) m (eN (bS g ps)) m:=by
 (refine Spec.hd (C:=T.cfg [] []) (rs:= [.t 4]) (T.ah _ _) Tryz.func167 rfl rfl Tryz.ntmps167 Tryz.results167 (fun p hp=>⟨(aH.low hR p hp).1,aH.nest hR p hp⟩) (fun p hp=>⟨(aH.low hR p hp).2,aH.nest hR p hp⟩) (by kernel_rfl) T.mixed fun X hX hP hC aB bK=> ?_)
 repeat' (first|refine Rn.p ?_|(with_reducible apply And.intro)|((first|(refine hK _ ?_;clear hK K)|with_reducible intro K hK|refine Rs.p ?_|((with_reducible first|apply oP|apply oQ);exact rfl));try simp only [go_sem,simprocAttr])|((with_reducible refine oD ?_ ?_);kernel_rfl)|((with_reducible intro h);try simp only [go_sem,simprocAttr] at h)|omega|intro h)
 refine ag (fun k:Nat=>k≤ps.length∧∀j,j<k→g (ps.getD j [])=false) (fun k=>⟨[(0, .d (sLn ps)),(1, .fn f [] caps),(7,eN ps.length),(8,eN k)],m⟩) (fun k=>ps.length - k) 0 (by simp) ?_ ?_
 ·(refine ⟨bD ?_,fun _ _ h=>h⟩;simp [go_sem,simprocAttr])
 rintro k ⟨hk,hg⟩
 rcases Nat.lt_or_ge k ps.length with hlt|hge
 ·have hb:decide ((k:Int)<(ps.length:Int))=true:=decide_eq_true (by omega)
  have hf':=hf (ps.getD k []) (aD hlt)
  repeat' (first|refine Rn.p ?_|(with_reducible apply And.intro)|((first|(refine hK _ ?_;clear hK K)|with_reducible intro K hK|refine Rs.p ?_|((with_reducible first|apply oP|apply oQ);exact rfl)|(first|(refine au hX hC hP hR (hf') rfl rfl rfl ?_ ?_ rfl rfl ?_;(focus (simp only [go_sem,simprocAttr,hb];done));(focus (first|(intro p hp;exact az (aH.nd hR) hp)|(simp [go_sem,simprocAttr,hb];done))))|(refine au hX hC hP hR (hf') rfl rfl rfl ?_ ?_ ?_ rfl ?_;(focus (simp only [go_sem,simprocAttr,hb];done));(focus (first|(intro p hp;exact az (aH.nd hR) hp)|(simp [go_sem,simprocAttr,hb];done)));(focus (simp [go_sem,simprocAttr,hb];done)))));try simp only [go_sem,simprocAttr,hb])|((with_reducible refine oD ?_ ?_);kernel_rfl)|((with_reducible intro h);try simp only [go_sem,simprocAttr,hb] at h)|omega|intro h)
  ·exact (bZ (by omega) hg h).symm
  ·exact bV hR
  ·refine ⟨k+1,⟨by omega,fun j hj=> ?_⟩, ?_,by omega⟩
   ·by_cases hjk:j=k
    ·subst hjk;exact h
    ·exact hg j (by omega)
   ·(refine ⟨bD ?_,fun _ _ h=>h⟩;simp [go_sem,simprocAttr,hb])
 ·have hb:decide ((k:Int)<(ps.length:Int))=false:=decide_eq_false (by omega)
  repeat' (first|refine Rn.p ?_|(with_reducible apply And.intro)|((first|(refine hK _ ?_;clear hK K)|with_reducible intro K hK|refine Rs.p ?_|((with_reducible first|apply oP|apply oQ);exact rfl)|(first|(refine au hX hC hP hR (hf') rfl rfl rfl ?_ ?_ rfl rfl ?_;(focus (simp only [go_sem,simprocAttr,hb];done));(focus (first|(intro p hp;exact az (aH.nd hR) hp)|(simp [go_sem,simprocAttr,hb];done))))|(refine au hX hC hP hR (hf') rfl rfl rfl ?_ ?_ ?_ rfl ?_;(focus (simp only [go_sem,simprocAttr,hb];done));(focus (first|(intro p hp;exact az (aH.nd hR) hp)|(simp [go_sem,simprocAttr,hb];done)));(focus (simp [go_sem,simprocAttr,hb];done)))));try simp only [go_sem,simprocAttr,hb])|((with_reducible refine oD ?_ ?_);kernel_rfl)|((with_reducible intro h);try simp only [go_sem,simprocAttr,hb] at h)|omega|intro h)
  ·exact (bA [] fun j hj=>hg j (by omega)).symm
  ·exact bV hR
theorem oh {m:List (Nat × AObj)} (hR:aH m) (f:Nat) (caps:List AV) (g:List Pt→Bool) (ps:List (List Pt)) (hf:∀p∈ps,Spec Tryz.prog f (Args (eLn p::caps)) m (eB (g p)) m) (hl:ps.length≤9223372036854775807):
 Spec Tryz.prog 116 (Args [.d (sLn ps), .fn f [] caps]) m (eB (ps.any g)) m:=by
 (refine Spec.hd (C:=T.cfg [] []) (rs:= [.t 4]) (T.ah _ _) Tryz.func116 rfl rfl Tryz.ntmps116 Tryz.results116 (fun p hp=>⟨(aH.low hR p hp).1,aH.nest hR p hp⟩) (fun p hp=>⟨(aH.low hR p hp).2,aH.nest hR p hp⟩) (by kernel_rfl) T.mixed fun X hX hP hC aB bK=> ?_)
 repeat' (first|refine Rn.p ?_|(with_reducible apply And.intro)|((first|(refine hK _ ?_;clear hK K)|with_reducible intro K hK|refine Rs.p ?_|((with_reducible first|apply oP|apply oQ);exact rfl)|(first|(refine au hX hC hP hR (kG hR f caps g ps hf hl) rfl rfl rfl ?_ ?_ rfl rfl ?_;(focus (simp only [go_sem,simprocAttr];done));(focus (first|(intro p hp;exact az (aH.nd hR) hp)|(simp [go_sem,simprocAttr];done))))|(refine au hX hC hP hR (kG hR f caps g ps hf hl) rfl rfl rfl ?_ ?_ ?_ rfl ?_;(focus (simp only [go_sem,simprocAttr];done));(focus (first|(intro p hp;exact az (aH.nd hR) hp)|(simp [go_sem,simprocAttr];done)));(focus (simp [go_sem,simprocAttr];done)))));try simp only [go_sem,simprocAttr])|((with_reducible refine oD ?_ ?_);kernel_rfl)|((with_reducible intro h);try simp only [go_sem,simprocAttr] at h)|omega|intro h)
 ·exact cT g ps
 ·exact bV hR
end Go.Ab
end
section
namespace Go.Ab
open Go.Proofs
attribute [local congr] ACall.congr gd.congr Nx.congr
set_option maxRecDepth 10000
structure Dr where
 pts:List Pt
 ls:List (List Pt)
def eDr (d:Dr):AV:= .agg [.d (sP d.pts), .d (sLn d.ls)]
def lkO (g:Gr) (d:Dr):AObj:= .rob [eN g.n, .d (sE g.es), .d (sP d.pts), .d (sLn d.ls)]
theorem yD (g:Gr) (d:Dr):aH [(10000,lkO g d)]:=⟨by simp [lkO,AObj.ro],by simp [nodupM,look],by simp,by simp [lkO,AObj.ids,AV.ids,AV.idss,eN]⟩
attribute [go_sem] eDr lkO
def GJ (l:List Pt) (k:Nat):List Pc:=(List.range k).map fun i=>(l.getD i (0,0),l.getD (i+1) (0,0))
def eD (l:List Pt):List Pc:=GJ l (l.length - 1)
theorem GK {l:List Pt} {k:Nat} :GJ l (k+1)=GJ l k++ [(l.getD k (0,0),l.getD (k+1) (0,0))]:=by simp [GJ,List.range_succ]
theorem lM {l:List Pt} {k:Nat} :(GJ l k).length=k:=by simp [GJ]
theorem eX {l:List Pt} :(eD l).length=l.length - 1:=lM
theorem jR (l:List Pt) (h1:1≤l.length) (hl:l.length≤1000000):Spec Tryz.prog 119 (Args [.d (sP l)]) [] (.d (sQ (eD l))) []:=by
 (refine Spec.hd (C:=T.cfg [] []) (rs:= [.t 2]) (T.ah _ _) Tryz.func119 rfl rfl Tryz.ntmps119 Tryz.results119 (by simp [AObj.isNest]) (by simp [AObj.isNest]) (by kernel_rfl) T.mixed fun X hX hP hC aB bK=> ?_)
 repeat' (first|refine Rn.p ?_|(with_reducible apply And.intro)|((first|(refine hK _ ?_;clear hK K)|with_reducible intro K hK|refine Rs.p ?_|((with_reducible first|apply oP|apply oQ);exact rfl));try simp only [go_sem,simprocAttr])|((with_reducible refine oD ?_ ?_);kernel_rfl)|((with_reducible intro h);try simp only [go_sem,simprocAttr] at h)|omega|intro h)
 (refine gv hX 2 22 (.tip 176 4 []) (by simp only [go_sem,simprocAttr]) (by simp only [go_sem,simprocAttr]) (by decide) ⟨176,4,by decide, .inr rfl⟩ ?_;simp only [go_sem,simprocAttr])
 refine ag (fun k:Nat=>k≤l.length - 1) (fun k=>⟨[(0, .d (sP l)),(6,eN (l.length - 1:Nat)),(7,eN k),(2, .ref 22)], [(22, .tip 176 4 ((GJ l k).map rQ))]⟩) (fun k=>l.length - 1 - k) 0 (by omega) ?_ ?_
 ·refine Le.of ?_ ?_<;>simp [go_sem,simprocAttr,GJ]
 rintro k hk
 rcases Nat.lt_or_ge k (l.length - 1) with hlt|hge
 ·have hb:decide ((k:Int)<((l.length - 1:Nat):Int))=true:=decide_eq_true (by omega)
  repeat' (first|refine Rn.p ?_|(with_reducible apply And.intro)|((first|(refine hK _ ?_;clear hK K)|with_reducible intro K hK|refine Rs.p ?_|((with_reducible first|apply oP|apply oQ);exact rfl));try simp only [go_sem,simprocAttr,hb,lM])|((with_reducible refine oD ?_ ?_);kernel_rfl)|((with_reducible intro h);try simp only [go_sem,simprocAttr,hb,lM] at h)|omega|intro h)
  refine ⟨k+1,by omega, ?_,by omega⟩
  refine Le.of ?_ ?_<;>simp [go_sem,simprocAttr,hb,lM,GK,rQ]
 ·have hb:decide ((k:Int)<((l.length - 1:Nat):Int))=false:=decide_eq_false (by omega)
  obtain rfl:k=l.length - 1:=by omega
  repeat' (first|refine Rn.p ?_|(with_reducible apply And.intro)|((first|(refine hK _ ?_;clear hK K)|with_reducible intro K hK|refine Rs.p ?_|((with_reducible first|apply oP|apply oQ);exact rfl));try simp only [go_sem,simprocAttr,hb])|((with_reducible refine oD ?_ ?_);kernel_rfl)|((with_reducible intro h);try simp only [go_sem,simprocAttr,hb] at h)|omega|intro h)
  rfl
def robPt (p:Pt):List (Nat × AObj):= [(10000, .rob [eN p.1,eN p.2])]
theorem GL (p:Pt):aH (robPt p):=⟨by simp [robPt,AObj.ro],by simp [robPt,nodupM,look],by simp [robPt],by simp [robPt,AObj.ids,AV.ids,AV.idss,eN]⟩
attribute [go_sem] robPt
theorem Eh (q:Pc) (p:Pt):Spec Tryz.prog 170 (Args [eQ q, .ptr 10000 0]) (robPt p) (eB (lH q.1 q.2 p)) (robPt p):=by
 unfold robPt
 (refine Spec.hd (C:=T.cfg [] []) (rs:= [.t 3]) (T.ah _ _) Tryz.func170 rfl rfl Tryz.ntmps170 Tryz.results170 (by simp [AObj.isNest]) (by simp [AObj.isNest]) (by kernel_rfl) T.mixed fun X hX hP hC aB bK=> ?_)
 repeat' (first|refine Rn.p ?_|(with_reducible apply And.intro)|((first|(refine hK _ ?_;clear hK K)|with_reducible intro K hK|refine Rs.p ?_|((with_reducible first|apply oP|apply oQ);exact rfl)|refine aa hX hC hP (yu q.1 q.2 p) rfl rfl rfl (by simp only [go_sem,simprocAttr]) rfl ?_);try simp only [go_sem,simprocAttr])|((with_reducible refine oD ?_ ?_);kernel_rfl)|((with_reducible intro h);try simp only [go_sem,simprocAttr] at h)|omega|intro h)
def JN (l:List Pt) (p:Pt):Bool:=(eD l).any fun q=>lH q.1 q.2 p
theorem w8 (l:List Pt) (p:Pt) (h1:1≤l.length) (hl:l.length≤1000000):Spec Tryz.prog 122 (Args [.d (sP l),eP p]) [] (eB (JN l p)) []:=by
 have hl':(eD l).length≤9223372036854775807:=by rw [eX];omega
 (refine Spec.hd (C:=T.cfg [] []) (rs:= [.t 4]) (T.ah _ _) Tryz.func122 rfl rfl Tryz.ntmps122 Tryz.results122 (by simp [AObj.isNest]) (by simp [AObj.isNest]) (by kernel_rfl) T.mixed fun X hX hP hC aB bK=> ?_)
 repeat' (first|refine Rn.p ?_|(with_reducible apply And.intro)|((first|(refine hK _ ?_;clear hK K)|with_reducible intro K hK|refine Rs.p ?_|((with_reducible first|apply oP|apply oQ);exact rfl)|refine aa hX hC hP (jR l h1 hl) rfl rfl rfl (by simp only [go_sem,simprocAttr]) rfl ?_|(refine aP hX hC hP [(10000,3)] (jv (GL p) _ _ (fun q=>lH q.1 q.2 p) (eD l) (fun q _=>Eh q p) hl') rfl rfl rfl ?_ ?_ ?_ ?_ ?_ ?_ rfl rfl ?_ ?_;(focus (simp only [go_sem,simprocAttr];done));(iterate 6 (focus (simp [go_sem,simprocAttr];done)));try simp only [List.map_cons,List.map_nil]));try simp only [go_sem,simprocAttr])|((with_reducible refine oD ?_ ?_);kernel_rfl)|((with_reducible intro h);try simp only [go_sem,simprocAttr] at h)|omega|intro h)
 rfl
theorem Af (q:Pc):Spec Tryz.prog 120 (Args [eQ q]) [] (eB (decide (q.2.2≤q.1.2))) []:=by
 (refine Spec.hd (C:=T.cfg [] []) (rs:= [.t 2]) (T.ah _ _) Tryz.func120 rfl rfl Tryz.ntmps120 Tryz.results120 (by simp [AObj.isNest]) (by simp [AObj.isNest]) (by kernel_rfl) T.mixed fun X hX hP hC aB bK=> ?_)
 repeat' (first|refine Rn.p ?_|(with_reducible apply And.intro)|((first|(refine hK _ ?_;clear hK K)|with_reducible intro K hK|refine Rs.p ?_|((with_reducible first|apply oP|apply oQ);exact rfl));try simp only [go_sem,simprocAttr])|((with_reducible refine oD ?_ ?_);kernel_rfl)|((with_reducible intro h);try simp only [go_sem,simprocAttr] at h)|omega|intro h)
def fF (l:List Pt):Bool:= !(eD l).any fun q=>decide (q.2.2≤q.1.2)
structure ry (g:Gr) (d:Dr):Prop where
 may:aX g=true
 np:(d.pts.length:Int)=g.n
 nl:d.ls.length=g.es.length
 uV:∀l∈d.ls,2≤l.length∧l.length≤8
theorem ry.line {g:Gr} {d:Dr} (h:ry g d) {i:Nat} (hi:i<g.es.length):2≤(d.ls.getD i []).length∧(d.ls.getD i []).length≤8:=h.uV _ (aD (by rw [h.nl];exact hi))
theorem BK (g:Gr) (d:Dr) (h:ry g d) (i:Nat) (hi:i<g.es.length):Spec Tryz.prog 69 (Args [.ptr 10000 0,eN i]) [(10000,lkO g d)] (eB (fF (d.ls.getD i []))) [(10000,lkO g d)]:=by
 have hn:=bF h.may
 have hnl:=h.nl
 obtain ⟨h2,h8⟩:=h.line hi
 have h1:1≤(d.ls.getD i []).length:=by omega
 have hl:(d.ls.getD i []).length≤1000000:=by omega
 have hl':(eD (d.ls.getD i [])).length≤9223372036854775807:=by rw [eX];omega
 unfold lkO
 (refine Spec.hd (C:=T.cfg [] []) (rs:= [.t 4]) (T.ah _ _) Tryz.func69 rfl rfl Tryz.ntmps69 Tryz.results69 (by simp [AObj.isNest]) (by simp [AObj.isNest]) (by kernel_rfl) T.mixed fun X hX hP hC aB bK=> ?_)
 repeat' (first|refine Rn.p ?_|(with_reducible apply And.intro)|((first|(refine hK _ ?_;clear hK K)|with_reducible intro K hK|refine Rs.p ?_|((with_reducible first|apply oP|apply oQ);exact rfl)|refine aa hX hC hP (jR (d.ls.getD i []) h1 hl) rfl rfl rfl (by simp only [go_sem,simprocAttr]) rfl ?_|refine aa hX hC hP (jv aH.nil _ [] (fun q=>decide (q.2.2≤q.1.2)) (eD (d.ls.getD i [])) (fun q _=>Af q) hl') rfl rfl rfl (by simp only [go_sem,simprocAttr]) rfl ?_);try simp only [go_sem,simprocAttr])|((with_reducible refine oD ?_ ?_);kernel_rfl)|((with_reducible intro h);try simp only [go_sem,simprocAttr] at h)|omega|intro h)
 rfl
def om (g:Gr) (d:Dr) (i:Nat):Bool:=decide ((d.ls.getD i []).getD 0 (0,0)=d.pts.getD (g.es.getD i (0,0)).1.toNat (0,0))&&decide ((d.ls.getD i []).getD ((d.ls.getD i []).length - 1) (0,0)=d.pts.getD (g.es.getD i (0,0)).2.toNat (0,0))
theorem BL (g:Gr) (d:Dr) (h:ry g d) (i:Nat) (hi:i<g.es.length):Spec Tryz.prog 68 (Args [.ptr 10000 0,eN i]) [(10000,lkO g d)] (eB (om g d i)) [(10000,lkO g d)]:=by
 have hn:=bF h.may
 have hnp:=h.np
 have hnl:=h.nl
 obtain ⟨h2,h8⟩:=h.line hi
 obtain ⟨⟨Gq,vR⟩,zx,tW⟩:=dX h.may hi
 have htn:(((d.ls.getD i []).length:Int) - 1).toNat=(d.ls.getD i []).length - 1:=by omega
 unfold lkO
 (refine Spec.hd (C:=T.cfg [] []) (rs:= [.t 4]) (T.ah _ _) Tryz.func68 rfl rfl Tryz.ntmps68 Tryz.results68 (by simp [AObj.isNest]) (by simp [AObj.isNest]) (by kernel_rfl) T.mixed fun X hX hP hC aB bK=> ?_)
 repeat' (first|refine Rn.p ?_|(with_reducible apply And.intro)|((first|(refine hK _ ?_;clear hK K)|with_reducible intro K hK|refine Rs.p ?_|((with_reducible first|apply oP|apply oQ);exact rfl));try simp only [go_sem,simprocAttr,jI,htn])|((with_reducible refine oD ?_ ?_);kernel_rfl)|((with_reducible intro h);try simp only [go_sem,simprocAttr,jI,htn] at h)|omega|intro h)
 ·have h0:(d.ls.getD i []).getD 0 (0,0)=d.pts.getD (g.es.getD i (0,0)).1.toNat (0,0):=by assumption
  simp only [om,h0,decide_true,Bool.true_and]
 ·have h0:¬(d.ls.getD i []).getD 0 (0,0)=d.pts.getD (g.es.getD i (0,0)).1.toNat (0,0):=by assumption
  simp only [om,h0,decide_false,Bool.false_and]
def KT (l:List Pt) (x:Pt):Int:=bS (fun y=>decide (x=y)) l
theorem GM (l:List Pt) (x:Pt):decide (0≤KT l x)=decide (x∈l):=by
 unfold KT;rw [cT,Bool.eq_iff_iff];simp [-Prod.exists, -Prod.forall]
theorem Ag (ps:List Pt) (x:Pt) (hl:ps.length≤9223372036854775807):
 Spec Tryz.prog 169 (Args [.d (sP ps),eP x]) [] (eN (KT ps x)) []:=by
 (refine Spec.hd (C:=T.cfg [] []) (rs:= [.t 4]) (T.ah _ _) Tryz.func169 rfl rfl Tryz.ntmps169 Tryz.results169 (by simp [AObj.isNest]) (by simp [AObj.isNest]) (by kernel_rfl) T.mixed fun X hX hP hC aB bK=> ?_)
 repeat' (first|refine Rn.p ?_|(with_reducible apply And.intro)|((first|(refine hK _ ?_;clear hK K)|with_reducible intro K hK|refine Rs.p ?_|((with_reducible first|apply oP|apply oQ);exact rfl));try simp only [go_sem,simprocAttr])|((with_reducible refine oD ?_ ?_);kernel_rfl)|((with_reducible intro h);try simp only [go_sem,simprocAttr] at h)|omega|intro h)
 refine ag (fun k:Nat=>k≤ps.length∧∀j,j<k→decide (x=ps.getD j (0,0))=false) (fun k=>⟨[(0, .d (sP ps)),(3, .ptr 3 0),(7,eN ps.length),(8,eN k)], [(3, .box [eN x.1,eN x.2])]⟩) (fun k=>ps.length - k) 0 (by simp) ?_ ?_
 ·(refine Le.of ?_ ?_<;>simp [go_sem,simprocAttr])
 rintro k ⟨hk,hg⟩
 repeat' (first|refine Rn.p ?_|(with_reducible apply And.intro)|((first|(refine hK _ ?_;clear hK K)|with_reducible intro K hK|refine Rs.p ?_|((with_reducible first|apply oP|apply oQ);exact rfl));try simp only [go_sem,simprocAttr,jI])|((with_reducible refine oD ?_ ?_);kernel_rfl)|((with_reducible intro h);try simp only [go_sem,simprocAttr,jI] at h)|omega|intro h)
 ·exact (bZ (d:=(0,0)) (by omega) hg (by simpa using h)).symm
 ·refine ⟨k+1,⟨by omega,fun j hj=> ?_⟩, ?_,by omega⟩
  ·by_cases hjk:j=k
   ·subst hjk;exact h
   ·simpa using hg j (by omega)
  ·(refine Le.of ?_ ?_<;>simp [go_sem,simprocAttr,jI])
 ·exact (bA (0,0) fun j hj=>hg j (by omega)).symm
theorem uW (ps:List Pt) (x:Pt) (hl:ps.length≤9223372036854775807):
 Spec Tryz.prog 121 (Args [.d (sP ps),eP x]) [] (eB (decide (x∈ps))) []:=by
 rw [← GM]
 (refine Spec.hd (C:=T.cfg [] []) (rs:= [.t 4]) (T.ah _ _) Tryz.func121 rfl rfl Tryz.ntmps121 Tryz.results121 (by simp [AObj.isNest]) (by simp [AObj.isNest]) (by kernel_rfl) T.mixed fun X hX hP hC aB bK=> ?_)
 repeat' (first|refine Rn.p ?_|(with_reducible apply And.intro)|((first|(refine hK _ ?_;clear hK K)|with_reducible intro K hK|refine Rs.p ?_|((with_reducible first|apply oP|apply oQ);exact rfl)|refine aa hX hC hP (Ag ps x hl) rfl rfl rfl (by simp only [go_sem,simprocAttr]) rfl ?_);try simp only [go_sem,simprocAttr])|((with_reducible refine oD ?_ ?_);kernel_rfl)|((with_reducible intro h);try simp only [go_sem,simprocAttr] at h)|omega|intro h)
def dY (d:Dr) (x:Nat):Bool:= !decide (d.pts.getD x (0,0)∈d.pts.take x)
theorem BM (g:Gr) (d:Dr) (h:ry g d) (x:Nat) (hx:x<d.pts.length):Spec Tryz.prog 70 (Args [.ptr 10000 0,eN x]) [(10000,lkO g d)] (eB (dY d x)) [(10000,lkO g d)]:=by
 have hn:=bF h.may
 have hnp:=h.np
 have hl:(d.pts.take x).length≤9223372036854775807:=by rw [List.length_take];omega
 unfold lkO
 (refine Spec.hd (C:=T.cfg [] []) (rs:= [.t 4]) (T.ah _ _) Tryz.func70 rfl rfl Tryz.ntmps70 Tryz.results70 (by simp [AObj.isNest]) (by simp [AObj.isNest]) (by kernel_rfl) T.mixed fun X hX hP hC aB bK=> ?_)
 repeat' (first|refine Rn.p ?_|(with_reducible apply And.intro)|((first|(refine hK _ ?_;clear hK K)|with_reducible intro K hK|refine Rs.p ?_|((with_reducible first|apply oP|apply oQ);exact rfl)|refine aa hX hC hP (uW (d.pts.take x) (d.pts.getD x (0,0)) hl) rfl rfl rfl (by simp only [go_sem,simprocAttr, ← List.map_take]) rfl ?_);try simp only [go_sem,simprocAttr, ← List.map_take])|((with_reducible refine oD ?_ ?_);kernel_rfl)|((with_reducible intro h);try simp only [go_sem,simprocAttr, ← List.map_take] at h)|omega|intro h)
 rfl
def mh (g:Gr) (d:Dr) (i k:Nat):Bool:=(List.range k).all fun x=>decide ((x:Int)=(g.es.getD i (0,0)).1)||decide ((x:Int)=(g.es.getD i (0,0)).2)|| !JN (d.ls.getD i []) (d.pts.getD x (0,0))
def jw (g:Gr) (d:Dr) (i:Nat):Bool:=mh g d i d.pts.length
theorem uX {g:Gr} {d:Dr} {i k:Nat} :mh g d i (k+1)=(mh g d i k&&(decide ((k:Int)=(g.es.getD i (0,0)).1)||decide ((k:Int)=(g.es.getD i (0,0)).2)|| !JN (d.ls.getD i []) (d.pts.getD k (0,0)))):=by
 simp [mh,List.range_succ]
theorem qo {n k:Nat} {f:Nat→Bool} (hk:k<n) (h:f k=false):(List.range n).all f=false:=by
 rw [List.all_eq_false];exact ⟨k,List.mem_range.2 hk,by simp [h]⟩
theorem free_spec (g:Gr) (d:Dr) (h:ry g d) (i:Nat) (hi:i<g.es.length):Spec Tryz.prog 71 (Args [.ptr 10000 0,eN i]) [(10000,lkO g d)] (eB (jw g d i)) [(10000,lkO g d)]:=by
 have hn:=bF h.may
 have hnp:=h.np
 have hnl:=h.nl
 obtain ⟨h2,h8⟩:=h.line hi
 have h1:1≤(d.ls.getD i []).length:=by omega
 have hl:(d.ls.getD i []).length≤1000000:=by omega
 unfold lkO
 (refine Spec.hd (C:=T.cfg [] []) (rs:= [.t 4]) (T.ah _ _) Tryz.func71 rfl rfl Tryz.ntmps71 Tryz.results71 (by simp [AObj.isNest]) (by simp [AObj.isNest]) (by kernel_rfl) T.mixed fun X hX hP hC aB bK=> ?_)
 repeat' (first|refine Rn.p ?_|(with_reducible apply And.intro)|((first|(refine hK _ ?_;clear hK K)|with_reducible intro K hK|refine Rs.p ?_|((with_reducible first|apply oP|apply oQ);exact rfl));try simp only [go_sem,simprocAttr])|((with_reducible refine oD ?_ ?_);kernel_rfl)|((with_reducible intro h);try simp only [go_sem,simprocAttr] at h)|omega|intro h)
 refine ag (fun k:Nat=>k≤d.pts.length∧mh g d i k=true) (fun k=>⟨[(0, .ptr 10000 0),(1,eN i),(5, .ptr 5 0),(20, .d (sP d.pts)),(21,eN d.pts.length),(22,eN k)], [(5, .box [eN (g.es.getD i (0,0)).1,eN (g.es.getD i (0,0)).2]),(10000,lkO g d)]⟩) (fun k=>d.pts.length - k) 0 (by simp [mh]) ?_ ?_
 ·(refine Le.of ?_ ?_<;>simp [go_sem,simprocAttr])
 rintro k ⟨hk,hf⟩
 rcases Nat.lt_or_ge k d.pts.length with hlt|hge
 ·have hb:decide ((k:Int)<(d.pts.length:Int))=true:=decide_eq_true (by omega)
  have gJ:=uX (g:=g) (d:=d) (i:=i) (k:=k)
  rw [hf,Bool.true_and] at gJ
  repeat' (first|refine Rn.p ?_|(with_reducible apply And.intro)|((first|(refine hK _ ?_;clear hK K)|with_reducible intro K hK|refine Rs.p ?_|((with_reducible first|apply oP|apply oQ);exact rfl)|refine aa hX hC hP (w8 (d.ls.getD i []) (d.pts.getD k (0,0)) h1 hl) rfl rfl rfl (by simp only [go_sem,simprocAttr,hb]) rfl ?_);try simp only [go_sem,simprocAttr,hb])|((with_reducible refine oD ?_ ?_);kernel_rfl)|((with_reducible intro h);try simp only [go_sem,simprocAttr,hb] at h)|omega|intro h)
  ·rw [jw,mh]
   refine (qo hlt ?_).symm
   simp only [*,decide_false,Bool.or_false,Bool.false_or,Bool.not_true]
  all_goals (
   refine ⟨k+1,⟨by omega, ?_⟩, ?_,by omega⟩
   ·rw [gJ];simp only [*,decide_true,Bool.true_or,Bool.or_true,Bool.not_false]
   ·(refine Le.of ?_ ?_<;>simp [go_sem,simprocAttr,hb]))
 ·have hb:decide ((k:Int)<(d.pts.length:Int))=false:=decide_eq_false (by omega)
  obtain rfl:k=d.pts.length:=by omega
  repeat' (first|refine Rn.p ?_|(with_reducible apply And.intro)|((first|(refine hK _ ?_;clear hK K)|with_reducible intro K hK|refine Rs.p ?_|((with_reducible first|apply oP|apply oQ);exact rfl)|refine aa hX hC hP (w8 (d.ls.getD i []) (d.pts.getD k (0,0)) h1 hl) rfl rfl rfl (by simp only [go_sem,simprocAttr,hb]) rfl ?_);try simp only [go_sem,simprocAttr,hb])|((with_reducible refine oD ?_ ?_);kernel_rfl)|((with_reducible intro h);try simp only [go_sem,simprocAttr,hb] at h)|omega|intro h)
  ·exact hf.symm
end Go.Ab
end
section
namespace Go.Ab
open Go.Proofs
attribute [local congr] ACall.congr gd.congr Nx.congr
set_option maxRecDepth 10000
def GN (e:Edge) (x:Int):Bool:=decide (x=e.1)||decide (x=e.2)
def oo (g:Gr) (d:Dr) (i k:Nat) (m:Nat):List Pt:=(([(g.es.getD i (0,0)).1,(g.es.getD i (0,0)).2].take m).filter (GN (g.es.getD k (0,0)))).map fun x=>d.pts.getD x.toNat (0,0)
def eC (g:Gr) (d:Dr) (i k:Nat):List Pt:=oo g d i k 2
theorem GO {g:Gr} {d:Dr} {i k:Nat} :(eC g d i k).length≤2:=by
 unfold eC oo
 rw [List.length_map]
 exact Nat.le_trans (List.length_filter_le _ _) (by simp)
theorem GP {g:Gr} {d:Dr} {i k m:Nat} :(oo g d i k m).length≤2:=by
 unfold oo
 rw [List.length_map]
 refine Nat.le_trans (List.length_filter_le _ _) ?_
 rw [List.length_take];simp;omega
theorem KU {g:Gr} {d:Dr} {i k:Nat} :oo g d i k 1=oo g d i k 0++if (g.es.getD i (0,0)).1=(g.es.getD k (0,0)).1∨(g.es.getD i (0,0)).1=(g.es.getD k (0,0)).2 then [d.pts.getD (g.es.getD i (0,0)).1.toNat (0,0)] else []:=by
 simp only [oo,List.take_succ_cons,List.take_zero,List.filter_nil,List.map_nil,List.nil_append,List.filter_cons,GN,Bool.or_eq_true,decide_eq_true_eq]
 split<;>rfl
theorem KW {g:Gr} {d:Dr} {i k:Nat} :oo g d i k 2=oo g d i k 1++if (g.es.getD i (0,0)).2=(g.es.getD k (0,0)).1∨(g.es.getD i (0,0)).2=(g.es.getD k (0,0)).2 then [d.pts.getD (g.es.getD i (0,0)).2.toNat (0,0)] else []:=by
 simp only [oo,List.take_succ_cons,List.take_zero,List.filter_nil,List.map_nil,List.nil_append,List.filter_cons,GN,Bool.or_eq_true,decide_eq_true_eq]
 split<;>split<;>rfl
theorem sF (g:Gr) (d:Dr) (h:ry g d) (i k:Nat) (hi:i<g.es.length) (hk:k<g.es.length):Spec Tryz.prog 123 (Args [.ptr 10000 0,eN i,eN k]) [(10000,lkO g d)] (.d (sP (eC g d i k))) [(10000,lkO g d)]:=by
 have hn:=bF h.may
 have hnp:=h.np
 obtain ⟨⟨Gq,vR⟩,zx,tW⟩:=dX h.may hi
 obtain ⟨⟨HU,Bf⟩,hk2,L4⟩:=dX h.may hk
 unfold lkO
 (refine Spec.hd (C:=T.cfg [] []) (rs:= [.t 6]) (T.ah _ _) Tryz.func123 rfl rfl Tryz.ntmps123 Tryz.results123 (by simp [AObj.isNest]) (by simp [AObj.isNest]) (by kernel_rfl) T.mixed fun X hX hP hC aB bK=> ?_)
 repeat' (first|refine Rn.p ?_|(with_reducible apply And.intro)|((first|(refine hK _ ?_;clear hK K)|with_reducible intro K hK|refine Rs.p ?_|((with_reducible first|apply oP|apply oQ);exact rfl));try simp only [go_sem,simprocAttr])|((with_reducible refine oD ?_ ?_);kernel_rfl)|((with_reducible intro h);try simp only [go_sem,simprocAttr] at h)|omega|intro h)
 (refine gv hX 6 55 (.tip 54 2 []) (by simp only [go_sem,simprocAttr]) (by simp only [go_sem,simprocAttr]) (by decide) ⟨54,2,by decide, .inr rfl⟩ ?_;simp only [go_sem,simprocAttr])
 refine ag (fun m:Nat=>m≤2) (fun m=>⟨[(0, .ptr 10000 0),(8, .ptr 8 0),(31, .agg [eN (g.es.getD i (0,0)).1,eN (g.es.getD i (0,0)).2]),(32,eN m),(6, .ref 55)], [(55, .tip 54 2 ((oo g d i k m).map rP)),(8, .box [eN (g.es.getD k (0,0)).1,eN (g.es.getD k (0,0)).2]),(10000,lkO g d)]⟩) (fun m=>2 - m) 0 (by omega) ?_ ?_
 ·refine Le.of ?_ ?_<;>simp [go_sem,simprocAttr,oo]
 rintro m hm
 have hlen:=GP (g:=g) (d:=d) (i:=i) (k:=k) (m:=m)
 match m,hm with
 |0,_=>
  have hx:=KU (g:=g) (d:=d) (i:=i) (k:=k)
  repeat' (first|refine Rn.p ?_|(with_reducible apply And.intro)|((first|(refine hK _ ?_;clear hK K)|with_reducible intro K hK|refine Rs.p ?_|((with_reducible first|apply oP|apply oQ);exact rfl));try simp only [go_sem,simprocAttr])|((with_reducible refine oD ?_ ?_);kernel_rfl)|((with_reducible intro h);try simp only [go_sem,simprocAttr] at h)|omega|intro h)
  all_goals (refine ⟨1,by omega, ?_,by omega⟩;first|rw [if_pos (by omega)] at hx|rw [if_neg (by omega)] at hx)
  all_goals (refine Le.of ?_ ?_<;>simp [go_sem,simprocAttr,hx,rP])
 |1,_=>
  have hx:=KW (g:=g) (d:=d) (i:=i) (k:=k)
  repeat' (first|refine Rn.p ?_|(with_reducible apply And.intro)|((first|(refine hK _ ?_;clear hK K)|with_reducible intro K hK|refine Rs.p ?_|((with_reducible first|apply oP|apply oQ);exact rfl));try simp only [go_sem,simprocAttr])|((with_reducible refine oD ?_ ?_);kernel_rfl)|((with_reducible intro h);try simp only [go_sem,simprocAttr] at h)|omega|intro h)
  all_goals (refine ⟨2,by omega, ?_,by omega⟩;first|rw [if_pos (by omega)] at hx|rw [if_neg (by omega)] at hx)
  all_goals (refine Le.of ?_ ?_<;>simp [go_sem,simprocAttr,hx,rP])
 |2,_=>
  repeat' (first|refine Rn.p ?_|(with_reducible apply And.intro)|((first|(refine hK _ ?_;clear hK K)|with_reducible intro K hK|refine Rs.p ?_|((with_reducible first|apply oP|apply oQ);exact rfl));try simp only [go_sem,simprocAttr])|((with_reducible refine oD ?_ ?_);kernel_rfl)|((with_reducible intro h);try simp only [go_sem,simprocAttr] at h)|omega|intro h)
  rfl
 |m+3,hm=>omega
theorem qp {α:Type} {f:α→Bool} {xs:List α} (d:α) {k:Nat} (h1:k<xs.length) (h:(xs.take k).all f=true) (he:f (xs.getD k d)=true):(xs.take (k+1)).all f=true:=by
 rw [List.take_add_one,List.all_append,h,List.getElem?_eq_getElem h1]
 simp only [List.getD_eq_getElem?_getD,List.getElem?_eq_getElem h1,Option.getD_some] at he
 simp [he]
theorem jS {α:Type} {f:α→Bool} {xs:List α} {d:α} {k:Nat} (h1:k<xs.length) (he:f (xs.getD k d)=false):xs.all f=false:=by
 rw [List.all_eq_false]
 exact ⟨_,aD h1,by rw [he];simp⟩
def robQ2 (a b:Pc):List (Nat × AObj):= [(10000, .rob [eN a.1.1,eN a.1.2,eN a.2.1,eN a.2.2]),(10001, .rob [eN b.1.1,eN b.1.2,eN b.2.1,eN b.2.2])]
theorem GQ (a b:Pc):aH (robQ2 a b):=⟨by simp [robQ2,AObj.ro],by simp [robQ2,nodupM,look],by simp [robQ2],by simp [robQ2,AObj.ids,AV.ids,AV.idss,eN]⟩
attribute [go_sem] robQ2
theorem Ah (a b:Pc) (p:Pt):Spec Tryz.prog 125 (Args [eP p, .ptr 10000 0, .ptr 10001 0]) (robQ2 a b) (eB (lH a.1 a.2 p&&lH b.1 b.2 p)) (robQ2 a b):=by
 unfold robQ2
 (refine Spec.hd (C:=T.cfg [] []) (rs:= [.t 4]) (T.ah _ _) Tryz.func125 rfl rfl Tryz.ntmps125 Tryz.results125 (by simp [AObj.isNest]) (by simp [AObj.isNest]) (by kernel_rfl) T.mixed fun X hX hP hC aB bK=> ?_)
 repeat' (first|refine Rn.p ?_|(with_reducible apply And.intro)|((first|(refine hK _ ?_;clear hK K)|with_reducible intro K hK|refine Rs.p ?_|((with_reducible first|apply oP|apply oQ);exact rfl)|refine aa hX hC hP (yu a.1 a.2 p) rfl rfl rfl (by simp only [go_sem,simprocAttr]) rfl ?_|refine aa hX hC hP (yu b.1 b.2 p) rfl rfl rfl (by simp only [go_sem,simprocAttr]) rfl ?_);try simp only [go_sem,simprocAttr])|((with_reducible refine oD ?_ ?_);kernel_rfl)|((with_reducible intro h);try simp only [go_sem,simprocAttr] at h)|omega|intro h)
 all_goals simp [*]
def fG (es:List Pt) (a b:Pc):Bool:=decide (1<eW a.1 a.2 b.1 b.2)||(decide (eW a.1 a.2 b.1 b.2=1)&& !es.any fun p=>lH a.1 a.2 p&&lH b.1 b.2 p)
def gV (g:Gr) (d:Dr) (i m:Nat):Bool:=(List.range m).all fun k=>(eD (d.ls.getD i [])).all fun a=>(eD (d.ls.getD k [])).all fun b=> !fG (eC g d i k) a b
def fu (g:Gr) (d:Dr) (i:Nat):Bool:=gV g d i i
theorem sG {g:Gr} {d:Dr} {i m:Nat} :gV g d i (m+1)=(gV g d i m&&(eD (d.ls.getD i [])).all fun a=>(eD (d.ls.getD m [])).all fun b=> !fG (eC g d i m) a b):=by
 simp [gV,List.range_succ]
theorem Ai (g:Gr) (d:Dr) (hD:ry g d) (i:Nat) (hi:i<g.es.length):Spec Tryz.prog 72 (Args [.ptr 10000 0,eN i]) [(10000,lkO g d)] (eB (fu g d i)) [(10000,lkO g d)]:=by
 have hn:=bF hD.may
 have hnp:=hD.np
 have hnl:=hD.nl
 obtain ⟨h2,h8⟩:=hD.line hi
 have h1:1≤(d.ls.getD i []).length:=by omega
 have hl:(d.ls.getD i []).length≤1000000:=by omega
 have ez:(eD (d.ls.getD i [])).length=(d.ls.getD i []).length - 1:=eX
 unfold lkO
 (refine Spec.hd (C:=T.cfg [] []) (rs:= [.t 4]) (T.ah _ _) Tryz.func72 rfl rfl Tryz.ntmps72 Tryz.results72 (by simp [AObj.isNest]) (by simp [AObj.isNest]) (by kernel_rfl) T.mixed fun X hX hP hC aB bK=> ?_)
 repeat' (first|refine Rn.p ?_|(with_reducible apply And.intro)|((first|(refine hK _ ?_;clear hK K)|with_reducible intro K hK|refine Rs.p ?_|((with_reducible first|apply oP|apply oQ);exact rfl));try simp only [go_sem,simprocAttr])|((with_reducible refine oD ?_ ?_);kernel_rfl)|((with_reducible intro h);try simp only [go_sem,simprocAttr] at h)|omega|intro h)
 refine ag (fun k:Nat=>k≤i∧gV g d i k=true) (fun k=>⟨[(0, .ptr 10000 0),(1,eN i),(13,eN i),(14,eN k)], [(10000,lkO g d)]⟩) (fun k=>i - k) 0 (by simp [gV]) ?_ ?_
 ·(refine Le.of ?_ ?_<;>simp [go_sem,simprocAttr])
 rintro k ⟨hk,hf⟩
 rcases Nat.lt_or_ge k i with hlt|hge
 ·have hb:decide ((k:Int)<(i:Int))=true:=decide_eq_true (by omega)
  have cF:k<g.es.length:=by omega
  obtain ⟨Ip,Vv⟩:=hD.line cF
  have zi:1≤(d.ls.getD k []).length:=by omega
  have hl':(d.ls.getD k []).length≤1000000:=by omega
  have pY:(eD (d.ls.getD k [])).length=(d.ls.getD k []).length - 1:=eX
  have zf:(eC g d i k).length≤9223372036854775807:=by have:=GO (g:=g) (d:=d) (i:=i) (k:=k);omega
  have gJ:=sG (g:=g) (d:=d) (i:=i) (m:=k)
  rw [hf,Bool.true_and] at gJ
  repeat' (first|refine Rn.p ?_|(with_reducible apply And.intro)|((first|(refine hK _ ?_;clear hK K)|with_reducible intro K hK|refine Rs.p ?_|((with_reducible first|apply oP|apply oQ);exact rfl)|(first|(refine au hX hC hP (yD g d) (sF g d hD i k hi cF) rfl rfl rfl ?_ ?_ rfl rfl ?_;(focus (simp only [go_sem,simprocAttr,hb];done));(focus (first|(intro p hp;exact az (aH.nd (yD g d)) hp)|(simp [go_sem,simprocAttr,hb];done))))|(refine au hX hC hP (yD g d) (sF g d hD i k hi cF) rfl rfl rfl ?_ ?_ ?_ rfl ?_;(focus (simp only [go_sem,simprocAttr,hb];done));(focus (first|(intro p hp;exact az (aH.nd (yD g d)) hp)|(simp [go_sem,simprocAttr,hb];done)));(focus (simp [go_sem,simprocAttr,hb];done))))|refine aa hX hC hP (jR (d.ls.getD i []) h1 hl) rfl rfl rfl (by simp only [go_sem,simprocAttr,hb]) rfl ?_);try simp only [go_sem,simprocAttr,hb])|((with_reducible refine oD ?_ ?_);kernel_rfl)|((with_reducible intro h);try simp only [go_sem,simprocAttr,hb] at h)|omega|intro h)
  refine ag (fun s:Nat=>s≤(eD (d.ls.getD i [])).length∧((eD (d.ls.getD i [])).take s).all (fun a=>(eD (d.ls.getD k [])).all fun b=> !fG (eC g d i k) a b)=true) (fun s=>⟨[(0, .ptr 10000 0),(1,eN i),(13,eN i),(14,eN k),(5,eN k),(6, .d (sP (eC g d i k))),(29, .d (sQ (eD (d.ls.getD i [])))),(30,eN (eD (d.ls.getD i [])).length),(31,eN s)], [(10000,lkO g d)]⟩) (fun s=>(eD (d.ls.getD i [])).length - s) 0 (by simp) ?_ ?_
  ·(refine ⟨bD ?_,fun _ _ h=>h⟩;simp [go_sem,simprocAttr,hb])
  rintro s ⟨hs,JO⟩
  rcases Nat.lt_or_ge s (eD (d.ls.getD i [])).length with za|LM
  ·have aC:decide ((s:Int)<((eD (d.ls.getD i [])).length:Int))=true:=decide_eq_true (by omega)
   obtain ⟨a,ha⟩:∃a,a=(eD (d.ls.getD i [])).getD s ((0,0),(0,0)):=⟨_,rfl⟩
   repeat' (first|refine Rn.p ?_|(with_reducible apply And.intro)|((first|(refine hK _ ?_;clear hK K)|with_reducible intro K hK|refine Rs.p ?_|((with_reducible first|apply oP|apply oQ);exact rfl)|refine aa hX hC hP (jR (d.ls.getD k []) zi hl') rfl rfl rfl (by simp only [go_sem,simprocAttr,aC, ← ha]) rfl ?_);try simp only [go_sem,simprocAttr,aC, ← ha])|((with_reducible refine oD ?_ ?_);kernel_rfl)|((with_reducible intro h);try simp only [go_sem,simprocAttr,aC, ← ha] at h)|omega|intro h)
   refine ag (fun t:Nat=>t≤(eD (d.ls.getD k [])).length∧((eD (d.ls.getD k [])).take t).all (fun b=> !fG (eC g d i k) a b)=true) (fun t=>⟨[(0, .ptr 10000 0),(1,eN i),(13,eN i),(14,eN k),(5,eN k),(6, .d (sP (eC g d i k))),(29, .d (sQ (eD (d.ls.getD i [])))),(30,eN (eD (d.ls.getD i [])).length),(31,eN s),(8, .ptr 8 0),(43, .d (sQ (eD (d.ls.getD k [])))),(44,eN (eD (d.ls.getD k [])).length),(45,eN t)], [(8, .box [eN a.1.1,eN a.1.2,eN a.2.1,eN a.2.2]),(10000,lkO g d)]⟩) (fun t=>(eD (d.ls.getD k [])).length - t) 0 (by simp) ?_ ?_
   ·(refine Le.of ?_ ?_<;>simp [go_sem,simprocAttr,aC, ← ha])
   rintro t ⟨ht,JP⟩
   rcases Nat.lt_or_ge t (eD (d.ls.getD k [])).length with l7|Sa
   ·have aI:decide ((t:Int)<((eD (d.ls.getD k [])).length:Int))=true:=decide_eq_true (by omega)
    obtain ⟨b,Fe⟩:∃b,b=(eD (d.ls.getD k [])).getD t ((0,0),(0,0)):=⟨_,rfl⟩
    have oT:fG (eC g d i k) a b=(decide (1<eW a.1 a.2 b.1 b.2)||(decide (eW a.1 a.2 b.1 b.2=1)&& !(eC g d i k).any fun p=>lH a.1 a.2 p&&lH b.1 b.2 p)):=rfl
    have hno:fG (eC g d i k) a b=true→fu g d i=false:=fun hb=>qo hlt (jS (d:=((0,0),(0,0))) za (by rw [← ha];exact jS (d:=((0,0),(0,0))) l7 (by rw [← Fe,hb];rfl)))
    repeat' (first|refine Rn.p ?_|(with_reducible apply And.intro)|((first|(refine hK _ ?_;clear hK K)|with_reducible intro K hK|refine Rs.p ?_|((with_reducible first|apply oP|apply oQ);exact rfl)|refine aa hX hC hP (Ef a.1 a.2 b.1 b.2) rfl rfl rfl (by simp only [go_sem,simprocAttr,aI, ← Fe]) rfl ?_|(refine aP hX hC hP [(10000,8),(10001,10)] (og (GQ a b) _ _ (fun p=>lH a.1 a.2 p&&lH b.1 b.2 p) (eC g d i k) (fun p _=>Ah a b p) zf) rfl rfl rfl ?_ ?_ ?_ ?_ ?_ ?_ rfl rfl ?_ ?_;(focus (simp only [go_sem,simprocAttr,aI, ← Fe];done));(iterate 6 (focus (simp [go_sem,simprocAttr,aI, ← Fe];done)));try simp only [List.map_cons,List.map_nil]));try simp only [go_sem,simprocAttr,aI, ← Fe])|((with_reducible refine oD ?_ ?_);kernel_rfl)|((with_reducible intro h);try simp only [go_sem,simprocAttr,aI, ← Fe] at h)|omega|intro h)
    all_goals first
     |(refine (hno ?_).symm;rw [oT];simp only [decide_eq_true_eq,Bool.or_eq_true,Bool.and_eq_true,Bool.not_eq_true'];first|exact .inl (by assumption)|exact .inr ⟨by assumption,by assumption⟩)
     |(have IU:fG (eC g d i k) a b=false:=(by rw [oT];simp only [Bool.or_eq_false_iff,decide_eq_false_iff_not,Bool.and_eq_false_iff,Bool.not_eq_false'];first|exact ⟨by omega, .inl (by assumption)⟩|exact ⟨by omega, .inr (by assumption)⟩)
       refine ⟨t+1,⟨by omega,qp ((0,0),(0,0)) l7 JP (by rw [← Fe,IU];rfl)⟩, ?_,by omega⟩
       (refine Le.of ?_ ?_<;>simp [go_sem,simprocAttr,aI, ← Fe]))
   ·have aI:decide ((t:Int)<((eD (d.ls.getD k [])).length:Int))=false:=decide_eq_false (by omega)
    rw [List.take_of_length_le Sa] at JP
    repeat' (first|refine Rn.p ?_|(with_reducible apply And.intro)|((first|(refine hK _ ?_;clear hK K)|with_reducible intro K hK|refine Rs.p ?_|((with_reducible first|apply oP|apply oQ);exact rfl));try simp only [go_sem,simprocAttr,aI])|((with_reducible refine oD ?_ ?_);kernel_rfl)|((with_reducible intro h);try simp only [go_sem,simprocAttr,aI] at h)|omega|intro h)
    refine ⟨s+1,⟨by omega,qp ((0,0),(0,0)) za JO (by rw [← ha];exact JP)⟩, ?_,by omega⟩
    (refine Le.of ?_ ?_<;>simp [go_sem,simprocAttr,aI])
  ·have aC:decide ((s:Int)<((eD (d.ls.getD i [])).length:Int))=false:=decide_eq_false (by omega)
   rw [List.take_of_length_le LM] at JO
   repeat' (first|refine Rn.p ?_|(with_reducible apply And.intro)|((first|(refine hK _ ?_;clear hK K)|with_reducible intro K hK|refine Rs.p ?_|((with_reducible first|apply oP|apply oQ);exact rfl));try simp only [go_sem,simprocAttr,aC])|((with_reducible refine oD ?_ ?_);kernel_rfl)|((with_reducible intro h);try simp only [go_sem,simprocAttr,aC] at h)|omega|intro h)
   refine ⟨k+1,⟨by omega,by rw [gJ];exact JO⟩, ?_,by omega⟩
   (refine Le.of ?_ ?_<;>simp [go_sem,simprocAttr,aC])
 ·have hb:decide ((k:Int)<(i:Int))=false:=decide_eq_false (by omega)
  obtain rfl:k=i:=by omega
  repeat' (first|refine Rn.p ?_|(with_reducible apply And.intro)|((first|(refine hK _ ?_;clear hK K)|with_reducible intro K hK|refine Rs.p ?_|((with_reducible first|apply oP|apply oQ);exact rfl));try simp only [go_sem,simprocAttr,hb])|((with_reducible refine oD ?_ ?_);kernel_rfl)|((with_reducible intro h);try simp only [go_sem,simprocAttr,hb] at h)|omega|intro h)
  exact hf.symm
end Go.Ab
end
section
namespace Go.Ab
open Go.Proofs
attribute [local congr] ACall.congr gd.congr Nx.congr
set_option maxRecDepth 10000
def bG (n:Nat) (holds:Nat→Bool):Int:=bS (fun i=> !holds i) (List.range n)
theorem jx {m:List (Nat × AObj)} (hR:aH m) (f:Nat) (fs caps:List AV) (holds:Nat→Bool) (n:Nat) (hl:n≤9223372036854775807) (hf:∀i:Nat,i<n→Spec Tryz.prog f (Args (fs++eN i::caps)) m (eB (holds i)) m):
 Spec Tryz.prog 67 (Args [eN n, .fn f fs caps]) m (eN (bG n holds)) m:=by
 (refine Spec.hd (C:=T.cfg [] []) (rs:= [.t 4]) (T.ah _ _) Tryz.func67 rfl rfl Tryz.ntmps67 Tryz.results67 (fun p hp=>⟨(aH.low hR p hp).1,aH.nest hR p hp⟩) (fun p hp=>⟨(aH.low hR p hp).2,aH.nest hR p hp⟩) (by kernel_rfl) T.mixed fun X hX hP hC aB bK=> ?_)
 repeat' (first|refine Rn.p ?_|(with_reducible apply And.intro)|((first|(refine hK _ ?_;clear hK K)|with_reducible intro K hK|refine Rs.p ?_|((with_reducible first|apply oP|apply oQ);exact rfl));try simp only [go_sem,simprocAttr])|((with_reducible refine oD ?_ ?_);kernel_rfl)|((with_reducible intro h);try simp only [go_sem,simprocAttr] at h)|omega|intro h)
 refine ag (fun k:Nat=>k≤n∧∀j,j<k→holds j=true) (fun k=>⟨[(1, .fn f fs caps),(6,eN n),(7,eN k)],m⟩) (fun k=>n - k) 0 (by simp) ?_ ?_
 ·(refine ⟨bD ?_,fun _ _ h=>h⟩;simp [go_sem,simprocAttr])
 rintro k ⟨hk,hg⟩
 rcases Nat.lt_or_ge k n with hlt|hge
 ·have hb:decide ((k:Int)<(n:Int))=true:=decide_eq_true (by omega)
  have hf':=hf k hlt
  repeat' (first|refine Rn.p ?_|(with_reducible apply And.intro)|((first|(refine hK _ ?_;clear hK K)|with_reducible intro K hK|refine Rs.p ?_|((with_reducible first|apply oP|apply oQ);exact rfl)|(first|(refine au hX hC hP hR (hf') rfl rfl rfl ?_ ?_ rfl rfl ?_;(focus (simp only [go_sem,simprocAttr,hb];done));(focus (first|(intro p hp;exact az (aH.nd hR) hp)|(simp [go_sem,simprocAttr,hb];done))))|(refine au hX hC hP hR (hf') rfl rfl rfl ?_ ?_ ?_ rfl ?_;(focus (simp only [go_sem,simprocAttr,hb];done));(focus (first|(intro p hp;exact az (aH.nd hR) hp)|(simp [go_sem,simprocAttr,hb];done)));(focus (simp [go_sem,simprocAttr,hb];done)))));try simp only [go_sem,simprocAttr,hb])|((with_reducible refine oD ?_ ?_);kernel_rfl)|((with_reducible intro h);try simp only [go_sem,simprocAttr,hb] at h)|omega|intro h)
  ·refine (bZ (d:=0) (by simpa using hlt) (fun j hj=> ?_) ?_).symm
   ·rw [cG (by omega),hg j hj];rfl
   ·rw [cG hlt,h];rfl
  ·exact bV hR
  ·refine ⟨k+1,⟨by omega,fun j hj=> ?_⟩, ?_,by omega⟩
   ·by_cases hjk:j=k
    ·subst hjk;exact h
    ·exact hg j (by omega)
   ·(refine ⟨bD ?_,fun _ _ h=>h⟩;simp [go_sem,simprocAttr,hb])
 ·have hb:decide ((k:Int)<(n:Int))=false:=decide_eq_false (by omega)
  repeat' (first|refine Rn.p ?_|(with_reducible apply And.intro)|((first|(refine hK _ ?_;clear hK K)|with_reducible intro K hK|refine Rs.p ?_|((with_reducible first|apply oP|apply oQ);exact rfl)|(first|(refine au hX hC hP hR (hf') rfl rfl rfl ?_ ?_ rfl rfl ?_;(focus (simp only [go_sem,simprocAttr,hb];done));(focus (first|(intro p hp;exact az (aH.nd hR) hp)|(simp [go_sem,simprocAttr,hb];done))))|(refine au hX hC hP hR (hf') rfl rfl rfl ?_ ?_ ?_ rfl ?_;(focus (simp only [go_sem,simprocAttr,hb];done));(focus (first|(intro p hp;exact az (aH.nd hR) hp)|(simp [go_sem,simprocAttr,hb];done)));(focus (simp [go_sem,simprocAttr,hb];done)))));try simp only [go_sem,simprocAttr,hb])|((with_reducible refine oD ?_ ?_);kernel_rfl)|((with_reducible intro h);try simp only [go_sem,simprocAttr,hb] at h)|omega|intro h)
  ·refine (bA 0 fun j hj=> ?_).symm
   rw [List.length_range] at hj
   rw [cG hj,hg j (by omega)];rfl
  ·exact bV hR
def iB (l:List Pt):Bool:=decide (l.length<2)||decide (8<l.length)||l.any jZ
theorem yE (l:List Pt) (hl:l.length≤9223372036854775806):Spec Tryz.prog 117 (Args [.d (sP l)]) [] (eB (iB l)) []:=by
 (refine Spec.hd (C:=T.cfg [] []) (rs:= [.t 2]) (T.ah _ _) Tryz.func117 rfl rfl Tryz.ntmps117 Tryz.results117 (by simp [AObj.isNest]) (by simp [AObj.isNest]) (by kernel_rfl) T.mixed fun X hX hP hC aB bK=> ?_)
 repeat' (first|refine Rn.p ?_|(with_reducible apply And.intro)|((first|(refine hK _ ?_;clear hK K)|with_reducible intro K hK|refine Rs.p ?_|((with_reducible first|apply oP|apply oQ);exact rfl)|refine aa hX hC hP (nH l hl) rfl rfl rfl (by simp only [go_sem,simprocAttr]) rfl ?_);try simp only [go_sem,simprocAttr])|((with_reducible refine oD ?_ ?_);kernel_rfl)|((with_reducible intro h);try simp only [go_sem,simprocAttr] at h)|omega|intro h)
 ·have e1:decide (l.length<2)=false:=decide_eq_false (by omega)
  have e2:decide (8<l.length)=false:=decide_eq_false (by omega)
  simp only [iB,e1,e2,Bool.false_or,Bool.not_not]
 ·have e2:decide (8<l.length)=true:=decide_eq_true (by omega)
  simp only [iB,e2,Bool.or_true,Bool.true_or]
 ·have e1:decide (l.length<2)=true:=decide_eq_true (by omega)
  simp only [iB,e1,Bool.true_or]
def dH (d:Dr):Bool:= !d.pts.any jZ&& !d.ls.any iB
theorem sH (g:Gr) (d:Dr) (hp:d.pts.length≤9223372036854775806) (hls:d.ls.length≤9223372036854775807) (jK:∀l∈d.ls,l.length≤9223372036854775806):
 Spec Tryz.prog 66 (Args [.ptr 10000 0]) [(10000,lkO g d)] (eB (dH d)) [(10000,lkO g d)]:=by
 unfold lkO
 (refine Spec.hd (C:=T.cfg [] []) (rs:= [.t 2]) (T.ah _ _) Tryz.func66 rfl rfl Tryz.ntmps66 Tryz.results66 (by simp [AObj.isNest]) (by simp [AObj.isNest]) (by kernel_rfl) T.mixed fun X hX hP hC aB bK=> ?_)
 repeat' (first|refine Rn.p ?_|(with_reducible apply And.intro)|((first|(refine hK _ ?_;clear hK K)|with_reducible intro K hK|refine Rs.p ?_|((with_reducible first|apply oP|apply oQ);exact rfl)|refine aa hX hC hP (nH d.pts hp) rfl rfl rfl (by simp only [go_sem,simprocAttr]) rfl ?_|refine aa hX hC hP (oh aH.nil _ [] iB d.ls (fun l hl=>yE l (jK l hl)) hls) rfl rfl rfl (by simp only [go_sem,simprocAttr]) rfl ?_);try simp only [go_sem,simprocAttr])|((with_reducible refine oD ?_ ?_);kernel_rfl)|((with_reducible intro h);try simp only [go_sem,simprocAttr] at h)|omega|intro h)
 all_goals simp only [dH]
 ·have h0:d.pts.any jZ=false:=by assumption
  simp only [h0,Bool.not_false,Bool.true_and]
 ·have h0:d.pts.any jZ=true:=by assumption
  simp only [h0,Bool.not_true,Bool.false_and]
theorem uY {g:Gr} (h:(dD g).1=0):aX g=true:=by
 cases hm:aX g with
 |true=>rfl
 |false=>simp [dD,iM,hm] at h
theorem o7 {d:Dr} (h:dH d=true):∀l∈d.ls,2≤l.length∧l.length≤8:=by
 intro l hl
 simp only [dH,Bool.and_eq_true,Bool.not_eq_true'] at h
 have:=(List.any_eq_false.1 h.2) l hl
 simp only [iB,Bool.or_eq_true,decide_eq_true_eq,not_or] at this
 omega
def fz (g:Gr) (d:Dr):Bool:=decide ((dD g).1=0)&&decide ((d.pts.length:Int)=g.n)&&decide (d.ls.length=g.es.length)
def gW (g:Gr) (d:Dr):Int × Int:=
 if fz g d=false then (1,0) else
 if dH d=false then (2,0) else
 if 0≤bG g.es.length (om g d) then (6,bG g.es.length (om g d)) else
 if 0≤bG g.es.length (fun i=>fF (d.ls.getD i [])) then (7,bG g.es.length (fun i=>fF (d.ls.getD i []))) else
 if 0≤bG d.pts.length (dY d) then (8,bG d.pts.length (dY d)) else
 if 0≤bG g.es.length (jw g d) then (9,bG g.es.length (jw g d)) else
 if 0≤bG g.es.length (fu g d) then (17,bG g.es.length (fu g d)) else (0,0)
def eFt (c:Int × Int):AV:= .agg [eN c.1,eN c.2, .d (.sl 1 [])]
attribute [go_sem] eFt
set_option maxHeartbeats 8000000 in
theorem dw (g:Gr) (d:Dr) (xX:g.es.length≤1000) (hp:d.pts.length≤1000) (hls:d.ls.length≤1000) (jK:∀l∈d.ls,l.length≤1000):
 Spec Tryz.prog 28 (Args [eG g,eDr d]) [] (eFt (gW g d)) []:=by
 have MI:d.pts.length≤9223372036854775806:=by omega
 have BN:d.ls.length≤9223372036854775807:=by omega
 have NF:∀l∈d.ls,l.length≤9223372036854775806:=fun l hl=>by have:=jK l hl;omega
 (refine Spec.hd (C:=T.cfg [] []) (rs:= [.c 4 64]) (T.ah _ _) Tryz.func28 rfl rfl Tryz.ntmps28 Tryz.results28 (by simp [AObj.isNest]) (by simp [AObj.isNest]) (by kernel_rfl) T.mixed fun X hX hP hC aB bK=> ?_)
 cases hfit:fz g d with
 |false=>
  have hc:gW g d=(1,0):=by rw [gW,if_pos hfit]
  have hneg:¬((dD g).1=0∧(d.pts.length:Int)=g.n∧d.ls.length=g.es.length):=fun ⟨a,b,c⟩=>by simp [fz,a,b,c] at hfit
  repeat' (first|refine Rn.p ?_|(with_reducible apply And.intro)|((first|(refine hK _ ?_;clear hK K)|with_reducible intro K hK|refine Rs.p ?_|((with_reducible first|apply oP|apply oQ);exact rfl)|refine aa hX hC hP (js g xX) rfl rfl rfl (by simp only [go_sem,simprocAttr,hc]) rfl ?_);try simp only [go_sem,simprocAttr,hc])|((with_reducible refine oD ?_ ?_);kernel_rfl)|((with_reducible intro h);try simp only [go_sem,simprocAttr,hc] at h)|omega|intro h)
  all_goals trace_state
 |true=>
  simp only [fz,Bool.and_eq_true,decide_eq_true_eq] at hfit
  obtain ⟨⟨h0,hnp⟩,hnl⟩:=hfit
  have hfit:fz g d=true:=by simp only [fz,h0,hnp,hnl,decide_true,Bool.and_self]
  have hm:=uY h0
  have hn:=bF hm
  have e0:(dD g).1=0:=h0
  cases hr:dH d with
  |false=>
   have hc:gW g d=(2,0):=by rw [gW,if_neg (by rw [hfit];simp),if_pos hr]
   repeat' (first|refine Rn.p ?_|(with_reducible apply And.intro)|((first|(refine hK _ ?_;clear hK K)|with_reducible intro K hK|refine Rs.p ?_|((with_reducible first|apply oP|apply oQ);exact rfl)|refine aa hX hC hP (js g xX) rfl rfl rfl (by simp only [go_sem,simprocAttr,hc,h0,hnl,hr]) rfl ?_|(refine aP hX hC hP [(10000,14)] (sH g d MI BN NF) rfl rfl rfl ?_ ?_ ?_ ?_ ?_ ?_ rfl rfl ?_ ?_;(focus (simp only [go_sem,simprocAttr,hc,h0,hnl,hr];done));(iterate 6 (focus (simp [go_sem,simprocAttr,hc,h0,hnl,hr];done)));try simp only [List.map_cons,List.map_nil]));try simp only [go_sem,simprocAttr,hc,h0,hnl,hr])|((with_reducible refine oD ?_ ?_);kernel_rfl)|((with_reducible intro h);try simp only [go_sem,simprocAttr,hc,h0,hnl,hr] at h)|omega|intro h)
  |true=>
  have NG:ry g d:=⟨hm,hnp,hnl,o7 hr⟩
  have hle:g.es.length≤9223372036854775807:=by omega
  have hle2:d.pts.length≤9223372036854775807:=by omega
  have fa:Spec Tryz.prog 67 (Args [eN g.n, .fn 70 [.ptr 10000 0] []]) [(10000,lkO g d)] (eN (bG d.pts.length (dY d))) [(10000,lkO g d)]:=by
   rw [← hnp];exact jx (yD g d) _ [.ptr 10000 0] [] (dY d) d.pts.length hle2 (fun i hi=>BM g d NG i hi)
  have hc1:gW g d=if 0≤bG g.es.length (om g d) then (6,bG g.es.length (om g d)) else
   if 0≤bG g.es.length (fun i=>fF (d.ls.getD i [])) then (7,bG g.es.length (fun i=>fF (d.ls.getD i []))) else
   if 0≤bG d.pts.length (dY d) then (8,bG d.pts.length (dY d)) else
   if 0≤bG g.es.length (jw g d) then (9,bG g.es.length (jw g d)) else
   if 0≤bG g.es.length (fu g d) then (17,bG g.es.length (fu g d)) else (0,0):=by
   rw [gW,if_neg (by rw [hfit];simp),if_neg (by rw [hr];simp)]
  generalize TJ:gW g d=c at hc1 ⊢
  repeat' (first|refine Rn.p ?_|(with_reducible apply And.intro)|((first|(refine hK _ ?_;clear hK K)|with_reducible intro K hK|refine Rs.p ?_|((with_reducible first|apply oP|apply oQ);exact rfl)|refine aa hX hC hP (js g xX) rfl rfl rfl (by simp only [go_sem,simprocAttr,h0,hnl,hr]) rfl ?_|(refine aP hX hC hP [(10000,14)] (sH g d MI BN NF) rfl rfl rfl ?_ ?_ ?_ ?_ ?_ ?_ rfl rfl ?_ ?_;(focus (simp only [go_sem,simprocAttr,h0,hnl,hr];done));(iterate 6 (focus (simp [go_sem,simprocAttr,h0,hnl,hr];done)));try simp only [List.map_cons,List.map_nil])|(refine aP hX hC hP [(10000,14)] (jx (yD g d) _ [.ptr 10000 0] [] (om g d) g.es.length hle (fun i hi=>BL g d NG i hi)) rfl rfl rfl ?_ ?_ ?_ ?_ ?_ ?_ rfl rfl ?_ ?_;(focus (simp only [go_sem,simprocAttr,h0,hnl,hr];done));(iterate 6 (focus (simp [go_sem,simprocAttr,h0,hnl,hr];done)));try simp only [List.map_cons,List.map_nil])|(refine aP hX hC hP [(10000,14)] (jx (yD g d) _ [.ptr 10000 0] [] (fun i=>fF (d.ls.getD i [])) g.es.length hle (fun i hi=>BK g d NG i hi)) rfl rfl rfl ?_ ?_ ?_ ?_ ?_ ?_ rfl rfl ?_ ?_;(focus (simp only [go_sem,simprocAttr,h0,hnl,hr];done));(iterate 6 (focus (simp [go_sem,simprocAttr,h0,hnl,hr];done)));try simp only [List.map_cons,List.map_nil])|(refine aP hX hC hP [(10000,14)] (fa) rfl rfl rfl ?_ ?_ ?_ ?_ ?_ ?_ rfl rfl ?_ ?_;(focus (simp only [go_sem,simprocAttr,h0,hnl,hr];done));(iterate 6 (focus (simp [go_sem,simprocAttr,h0,hnl,hr];done)));try simp only [List.map_cons,List.map_nil])|(refine aP hX hC hP [(10000,14)] (jx (yD g d) _ [.ptr 10000 0] [] (jw g d) g.es.length hle (fun i hi=>free_spec g d NG i hi)) rfl rfl rfl ?_ ?_ ?_ ?_ ?_ ?_ rfl rfl ?_ ?_;(focus (simp only [go_sem,simprocAttr,h0,hnl,hr];done));(iterate 6 (focus (simp [go_sem,simprocAttr,h0,hnl,hr];done)));try simp only [List.map_cons,List.map_nil])|(refine aP hX hC hP [(10000,14)] (jx (yD g d) _ [.ptr 10000 0] [] (fu g d) g.es.length hle (fun i hi=>Ai g d NG i hi)) rfl rfl rfl ?_ ?_ ?_ ?_ ?_ ?_ rfl rfl ?_ ?_;(focus (simp only [go_sem,simprocAttr,h0,hnl,hr];done));(iterate 6 (focus (simp [go_sem,simprocAttr,h0,hnl,hr];done)));try simp only [List.map_cons,List.map_nil]));try simp only [go_sem,simprocAttr,h0,hnl,hr])|((with_reducible refine oD ?_ ?_);kernel_rfl)|((with_reducible intro h);try simp only [go_sem,simprocAttr,h0,hnl,hr] at h)|omega|intro h)
  all_goals (rw [hc1];repeat (first|rw [if_pos (by assumption)]|rw [if_neg (by assumption)]))
end Go.Ab
end
