/- A part of the proof. -/
import Derived.Test.YtameldglfobjkaaGreatL4P12
set_option linter.unusedSimpArgs false
set_option linter.unusedVariables false
section
namespace Go.Ab
def Ord (g:Gr) (out:List Int):Prop:=∀p,p<out.length→∀i,i<g.es.length→hd g i=out.getD p 0→tl g i∈out.take p
theorem lE {l r:List Int} {p:Nat} (h:p<l.length):(l++r).getD p 0=l.getD p 0:=by
 rw [List.getD_eq_getElem?_getD,List.getD_eq_getElem?_getD,List.getElem?_append_left h]
theorem Ord.next {g:Gr} {out:List Int} (h:Ord g out) {x:Nat} (hb:∀i,i<g.es.length→hd g i=x→tl g i∈out):Ord g (out++ [(x:Int)]):=by
 intro p hp i hi hh
 rw [List.length_append,List.length_singleton] at hp
 by_cases gw:p<out.length
 ·rw [lE gw] at hh
  have:=h p gw i hi hh
  rw [List.take_append_of_le_length (by omega)]
  exact this
 ·have hpe:p=out.length:=by omega
  subst hpe
  rw [List.getD_eq_getElem?_getD,List.getElem?_append_right (by omega)] at hh
  simp at hh
  rw [List.take_append_of_le_length (by omega),List.take_of_length_le (by omega)]
  exact hb i hi hh
theorem r7 {g:Gr} (hm:aP g=true):∀f out,ef g out→Ord g out→left g out≤f→ef g (tu g f out)∧Ord g (tu g f out)∧dA (cE g (tu g f out)) 0<0
 |f,out,hP,hO,hl=>by
  rcases Kg (g:=g) out with hx|⟨x,hx,Dg,hw⟩
  ·rw [xy (by omega)];exact ⟨hP,hO,by omega⟩
  ·obtain ⟨IM,_,hb⟩:=hP.next hm Dg hw
   have hn:=tO hP IM
   cases f with
   |zero=>omega
   |succ f=>
    have:=r7 hm f (out++ [(x:Int)]) IM (hO.next hb) (by omega)
    simp only [tu,hx]
    rw [if_neg (by omega)]
    exact this
theorem fM {g:Gr} (hm:aP g=true):ef g (aI g)∧Ord g (aI g)∧dA (cE g (aI g)) 0<0:=
 r7 hm _ _ (ef.nil g) (fun p hp=>by simp at hp) (by rw [ox];exact Nat.le_refl _)
theorem pG {g:Gr} (hm:aP g=true) {y:Nat} (hy:y<g.n.toNat):0<wt g (aI g) y↔(y:Int)∉aI g:=by
 obtain ⟨_,_,hi⟩:=fM hm
 constructor
 ·intro h hin;simp [wt,hin] at h
 ·intro h
  have h0:wt g (aI g) y≠0:=by
   intro e
   rcases eC (f:=fun y:Int=>decide (0=y)) (l:=cE g (aI g)) 0 with ⟨_,h2⟩|⟨k,h1,_⟩
   ·have:=h2 _ (List.mem_of_getElem? (kg hy))
    rw [e] at this;simp at this
   ·have:dA (cE g (aI g)) 0=k:=h1
    omega
  have:0≤wt g (aI g) y:=by simp only [wt,h,if_false];omega
  omega
theorem r8 {g:Gr} {l:List Bool} {j y:Nat} (h:y<g.n.toNat):(ej g l j).getD y false=(List.range j).any fun i=>decide (hd g i=(y:Int))&&(l.getD (tl g i).toNat false&&l.getD (hd g i).toNat false):=by
 simp [ej,List.getD_eq_getElem?_getD,List.getElem?_range h]
theorem r9 {g:Gr} (hm:aP g=true):∀k y,y<g.n.toNat→(y:Int)∉aI g→(eV g k).getD y false=true
 |0,y,hy,_=>by simp [eV,lC,List.getD_eq_getElem?_getD,List.getElem?_range hy];omega
 |k+1,y,hy,h=>by
  have hw:=(pG hm hy).2 h
  simp only [wt,h,if_false] at hw
  obtain ⟨i,hi,hp⟩:=List.countP_pos_iff.1 (Int.natCast_pos.1 hw)
  simp only [Bool.and_eq_true,decide_eq_true_eq,Bool.not_eq_true',decide_eq_false_iff_not] at hp
  have hil:=List.mem_range.1 hi
  obtain ⟨⟨h1,h2⟩,_⟩:=eA hm hil
  have ht:(g.es.getD i (0,0)).1=tl g i:=rfl
  rw [ht] at h1 h2
  have e:((tl g i).toNat:Int)=tl g i:=by omega
  have g1:=r9 hm k (tl g i).toNat (by omega) (by rw [e];exact hp.2)
  have g2:=r9 hm k y hy h
  show (ej g (eV g k) g.es.length).getD y false=true
  rw [r8 hy,List.any_eq_true]
  refine ⟨i,hi, ?_⟩
  rw [hp.1,Int.toNat_natCast,g1,g2];simp
theorem zW {g:Gr} (hm:aP g=true):∀k p,p<k→p<(aI g).length→(eV g k).getD ((aI g).getD p 0).toNat false=false
 |0,p,h,_=>by omega
 |k+1,p,h,hp=>by
  obtain ⟨hP,hO,_⟩:=fM hm
  have hr:=hP.lo _ (gj hp)
  obtain ⟨y,hy⟩:∃y:Nat,(aI g).getD p 0=y:=⟨((aI g).getD p 0).toNat,by omega⟩
  have PK:y<g.n.toNat:=by omega
  rw [hy,Int.toNat_natCast]
  show (ej g (eV g k) g.es.length).getD y false=false
  rw [r8 PK,List.any_eq_false]
  intro i hi
  have hil:=List.mem_range.1 hi
  simp only [Bool.and_eq_true,decide_eq_true_eq]
  rintro ⟨h1,h2,_⟩
  have ht:=hO p hp i hil (by rw [h1,hy])
  rw [List.mem_iff_getElem?] at ht
  obtain ⟨q,hq⟩:=ht
  rw [List.getElem?_take] at hq
  split at hq
  ·rename_i PL
   have:=zW hm k q (by omega) (by omega)
   rw [List.getD_eq_getElem?_getD (l:=aI g),hq] at this
   rw [Option.getD_some,h2] at this
   cases this
  ·cases hq
theorem Ds {g:Gr} (hm:aP g=true) {y:Nat} (hy:y<g.n.toNat):(vb g).getD y false=true↔(y:Int)∉aI g:=by
 constructor
 ·intro h hin
  obtain ⟨hP,_,_⟩:=fM hm
  obtain ⟨p,hp,e⟩:=List.getElem_of_mem hin
  have hl:=hP.fuel
  have:=zW hm g.n.toNat p (by omega) hp
  rw [List.getD_eq_getElem?_getD (l:=aI g),List.getElem?_eq_getElem hp,Option.getD_some,e,Int.toNat_natCast] at this
  have h2:(eV g g.n.toNat).getD y false=true:=h
  rw [this] at h2;cases h2
 ·intro h;exact r9 hm _ y hy h
theorem Dt {g:Gr} (hm:aP g=true) {y:Nat} (hy:y<g.n.toNat):(vb g).getD y false=decide (0<(cE g (aI g)).getD y 0):=by
 rw [lp hy,Bool.eq_iff_iff,Ds hm hy,decide_eq_true_eq,pG hm hy]
theorem start_eq {g:Gr} (hm:aP g=true):(bV (fun n=>decide (0<n)) (cE g (aI g))= -1∧EW g=g.n)∨∃a:Nat,a<g.n.toNat∧bV (fun n=>decide (0<n)) (cE g (aI g))=a∧EW g=a∧(a:Int)∉aI g:=by
 have hlf:(vb g).length=g.n.toNat:=leftK_length
 rcases eC (f:=fun n:Int=>decide (0<n)) (l:=cE g (aI g)) 0 with ⟨h1,h2⟩|⟨k,h1,h2,h3,h4⟩
 ·refine .inl ⟨h1, ?_⟩
  have:bV (fun b:Bool=>b) (vb g)= -1:=cG false fun j hj=>by
   rw [hlf] at hj
   rw [Dt hm hj]
   exact h2 _ (by rw [List.getD_eq_getElem?_getD,kg hj];exact List.mem_of_getElem? (kg hj))
  unfold EW;rw [this,if_pos (by omega)]
 ·rw [wts_length] at h2
  refine .inr ⟨k,h2,h1, ?_, ?_⟩
  ·have:bV (fun b:Bool=>b) (vb g)=k:=dK (d:=false) (by omega) (fun j hj=>by
    rw [Dt hm (by omega)];exact h4 j hj) (by rw [Dt hm h2];exact h3)
   unfold EW;rw [this,if_neg (by omega)]
  ·rw [← pG hm h2]
   rw [lp h2] at h3
   exact of_decide_eq_true h3
def Q (g:Gr) (a:Nat) (t:Int):Prop:=∃i,i<g.es.length∧hd g i=(a:Int)∧tl g i=t∧t∉aI g
theorem bX {g:Gr} (hm:aP g=true) {i:Nat} (hi:i<g.es.length):0≤tl g i∧tl g i<g.n:=(eA hm hi).1
theorem cW {g:Gr} (hm:aP g=true) {i:Nat} (hi:i<g.es.length):0≤hd g i∧hd g i<g.n:=(eA hm hi).2
theorem Bl {g:Gr} (hm:aP g=true) {i:Nat} (hi:i<g.es.length):0<(cE g (aI g)).getD (tl g i).toNat 0↔tl g i∉aI g:=by
 have h:=bX hm hi
 have e:((tl g i).toNat:Int)=tl g i:=by omega
 rw [lp (by omega),pG hm (by omega),e]
theorem qk {g:Gr} (hm:aP g=true):∀(l:List Int) (b:Int),(∀e∈l,∃i:Nat,e=i∧i<g.es.length)→
 (b= -1∨0≤b)→(l.foldl (eS g (cE g (aI g))) b=b∨∃i:Nat,(i:Int)∈l∧tl g i∉aI g∧l.foldl (eS g (cE g (aI g))) b=tl g i)∧(0≤b→l.foldl (eS g (cE g (aI g))) b≤b)∧
   (∀i:Nat,(i:Int)∈l→tl g i∉aI g→0≤l.foldl (eS g (cE g (aI g))) b∧l.foldl (eS g (cE g (aI g))) b≤tl g i)
 | [],b,_,_=>⟨.inl rfl,fun _=>Int.le_refl _,by simp⟩
 |e::l,b,he,hb=>by
  obtain ⟨i,rfl,hi⟩:=he e List.mem_cons_self
  have htr:=bX hm hi
  have hw:=Bl hm hi
  have hstep:eS g (cE g (aI g)) b (i:Int)=if tl g i∉aI g∧(b<0∨tl g i<b) then tl g i else b:=by
   simp only [eS,Int.toNat_natCast,hw]
  have hb':eS g (cE g (aI g)) b (i:Int)= -1∨0≤eS g (cE g (aI g)) b (i:Int):=by
   rw [hstep];split
   ·exact .inr htr.1
   ·exact hb
  obtain ⟨h1,h2,h3⟩:=qk hm l (eS g (cE g (aI g)) b (i:Int)) (fun e h=>he e (List.mem_cons_of_mem _ h)) hb'
  simp only [List.foldl_cons]
  generalize hr:l.foldl (eS g (cE g (aI g))) (eS g (cE g (aI g)) b (i:Int))=r at h1 h2 h3 ⊢
  refine ⟨?_, ?_, ?_⟩
  ·rcases h1 with h1|⟨j,hj,h4,h5⟩
   ·rw [hstep] at h1
    split at h1
    ·rename_i hc
     exact .inr ⟨i,by simp,hc.1,h1⟩
    ·exact .inl h1
   ·exact .inr ⟨j,by simp [hj],h4,h5⟩
  ·intro h0
   rw [hstep] at h2
   split at h2
   ·rename_i hc;have:=h2 htr.1;omega
   ·exact h2 h0
  ·intro j hj hjn
   rcases List.mem_cons.1 hj with hj|hj
   ·have:j=i:=Int.ofNat.inj hj
    subst this
    rw [hstep] at h1 h2
    split at h1
    ·rename_i hc
     rw [if_pos hc] at h2
     have:=h2 htr.1
     rcases h1 with h1|⟨q,hq,h4,h5⟩
     ·omega
     ·obtain ⟨i',e',hi'⟩:=he q (List.mem_cons_of_mem _ hq)
      have:q=i':=Int.ofNat.inj e'
      subst this
      have:=bX hm hi';omega
    ·rename_i hc
     rw [if_neg hc] at h2
     have Ft:¬(b<0∨tl g j<b):=fun h=>hc ⟨hjn,h⟩
     have:=h2 (by omega)
     rcases h1 with h1|⟨q,hq,h4,h5⟩
     ·omega
     ·obtain ⟨i',e',hi'⟩:=he q (List.mem_cons_of_mem _ hq)
      have:q=i':=Int.ofNat.inj e'
      subst this
      have:=bX hm hi';omega
   ·exact h3 j hj hjn
theorem sg {g:Gr} (hm:aP g=true) {a:Nat} (h:∃t,Q g a t):Q g a (iP g (cE g (aI g)) a)∧∀t,Q g a t→iP g (cE g (aI g)) a≤t:=by
 have hin:∀i,i<g.es.length→hd g i=(a:Int)→(i:Int)∈pF g a:=by
  intro i hi hh
  simp only [pF,eP,List.mem_map,List.mem_filter,List.mem_range,decide_eq_true_eq]
  exact ⟨i,⟨hi,hh⟩,rfl⟩
 obtain ⟨h1,_,h3⟩:=qk hm (pF g a) (-1) Dn (.inl rfl)
 have hG:iP g (cE g (aI g)) a=(pF g a).foldl (eS g (cE g (aI g))) (-1):=by simp [iP,tS]
 rw [← hG] at h1 h3
 have hle:∀t,Q g a t→0≤iP g (cE g (aI g)) a∧iP g (cE g (aI g)) a≤t:=by
  rintro t ⟨i,h4,h5,rfl,h6⟩
  exact h3 i (hin i h4 h5) h6
 obtain ⟨t,ht⟩:=h
 have h0:=(hle t ht).1
 refine ⟨?_,fun t ht=>(hle t ht).2⟩
 rcases h1 with h1|⟨i,hi,h4,h5⟩
 ·omega
 ·obtain ⟨i',e',hi',hh⟩:=va hi
  have:i=i':=Int.ofNat.inj e'
  subst this
  exact ⟨i,hi',hh,h5.symm,by rw [h5];exact h4⟩
theorem si {g:Gr} (hm:aP g=true) {a:Nat} :∀k,k≤g.es.length→(dR g a k=g.n∨Q g a (dR g a k))∧dR g a k≤g.n∧∀i,i<k→hd g i=(a:Int)→tl g i∉aI g→dR g a k≤tl g i
 |0,_=>⟨.inl rfl,Int.le_refl _,by simp⟩
 |k+1,hk=>by
  obtain ⟨h1,h2,h3⟩:=si hm (a:=a) k (by omega)
  have htr:=bX hm (i:=k) (by omega)
  have e:((tl g k).toNat:Int)=tl g k:=by omega
  have hlf:=Ds hm (y:=(tl g k).toNat) (by omega)
  rw [e] at hlf
  rw [nj]
  unfold ve
  split
  ·rename_i hc0
   have hc:hd g k=(a:Int)∧tl g k∉aI g:=⟨hc0.1,hlf.1 hc0.2⟩
   refine ⟨?_,by omega, ?_⟩
   ·by_cases hle:dR g a k≤tl g k
    ·rw [Int.min_eq_left hle];exact h1
    ·rw [Int.min_eq_right (by omega)];exact .inr ⟨k,by omega,hc.1,rfl,hc.2⟩
   ·intro i hi hh hn
    by_cases hik:i=k
    ·subst hik;omega
    ·have:=h3 i (by omega) hh hn;omega
  ·rename_i hc
   refine ⟨h1,h2, ?_⟩
   intro i hi hh hn
   by_cases hik:i=k
   ·subst hik;exact absurd ⟨hh,hlf.2 hn⟩ hc
   ·exact h3 i (by omega) hh hn
theorem back_eq {g:Gr} (hm:aP g=true) {a:Nat} (h:∃t,Q g a t):iP g (cE g (aI g)) a=dR g a g.es.length∧Q g a (dR g a g.es.length):=by
 obtain ⟨h1,h2⟩:=sg hm h
 obtain ⟨h3,h4,h5⟩:=si hm (a:=a) g.es.length (Nat.le_refl _)
 have hb:dR g a g.es.length≤iP g (cE g (aI g)) a:=by
  obtain ⟨i,h6,h7,h8,h9⟩:=h1
  rw [← h8] at h9 ⊢
  exact h5 i h6 h7 h9
 have hlt:iP g (cE g (aI g)) a<g.n:=by
  obtain ⟨i,h6,h7,h8,h9⟩:=h1
  rw [← h8];exact (bX hm h6).2
 rcases h3 with h3|h3
 ·omega
 ·exact ⟨by have:=h2 _ h3;omega,h3⟩
theorem HQ {g:Gr} (hm:aP g=true) {a:Nat} (ha:a<g.n.toNat) (h:(a:Int)∉aI g):∃t,Q g a t:=by
 have hw:=(pG hm ha).2 h
 simp only [wt,h,if_false] at hw
 obtain ⟨i,hi,hp⟩:=List.countP_pos_iff.1 (Int.natCast_pos.1 hw)
 simp only [Bool.and_eq_true,decide_eq_true_eq,Bool.not_eq_true',decide_eq_false_iff_not] at hp
 exact ⟨tl g i,i,List.mem_range.1 hi,hp.1,rfl,hp.2⟩
theorem Du {g:Gr} (hm:aP g=true):∀(f f':Nat) (way:List Int) (a:Nat),way.Nodup→a<g.n.toNat→(a:Int)∉aI g→left g way≤f→left g way≤f'→
 kj g (cE g (aI g)) f way a=ni g f' way a∧(0≤(ni g f' way a).2∧(ni g f' way a).2∈(ni g f' way a).1∧(ni g f' way a).1.Nodup)
 |f,f',way,a,hd,ha,hn,h1,h2=>by
  by_cases hmem:(a:Int)∈way
  ·rw [jG (.inr hmem),xA hmem]
   exact ⟨rfl,by simp only;omega,hmem,hd⟩
  ·have hla:=ij ha hmem
   cases f with
   |zero=>omega
   |succ f=>
    cases f' with
    |zero=>omega
    |succ f'=>
     obtain ⟨hb,hq⟩:=back_eq hm (HQ hm ha hn)
     obtain ⟨i,hi,_,ht,Ki⟩:=hq
     have htr:=bX hm hi
     rw [ht] at htr
     obtain ⟨b,Kj⟩:∃b:Nat,dR g a g.es.length=b:=⟨(dR g a g.es.length).toNat,by omega⟩
     rw [Kj] at hb Ki htr
     have hd':(way++ [(a:Int)]).Nodup:=by
      rw [List.nodup_append]
      refine ⟨hd,by simp, ?_⟩
      intro x hx y hy e
      simp at hy
      rw [← hy, ← e] at hmem;exact hmem hx
     have ih:=Du hm f f' (way++ [(a:Int)]) b hd' (by omega) Ki (by omega) (by omega)
     have e1:kj g (cE g (aI g)) (f+1) way a=kj g (cE g (aI g)) f (way++ [(a:Int)]) b:=by
      simp only [kj];rw [if_neg (by intro h;rcases h with h|h;omega;exact hmem h),hb]
     have e2:ni g (f'+1) way a=ni g f' (way++ [(a:Int)]) b:=by
      simp only [ni];rw [if_neg hmem,Kj]
     rw [e1,e2];exact ih
theorem vg {g:Gr} {way:List Int} :left g way≤g.n.toNat:=by
 unfold left
 have:=List.countP_le_length (p:=fun y:Nat=> !decide ((y:Int)∈way)) (l:=List.range g.n.toNat)
 simpa using this
theorem sj {l:List Int} (h:l.Nodup) {i j:Nat} (hi:i<l.length) (hj:j<l.length) (e:l.getD i 0=l.getD j 0):i=j:=by
 rw [List.getD_eq_getElem?_getD,List.getD_eq_getElem?_getD,List.getElem?_eq_getElem hi,List.getElem?_eq_getElem hj] at e
 exact (List.getElem_inj h).1 e
theorem Dv {l:List Int} {i:Nat} (hi:i<l.length):l.reverse.getD i 0=l.getD (l.length - 1 - i) 0:=by
 rw [List.getD_eq_getElem?_getD,List.getD_eq_getElem?_getD,List.getElem?_reverse hi]
theorem FJ {l:List Int} (hd:l.Nodup) (h0:0<l.length):kL l.reverse=tV l:=by
 obtain ⟨m,o8,hm2,PM⟩:=dy (iq h0)
 have Lb:0<l.reverse.length:=by simpa using h0
 obtain ⟨k,yy,hk2,Kk⟩:=dy (iq Lb)
 have hmin:gL l.reverse=gL l:=by
  have h1:=vf (List.mem_reverse.2 (iq h0))
  have h2:=vf (List.mem_reverse.1 (iq Lb))
  omega
 rw [List.length_reverse] at hk2
 have hk:l.length - 1 - k=m:=sj hd (by omega) hm2 (by rw [← Dv hk2,Kk,PM,hmin])
 have e1:kL l.reverse=l.reverse.drop k++l.reverse.take k:=by
  simp only [kL,yy,Int.toNat_natCast]
 have e2:tV l=qw l m l.length:=by simp only [tV,o8,Int.toNat_natCast]
 rw [e1,e2]
 refine List.ext_getElem? fun i=> ?_
 by_cases hi:i<l.length
 ·have hr:(qw l m l.length)[i]? =some (l.getD ((m+l.length - i) % l.length) 0):=by
   simp [qw,List.getElem?_range hi]
  rw [hr]
  by_cases hik:i<l.length - k
  ·rw [List.getElem?_append_left (by simp;omega),List.getElem?_drop,List.getElem?_reverse (by omega)]
   have:(m+l.length - i) % l.length=m - i:=by
    rw [show m+l.length - i=(m - i)+l.length from by omega,Nat.add_mod_right,Nat.mod_eq_of_lt (by omega)]
   rw [this,show l.length - 1 - (k+i)=m - i from by omega,List.getD_eq_getElem?_getD,List.getElem?_eq_getElem (by omega)];rfl
  ·rw [List.getElem?_append_right (by simp;omega),List.length_drop,List.length_reverse,List.getElem?_take,if_pos (by omega),List.getElem?_reverse (by omega)]
   have:(m+l.length - i) % l.length=m+l.length - i:=Nat.mod_eq_of_lt (by omega)
   rw [this,show l.length - 1 - (i - (l.length - k))=m+l.length - i from by omega,List.getD_eq_getElem?_getD,List.getElem?_eq_getElem (by omega)];rfl
 ·rw [List.getElem?_eq_none (by simp;omega),List.getElem?_eq_none (by simp [qw];omega)]
theorem HR {g:Gr} (hm:aP g=true):jF g=lD g:=by
 have hn:=aU hm
 rcases start_eq hm with ⟨h1,h2⟩|⟨a,ha,h1,h2,h3⟩
 ·have:jE g=([], -1):=by
   unfold jE;rw [h1];exact jG (.inl (by omega)) _
  simp only [jF,lD,this]
  rw [if_pos (by omega),if_pos h2]
 ·obtain ⟨he,h4,h5,h6⟩:=Du hm g.n.toNat (g.n.toNat+1) [] a (by simp) ha h3 vg (Nat.le_succ_of_le vg)
  have hw:jE g=oy g:=by
   unfold jE oy;rw [h1,h2];exact he
  have hr:ni g (g.n.toNat+1) [] a=oy g:=by unfold oy;rw [h2]
  rw [hr] at h4 h5 h6
  simp only [jF,lD,hw]
  rw [if_neg (by omega),if_neg (by omega)]
  obtain ⟨k,yy,hk2,_⟩:=dy h5
  rw [yy,Int.toNat_natCast]
  exact FJ (List.Pairwise.drop h6) (by simp;omega)
theorem HS (g:Gr):bZ g=fE g:=by
 unfold bZ fE
 cases hm:aP g with
 |false=>simp [gF,hm]
 |true=>rw [HR hm]
end Go.Ab
end
section
namespace Go.Ab
end Go.Ab
end
section
namespace Go.Ab
open Go.Proofs
attribute [local congr] ACall.congr gd.congr Nx.congr
set_option maxRecDepth 10000
def g0:Gr:=⟨3, [(0,1),(1,2),(2,1)]⟩
end Go.Ab
end
section
namespace Go.Ab
open Go.Proofs
attribute [local congr] ACall.congr gd.congr Nx.congr
set_option maxRecDepth 10000
def B9 (g:Gr):Bool:=decide (g.n≤((aI g).length:Int))
def FK (g:Gr):List Int:=if B9 g then aI g else []
def fF (l:List Int) (n:Int):Bool:=decide ((l.length:Int)=n)&&(List.range n.toNat).all fun x:Nat=>decide ((x:Int)∈l)
theorem gl {l:List Int} {x:Int} :decide (dA l x<0)= !decide (x∈l):=by
 rw [Bool.eq_iff_iff]
 simp only [decide_eq_true_eq,Bool.not_eq_true',decide_eq_false_iff_not]
 constructor
 ·intro h hm
  obtain ⟨k,hk,_⟩:=dy hm
  omega
 ·intro h
  rcases eC (f:=fun y:Int=>decide (x=y)) (l:=l) 0 with ⟨h1,_⟩|⟨q,_,h2,h3,_⟩
  ·unfold dA;omega
  ·exact absurd (by rw [of_decide_eq_true h3];exact gj h2) h
theorem cx (l:List Int) (n:Int) (hl:l.length≤9223372036854775807):Spec Tryz.prog 184 (Args [.d (sI l),eN n]) [] (eB (fF l n)) []:=by
 (refine Spec.hd (C:=T.cfg [] []) (rs:= [.t 4]) (T.ai _ _) Tryz.func184 rfl rfl Tryz.ntmps184 Tryz.results184 (by simp [AObj.isNest]) (by simp [AObj.isNest]) (by kernel_rfl) T.mixed fun X hX hP hC aK cw=> ?_)
 repeat' (first|refine Rn.p ?_|(with_reducible apply And.intro)|((first|(refine hK _ ?_;clear hK K)|with_reducible intro K hK|refine Rs.p ?_|((with_reducible first|apply oP|apply oQ);exact rfl)|refine aa hX hC hP (bg l (k:Int) hl) rfl rfl rfl (by simp only [go_sem,simprocAttr,gl]) rfl ?_);try simp only [go_sem,simprocAttr,gl])|((with_reducible refine oD ?_ ?_);kernel_rfl)|((with_reducible intro h);try simp only [go_sem,simprocAttr,gl] at h)|omega|intro h)
 ·have hne:¬(l.length:Int)=n:=by assumption
  simp [fF,hne]
 have M9:(l.length:Int)=n:=by assumption
 refine ag (fun k:Nat=>(k:Int)≤n∧∀j,j<k→(j:Int)∈l) (fun k=>⟨[(0, .d (sI l)),(1,eN n),(5,eN k)], []⟩) (fun k=>n.toNat - k) 0 (by simp;omega) ?_ ?_
 ·(refine ⟨bL ?_,fun _ _ h=>h⟩;simp [go_sem,simprocAttr,gl])
 rintro k ⟨hk,hin⟩
 repeat' (first|refine Rn.p ?_|(with_reducible apply And.intro)|((first|(refine hK _ ?_;clear hK K)|with_reducible intro K hK|refine Rs.p ?_|((with_reducible first|apply oP|apply oQ);exact rfl)|refine aa hX hC hP (bg l (k:Int) hl) rfl rfl rfl (by simp only [go_sem,simprocAttr,gl]) rfl ?_);try simp only [go_sem,simprocAttr,gl])|((with_reducible refine oD ?_ ?_);kernel_rfl)|((with_reducible intro h);try simp only [go_sem,simprocAttr,gl] at h)|omega|intro h)
 ·have hlt:(k:Int)<n:=by assumption
  have hm:(List.range n.toNat).all (fun x:Nat=>decide ((x:Int)∈l))=false:=by
   rw [List.all_eq_false]
   exact ⟨k,List.mem_range.2 (by omega),by simpa using h⟩
  simp only [fF,hm,Bool.and_false]
 ·refine ⟨k+1,⟨by omega,fun j hj=> ?_⟩, ?_,by omega⟩
  ·by_cases hjk:j=k
   ·subst hjk;exact h
   ·exact hin j (by omega)
  ·(refine ⟨bL ?_,fun _ _ h=>h⟩;simp [go_sem,simprocAttr,gl])
 ·have hm:(List.range n.toNat).all (fun x:Nat=>decide ((x:Int)∈l))=true:=by
   rw [List.all_eq_true]
   intro x hx
   exact decide_eq_true (hin x (by have:=List.mem_range.1 hx;omega))
  simp only [fF,hm,Bool.and_true]
  exact (decide_eq_true M9).symm
end Go.Ab
end
section
namespace Go.Ab
open Go.Proofs
attribute [local congr] ACall.congr gd.congr Nx.congr
set_option maxRecDepth 10000
theorem count_le:∀(xs l:List Int),xs.Nodup→(∀x∈xs,x∈l)→xs.length≤l.countP (fun y=>decide (y∈xs))
 | [],_,_,_=>Nat.zero_le _
 |a::r,l,hd,h=>by
  obtain ⟨h1,h2⟩:=List.nodup_cons.1 hd
  have ih:=count_le r l h2 fun x hx=>h x (List.mem_cons_of_mem _ hx)
  have hp:=ki (p:=fun y=>decide (y∈a::r)) (q:=fun y=>decide (y∈r)) (r:=fun y=>decide (y=a)) (l:=l) (fun y _=>by
   by_cases hy:y=a
   ·subst hy;simp [h1]
   ·simp [hy])
  have ha:0<l.countP (fun y=>decide (y=a)):=List.countP_pos_iff.2 ⟨a,h a List.mem_cons_self,by simp⟩
  rw [hp,List.length_cons];omega
def iI (n:Nat):List Int:=(List.range n).map Int.ofNat
theorem dS {n:Nat} {x:Int} :x∈iI n↔0≤x∧x<n:=by
 simp only [iI,List.mem_map,List.mem_range]
 constructor
 ·rintro ⟨a,h,rfl⟩;simp;omega
 ·intro h;exact ⟨x.toNat,by omega,by simp;omega⟩
theorem ku {n:Nat} :(iI n).Nodup:=by
 unfold iI
 exact List.Pairwise.map _ (fun a b h e=>h (Int.ofNat.inj e)) List.nodup_range
theorem b7 {l:List Int} {n:Int} :fF l n=true↔(l.length:Int)=n∧∀x∈iI n.toNat,x∈l:=by
 simp only [fF,Bool.and_eq_true,decide_eq_true_eq,List.all_eq_true,List.mem_range]
 constructor
 ·rintro ⟨h1,h2⟩
  refine ⟨h1,fun x hx=> ?_⟩
  obtain ⟨a,b⟩:=dS.1 hx
  have:=h2 x.toNat (by omega)
  rwa [show ((x.toNat:Nat):Int)=x from by omega] at this
 ·rintro ⟨h1,h2⟩
  exact ⟨h1,fun x hx=>h2 _ (dS.2 (by omega))⟩
theorem sk {l:List Int} {n:Int} (h:fF l n=true):∀x∈l,0≤x∧x<n:=by
 obtain ⟨h1,h2⟩:=b7.1 h
 have hc:=count_le (iI n.toNat) l ku h2
 have hlen:(iI n.toNat).length=n.toNat:=by simp [iI]
 have he:l.countP (fun y=>decide (y∈iI n.toNat))=l.length:=by
  have:=List.countP_le_length (p:=fun y=>decide (y∈iI n.toNat)) (l:=l)
  omega
 intro x hx
 have:=List.countP_eq_length.1 he x hx
 have:=dS.1 (of_decide_eq_true this)
 omega
def xD (n:Nat) (l:List Int):Nat→List Int
 |0=>List.replicate n 0
 |k+1=>(xD n l k).set (l.getD k 0).toNat k
theorem atK_length {n:Nat} {l:List Int} :∀ {k:Nat},(xD n l k).length=n
 |0=>by simp [xD]
 |k+1=>by simp [xD,atK_length (k:=k)]
def Dw (g:Gr) (l:List Int) (j:Nat):Bool:=(List.range j).all fun i=>decide ((xD g.n.toNat l l.length).getD (tl g i).toNat 0<(xD g.n.toNat l l.length).getD (hd g i).toNat 0)
def vh (g:Gr) (l:List Int):Bool:=fF l g.n&&Dw g l g.es.length
attribute [go_sem] atK_length
end Go.Ab
end
section
namespace Go.Ab
def Rz (g:Gr) (out:List Int):Prop:=∀p,p<out.length→out.getD p 0=dA (cE g (out.take p)) 0∧0≤out.getD p 0
theorem zX {g:Gr} (hm:aP g=true) (h:B9 g=true):fF (aI g) g.n=true:=by
 obtain ⟨hP,_,_⟩:=fM hm
 have hn:=aU hm
 have hf:=hP.fuel
 have hok:=of_decide_eq_true h
 refine b7.2 ⟨by omega,fun x hx=> ?_⟩
 obtain ⟨h1,h2⟩:=dS.1 hx
 have h0:(List.range g.n.toNat).countP (fun y:Nat=> !decide ((y:Int)∈aI g))=0:=by omega
 have:=List.countP_eq_zero.1 h0 x.toNat (List.mem_range.2 (by omega))
 rw [show ((x.toNat:Nat):Int)=x from by omega] at this
 simpa using this
theorem zY {g:Gr} (hm:aP g=true) (h:B9 g=false):∃y:Nat,y<g.n.toNat∧(y:Int)∉aI g:=by
 obtain ⟨hP,_,_⟩:=fM hm
 have hn:=aU hm
 have hf:=hP.fuel
 have hok:=of_decide_eq_false h
 have h0:0<(List.range g.n.toNat).countP (fun y:Nat=> !decide ((y:Int)∈aI g)):=by omega
 obtain ⟨y,hy,hp⟩:=List.countP_pos_iff.1 h0
 exact ⟨y,List.mem_range.1 hy,by simpa using hp⟩
theorem Dx {g:Gr} {l:List Int} (h:vh g l=true) {i:Nat} (hi:i<g.es.length):(xD g.n.toNat l l.length).getD (tl g i).toNat 0<(xD g.n.toNat l l.length).getD (hd g i).toNat 0:=by
 simp only [vh,Bool.and_eq_true] at h
 have:=List.all_eq_true.1 h.2 i (List.mem_range.2 hi)
 exact of_decide_eq_true this
theorem sn {n:Nat} {l:List Int} :∀ {k:Nat} {y:Nat},0≤(xD n l k).getD y 0
 |0,y=>by
  simp only [xD,List.getD_eq_getElem?_getD,List.getElem?_replicate]
  split<;>simp
 |k+1,y=>by
  have ih:=sn (n:=n) (l:=l) (k:=k) (y:=y)
  simp only [xD,List.getD_eq_getElem?_getD,List.getElem?_set] at ih ⊢
  split
  ·split<;>simp
  ·exact ih
theorem vi {l:List Int} {i j:Nat} (hij:i<j) (hj:j<l.length) (e:l.getD i 0=l.getD j 0):∀x∈l,x∈l.eraseIdx i:=by
 intro x hx
 obtain ⟨k,hk,rfl⟩:=List.getElem_of_mem hx
 rw [List.mem_iff_getElem?]
 rcases Nat.lt_trichotomy k i with h|h|h
 ·exact ⟨k,by rw [List.getElem?_eraseIdx,if_pos h,List.getElem?_eq_getElem hk]⟩
 ·subst h
  refine ⟨j - 1, ?_⟩
  rw [List.getElem?_eraseIdx,if_neg (by omega),show j - 1+1=j from by omega,List.getElem?_eq_getElem hj]
  rw [List.getD_eq_getElem?_getD,List.getD_eq_getElem?_getD,List.getElem?_eq_getElem hk,List.getElem?_eq_getElem hj] at e
  exact congrArg some e.symm
 ·exact ⟨k - 1,by rw [List.getElem?_eraseIdx,if_neg (by omega),show k - 1+1=k from by omega,List.getElem?_eq_getElem hk]⟩
theorem kz {l:List Int} {n:Int} (h:fF l n=true) {i j:Nat} (hi:i<l.length) (hj:j<l.length) (e:l.getD i 0=l.getD j 0):i=j:=by
 obtain ⟨h1,h2⟩:=b7.1 h
 have key:∀i j,i<j→j<l.length→l.getD i 0=l.getD j 0→False:=by
  intro i j hij hj e
  have hc:=count_le (iI n.toNat) (l.eraseIdx i) ku fun x hx=>vi hij hj e x (h2 x hx)
  have hlen:(iI n.toNat).length=n.toNat:=by simp [iI]
  have hle:=List.countP_le_length (p:=fun y=>decide (y∈iI n.toNat)) (l:=l.eraseIdx i)
  rw [List.length_eraseIdx_of_lt (by omega)] at hle
  omega
 rcases Nat.lt_trichotomy i j with h|h|h
 ·exact (key i j h hj e).elim
 ·exact h
 ·exact (key j i h hi e.symm).elim
theorem vj {l:List Int} {n:Int} (h:fF l n=true) {p:Nat} :∀ {k:Nat},p<k→k≤l.length→(xD n.toNat l k).getD (l.getD p 0).toNat 0=p
 |0,hp,_=>by omega
 |k+1,hp,hk=>by
  have hlo:=sk h
  have hp1:=hlo _ (gj (l:=l) (m:=p) (by omega))
  have yy:=hlo _ (gj (l:=l) (m:=k) (by omega))
  simp only [xD,List.getD_eq_getElem?_getD (l:=(xD n.toNat l k).set _ _),List.getElem?_set,atK_length]
  by_cases hpk:p=k
  ·subst hpk
   rw [if_pos rfl,if_pos (by omega)];rfl
  ·have hne:¬(l.getD k 0).toNat=(l.getD p 0).toNat:=fun e=>hpk (kz h (i:=p) (j:=k) (by omega) (by omega) (by omega))
   rw [if_neg hne, ← List.getD_eq_getElem?_getD]
   exact vj h (by omega) (by omega)
theorem Bm {g:Gr} (hm:aP g=true) (h:B9 g=true):vh g (aI g)=true:=by
 have he:=zX hm h
 obtain ⟨hP,hO,_⟩:=fM hm
 have hall:=(b7.1 he).2
 simp only [vh,he,Bool.true_and,Dw,List.all_eq_true,List.mem_range,decide_eq_true_eq]
 intro i hi
 have hh:=cW hm hi
 obtain ⟨p,hp,e⟩:=List.getElem_of_mem (hall (hd g i) (dS.2 (by omega)))
 have e':(aI g).getD p 0=hd g i:=by rw [List.getD_eq_getElem?_getD,List.getElem?_eq_getElem hp];exact e
 have ht:=hO p hp i hi e'.symm
 rw [List.mem_iff_getElem?] at ht
 obtain ⟨q,hq⟩:=ht
 rw [List.getElem?_take] at hq
 split at hq
 ·rename_i PL
  have e2:(aI g).getD q 0=tl g i:=by rw [List.getD_eq_getElem?_getD,hq];rfl
  rw [← e', ← e2,vj he hp (Nat.le_refl _),vj he (by omega) (Nat.le_refl _)]
  omega
 ·cases hq
end Go.Ab
end
section
namespace Go.Ab
open Go.Proofs
attribute [local congr] ACall.congr gd.congr Nx.congr
set_option maxRecDepth 10000
end Go.Ab
end
section
namespace Go.Ab
open Go.Proofs
attribute [local congr] ACall.congr gd.congr Nx.congr
set_option maxRecDepth 10000
def gz:Gr:=⟨0, []⟩
def vz:D:= .pt [.sc (.int .i64 0), .sl 2 [], .sl 1 [], .sl 1 []]
def bq (f:Edge→Int) (g:Gr) (x:Int):List Int:=if 0≤x∧x<g.n then aY f g.es g.es.length x else []
theorem sq (f:Edge→Int) (g:Gr) (hm:aP g=true) (x:Int):Spec Tryz.prog 128 (Args [.d (vw g), .d (.sl 1 (FG f g)),eN x]) [] (.d (sI (bq f g x))) []:=by
 rw [au]
 have hn:=aU hm
 have hl':(aY f g.es g.es.length x).length≤1000000:=by have:=jJ (f:=f) (es:=g.es) (k:=g.es.length) (x:=x);omega
 (refine Spec.hd (C:=T.cfg [] []) (rs:= [.t 6]) (T.ai _ _) Tryz.func128 rfl rfl Tryz.ntmps128 Tryz.results128 (by simp [AObj.isNest]) (by simp [AObj.isNest]) (by kernel_rfl) T.mixed fun X hX hP hC aK cw=> ?_)
 by_cases hx:0≤x∧x<g.n
 ·have hv:=ow (f:=f) (g:=g) (x:=x.toNat) (by omega)
  have he:eP f g.es g.es.length x.toNat=aY f g.es g.es.length x:=by rw [lz,show ((x.toNat:Nat):Int)=x from by omega]
  rw [he] at hv
  have ak:decide (x<0)=false:=decide_eq_false (by omega)
  have an:decide (g.n≤x)=false:=decide_eq_false (by omega)
  have ht:bq f g x=aY f g.es g.es.length x:=if_pos hx
  repeat' (first|refine Rn.p ?_|(with_reducible apply And.intro)|((first|(refine hK _ ?_;clear hK K)|with_reducible intro K hK|refine Rs.p ?_|((with_reducible first|apply oP|apply oQ);exact rfl)|refine aa hX hC hP (lg (aY f g.es g.es.length x) hl') rfl rfl rfl (by simp only [go_sem,simprocAttr,hv,ak,an]) rfl ?_);try simp only [go_sem,simprocAttr,hv,ak,an])|((with_reducible refine oD ?_ ?_);kernel_rfl)|((with_reducible intro h);try simp only [go_sem,simprocAttr,hv,ak,an] at h)|omega|intro h)
  simp [ht]
 ·have ht:bq f g x= []:=if_neg hx
  repeat' (first|refine Rn.p ?_|(with_reducible apply And.intro)|((first|(refine hK _ ?_;clear hK K)|with_reducible intro K hK|refine Rs.p ?_|((with_reducible first|apply oP|apply oQ);exact rfl)|refine aa hX hC hP (lg (aY f g.es g.es.length x) hl') rfl rfl rfl (by simp only [go_sem,simprocAttr,ht]) rfl ?_);try simp only [go_sem,simprocAttr,ht])|((with_reducible refine oD ?_ ?_);kernel_rfl)|((with_reducible intro h);try simp only [go_sem,simprocAttr,ht] at h)|omega|intro h)
theorem gU (g:Gr) (hm:aP g=true) (x:Int):Spec Tryz.prog 73 (Args [.d (vw g),eN x]) [] (.d (sI (bq (·.1) g x))) []:=by
 (refine Spec.hd (C:=T.cfg [] []) (rs:= [.t 4]) (T.ai _ _) Tryz.func73 rfl rfl Tryz.ntmps73 Tryz.results73 (by simp [AObj.isNest]) (by simp [AObj.isNest]) (by kernel_rfl) T.mixed fun X hX hP hC aK cw=> ?_)
 repeat' (first|refine Rn.p ?_|(with_reducible apply And.intro)|((first|(refine hK _ ?_;clear hK K)|with_reducible intro K hK|refine Rs.p ?_|((with_reducible first|apply oP|apply oQ);exact rfl)|refine aa hX hC hP (sq (·.1) g hm x) rfl rfl rfl (by simp only [go_sem,simprocAttr,au]) rfl ?_);try simp only [go_sem,simprocAttr,au])|((with_reducible refine oD ?_ ?_);kernel_rfl)|((with_reducible intro h);try simp only [go_sem,simprocAttr,au] at h)|omega|intro h)
theorem jK (g:Gr) (hm:aP g=true) (x:Int):Spec Tryz.prog 100 (Args [.d (vw g),eN x]) [] (.d (sI (bq (·.2) g x))) []:=by
 (refine Spec.hd (C:=T.cfg [] []) (rs:= [.t 4]) (T.ai _ _) Tryz.func100 rfl rfl Tryz.ntmps100 Tryz.results100 (by simp [AObj.isNest]) (by simp [AObj.isNest]) (by kernel_rfl) T.mixed fun X hX hP hC aK cw=> ?_)
 repeat' (first|refine Rn.p ?_|(with_reducible apply And.intro)|((first|(refine hK _ ?_;clear hK K)|with_reducible intro K hK|refine Rs.p ?_|((with_reducible first|apply oP|apply oQ);exact rfl)|refine aa hX hC hP (sq (·.2) g hm x) rfl rfl rfl (by simp only [go_sem,simprocAttr,au]) rfl ?_);try simp only [go_sem,simprocAttr,au])|((with_reducible refine oD ?_ ?_);kernel_rfl)|((with_reducible intro h);try simp only [go_sem,simprocAttr,au] at h)|omega|intro h)
end Go.Ab
end
section
namespace Go.Ab
open Go.Proofs
attribute [local congr] ACall.congr gd.congr Nx.congr
set_option maxRecDepth 10000
end Go.Ab
end
section
namespace Go.Ab
open Go.Proofs
attribute [local congr] ACall.congr gd.congr Nx.congr
set_option maxRecDepth 10000
def Nb (g:Gr) (out:List Int) (x:Nat) (i:Nat):Bool:=(List.range i).all fun j=> !decide (hd g j=(x:Int))||decide (tl g j∈out)
def PN (g:Gr) (out:List Int) (k:Nat) (f:Bool):Prop:=k≤g.n.toNat∧(if f then 0<k∧wt g out (k - 1)=0∧∀j,j<k - 1→wt g out j≠0 else ∀j,j<k→wt g out j≠0)
def PO (out:List Int) (k:Nat) (f:Bool):List Int:=if f then out++ [((k - 1:Nat):Int)] else out
end Go.Ab
end
section
namespace Go.Ab
open Go.Proofs
attribute [local congr] ACall.congr gd.congr Nx.congr
set_option maxRecDepth 10000
end Go.Ab
end
