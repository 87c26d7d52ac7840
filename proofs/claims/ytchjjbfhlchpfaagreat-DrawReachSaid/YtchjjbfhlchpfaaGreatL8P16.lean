/- A part of the proof. -/
import Derived.Test.YtchjjbfhlchpfaaGreatL8P15
set_option linter.unusedSimpArgs false
set_option linter.unusedVariables false
section
namespace Go.Ab
def Ord (g:Gr) (out:List Int):Prop:=∀p,p<out.length→∀i,i<g.es.length→hd g i=out.getD p 0→tl g i∈out.take p
theorem nt {l r:List Int} {p:Nat} (h:p<l.length):(l++r).getD p 0=l.getD p 0:=by
 rw [List.getD_eq_getElem?_getD,List.getD_eq_getElem?_getD,List.getElem?_append_left h]
theorem Ord.next {g:Gr} {out:List Int} (h:Ord g out) {x:Nat} (hb:∀i,i<g.es.length→hd g i=x→tl g i∈out):Ord g (out++ [(x:Int)]):=by
 intro p hp i hi hh
 rw [List.length_append,List.length_singleton] at hp
 by_cases bZ:p<out.length
 ·rw [nt bZ] at hh
  have:=h p bZ i hi hh
  rw [List.take_append_of_le_length (by omega)]
  exact this
 ·have hpe:p=out.length:=by omega
  subst hpe
  rw [List.getD_eq_getElem?_getD,List.getElem?_append_right (by omega)] at hh
  simp at hh
  rw [List.take_append_of_le_length (by omega),List.take_of_length_le (by omega)]
  exact hb i hi hh
theorem vE {g:Gr} (hm:aG g=true):∀f out,ff g out→Ord g out→left g out≤f→ff g (xA g f out)∧Ord g (xA g f out)∧fY (cI g (xA g f out)) 0<0
 |f,out,hP,hO,hl=>by
  rcases Oz (g:=g) out with hx|⟨x,hx,DA,hw⟩
  ·rw [Bb (by omega)];exact ⟨hP,hO,by omega⟩
  ·obtain ⟨SJ,_,hb⟩:=hP.next hm DA hw
   have hn:=xV hP SJ
   cases f with
   |zero=>omega
   |succ f=>
    have:=vE hm f (out++ [(x:Int)]) SJ (hO.next hb) (by omega)
    simp only [xA,hx]
    rw [if_neg (by omega)]
    exact this
theorem gP {g:Gr} (hm:aG g=true):ff g (aR g)∧Ord g (aR g)∧fY (cI g (aR g)) 0<0:=
 vE hm _ _ (ff.nil g) (fun p hp=>by simp at hp) (by rw [qv];exact Nat.le_refl _)
theorem rX {g:Gr} (hm:aG g=true) {y:Nat} (hy:y<g.n.toNat):0<wt g (aR g) y↔(y:Int)∉aR g:=by
 obtain ⟨_,_,hi⟩:=gP hm
 constructor
 ·intro h hin;simp [wt,hin] at h
 ·intro h
  have h0:wt g (aR g) y≠0:=by
   intro e
   rcases gN (f:=fun y:Int=>decide (0=y)) (l:=cI g (aR g)) 0 with ⟨_,h2⟩|⟨k,h1,_⟩
   ·have:=h2 _ (List.mem_of_getElem? (lV hy))
    rw [e] at this;simp at this
   ·have:fY (cI g (aR g)) 0=k:=h1
    omega
  have:0≤wt g (aR g) y:=by simp only [wt,h,if_false];omega
  omega
theorem vF {g:Gr} {l:List Bool} {j y:Nat} (h:y<g.n.toNat):(fm g l j).getD y false=(List.range j).any fun i=>decide (hd g i=(y:Int))&&(l.getD (tl g i).toNat false&&l.getD (hd g i).toNat false):=by
 simp [fm,List.getD_eq_getElem?_getD,List.getElem?_range h]
theorem vG {g:Gr} (hm:aG g=true):∀k y,y<g.n.toNat→(y:Int)∉aR g→(fT g k).getD y false=true
 |0,y,hy,_=>by simp [fT,kS,List.getD_eq_getElem?_getD,List.getElem?_range hy];omega
 |k+1,y,hy,h=>by
  have hw:=(rX hm hy).2 h
  simp only [wt,h,if_false] at hw
  obtain ⟨i,hi,hp⟩:=List.countP_pos_iff.1 (Int.natCast_pos.1 hw)
  simp only [Bool.and_eq_true,decide_eq_true_eq,Bool.not_eq_true',decide_eq_false_iff_not] at hp
  have hil:=List.mem_range.1 hi
  obtain ⟨⟨h1,h2⟩,_⟩:=cM hm hil
  have ht:(g.es.getD i (0,0)).1=tl g i:=rfl
  rw [ht] at h1 h2
  have e:((tl g i).toNat:Int)=tl g i:=by omega
  have g1:=vG hm k (tl g i).toNat (by omega) (by rw [e];exact hp.2)
  have g2:=vG hm k y hy h
  show (fm g (fT g k) g.es.length).getD y false=true
  rw [vF hy,List.any_eq_true]
  refine ⟨i,hi, ?_⟩
  rw [hp.1,Int.toNat_natCast,g1,g2];simp
theorem DC {g:Gr} (hm:aG g=true):∀k p,p<k→p<(aR g).length→(fT g k).getD ((aR g).getD p 0).toNat false=false
 |0,p,h,_=>by omega
 |k+1,p,h,hp=>by
  obtain ⟨hP,hO,_⟩:=gP hm
  have hr:=hP.lo _ (jE hp)
  obtain ⟨y,hy⟩:∃y:Nat,(aR g).getD p 0=y:=⟨((aR g).getD p 0).toNat,by omega⟩
  have L7:y<g.n.toNat:=by omega
  rw [hy,Int.toNat_natCast]
  show (fm g (fT g k) g.es.length).getD y false=false
  rw [vF L7,List.any_eq_false]
  intro i hi
  have hil:=List.mem_range.1 hi
  simp only [Bool.and_eq_true,decide_eq_true_eq]
  rintro ⟨h1,h2,_⟩
  have ht:=hO p hp i hil (by rw [h1,hy])
  rw [List.mem_iff_getElem?] at ht
  obtain ⟨q,hq⟩:=ht
  rw [List.getElem?_take] at hq
  split at hq
  ·rename_i Ug
   have:=DC hm k q (by omega) (by omega)
   rw [List.getD_eq_getElem?_getD (l:=aR g),hq] at this
   rw [Option.getD_some,h2] at this
   cases this
  ·cases hq
theorem HK {g:Gr} (hm:aG g=true) {y:Nat} (hy:y<g.n.toNat):(zC g).getD y false=true↔(y:Int)∉aR g:=by
 constructor
 ·intro h hin
  obtain ⟨hP,_,_⟩:=gP hm
  obtain ⟨p,hp,e⟩:=List.getElem_of_mem hin
  have hl:=hP.fuel
  have:=DC hm g.n.toNat p (by omega) hp
  rw [List.getD_eq_getElem?_getD (l:=aR g),List.getElem?_eq_getElem hp,Option.getD_some,e,Int.toNat_natCast] at this
  have h2:(fT g g.n.toNat).getD y false=true:=h
  rw [this] at h2;cases h2
 ·intro h;exact vG hm _ y hy h
theorem HL {g:Gr} (hm:aG g=true) {y:Nat} (hy:y<g.n.toNat):(zC g).getD y false=decide (0<(cI g (aR g)).getD y 0):=by
 rw [ng hy,Bool.eq_iff_iff,HK hm hy,decide_eq_true_eq,rX hm hy]
theorem start_eq {g:Gr} (hm:aG g=true):(bQ (fun n=>decide (0<n)) (cI g (aR g))= -1∧Ji g=g.n)∨∃a:Nat,a<g.n.toNat∧bQ (fun n=>decide (0<n)) (cI g (aR g))=a∧Ji g=a∧(a:Int)∉aR g:=by
 have hlf:(zC g).length=g.n.toNat:=leftK_length
 rcases gN (f:=fun n:Int=>decide (0<n)) (l:=cI g (aR g)) 0 with ⟨h1,h2⟩|⟨k,h1,h2,h3,h4⟩
 ·refine .inl ⟨h1, ?_⟩
  have:bQ (fun b:Bool=>b) (zC g)= -1:=cL false fun j hj=>by
   rw [hlf] at hj
   rw [HL hm hj]
   exact h2 _ (by rw [List.getD_eq_getElem?_getD,lV hj];exact List.mem_of_getElem? (lV hj))
  unfold Ji;rw [this,if_pos (by omega)]
 ·rw [wts_length] at h2
  refine .inr ⟨k,h2,h1, ?_, ?_⟩
  ·have:bQ (fun b:Bool=>b) (zC g)=k:=c8 (d:=false) (by omega) (fun j hj=>by
    rw [HL hm (by omega)];exact h4 j hj) (by rw [HL hm h2];exact h3)
   unfold Ji;rw [this,if_neg (by omega)]
  ·rw [← rX hm h2]
   rw [ng h2] at h3
   exact of_decide_eq_true h3
def Q (g:Gr) (a:Nat) (t:Int):Prop:=∃i,i<g.es.length∧hd g i=(a:Int)∧tl g i=t∧t∉aR g
theorem bg {g:Gr} (hm:aG g=true) {i:Nat} (hi:i<g.es.length):0≤tl g i∧tl g i<g.n:=(cM hm hi).1
theorem bh {g:Gr} (hm:aG g=true) {i:Nat} (hi:i<g.es.length):0≤hd g i∧hd g i<g.n:=(cM hm hi).2
theorem Fh {g:Gr} (hm:aG g=true) {i:Nat} (hi:i<g.es.length):0<(cI g (aR g)).getD (tl g i).toNat 0↔tl g i∉aR g:=by
 have h:=bg hm hi
 have e:((tl g i).toNat:Int)=tl g i:=by omega
 rw [ng (by omega),rX hm (by omega),e]
theorem sY {g:Gr} (hm:aG g=true):∀(l:List Int) (b:Int),(∀e∈l,∃i:Nat,e=i∧i<g.es.length)→
 (b= -1∨0≤b)→(l.foldl (fR g (cI g (aR g))) b=b∨∃i:Nat,(i:Int)∈l∧tl g i∉aR g∧l.foldl (fR g (cI g (aR g))) b=tl g i)∧(0≤b→l.foldl (fR g (cI g (aR g))) b≤b)∧
   (∀i:Nat,(i:Int)∈l→tl g i∉aR g→0≤l.foldl (fR g (cI g (aR g))) b∧l.foldl (fR g (cI g (aR g))) b≤tl g i)
 | [],b,_,_=>⟨.inl rfl,fun _=>Int.le_refl _,by simp⟩
 |e::l,b,he,hb=>by
  obtain ⟨i,rfl,hi⟩:=he e List.mem_cons_self
  have htr:=bg hm hi
  have hw:=Fh hm hi
  have hstep:fR g (cI g (aR g)) b (i:Int)=if tl g i∉aR g∧(b<0∨tl g i<b) then tl g i else b:=by
   simp only [fR,Int.toNat_natCast,hw]
  have hb':fR g (cI g (aR g)) b (i:Int)= -1∨0≤fR g (cI g (aR g)) b (i:Int):=by
   rw [hstep];split
   ·exact .inr htr.1
   ·exact hb
  obtain ⟨h1,h2,h3⟩:=sY hm l (fR g (cI g (aR g)) b (i:Int)) (fun e h=>he e (List.mem_cons_of_mem _ h)) hb'
  simp only [List.foldl_cons]
  generalize hr:l.foldl (fR g (cI g (aR g))) (fR g (cI g (aR g)) b (i:Int))=r at h1 h2 h3 ⊢
  refine ⟨?_, ?_, ?_⟩
  ·rcases h1 with h1|⟨j,hj,h4,h5⟩
   ·rw [hstep] at h1
    split at h1
    ·rename_i hc
     exact .inr ⟨i,by simp,hc.1,h1⟩
    ·exact .inl h1
   ·exact .inr ⟨j,by simp [hj],h4,h5⟩
  ·intro h0
   rw [hstep] at h2
   split at h2
   ·rename_i hc;have:=h2 htr.1;omega
   ·exact h2 h0
  ·intro j hj hjn
   rcases List.mem_cons.1 hj with hj|hj
   ·have:j=i:=Int.ofNat.inj hj
    subst this
    rw [hstep] at h1 h2
    split at h1
    ·rename_i hc
     rw [if_pos hc] at h2
     have:=h2 htr.1
     rcases h1 with h1|⟨q,hq,h4,h5⟩
     ·omega
     ·obtain ⟨i',e',hi'⟩:=he q (List.mem_cons_of_mem _ hq)
      have:q=i':=Int.ofNat.inj e'
      subst this
      have:=bg hm hi';omega
    ·rename_i hc
     rw [if_neg hc] at h2
     have MQ:¬(b<0∨tl g j<b):=fun h=>hc ⟨hjn,h⟩
     have:=h2 (by omega)
     rcases h1 with h1|⟨q,hq,h4,h5⟩
     ·omega
     ·obtain ⟨i',e',hi'⟩:=he q (List.mem_cons_of_mem _ hq)
      have:q=i':=Int.ofNat.inj e'
      subst this
      have:=bg hm hi';omega
   ·exact h3 j hj hjn
theorem vH {g:Gr} (hm:aG g=true) {a:Nat} (h:∃t,Q g a t):Q g a (j6 g (cI g (aR g)) a)∧∀t,Q g a t→j6 g (cI g (aR g)) a≤t:=by
 have hin:∀i,i<g.es.length→hd g i=(a:Int)→(i:Int)∈rV g a:=by
  intro i hi hh
  simp only [rV,fO,List.mem_map,List.mem_filter,List.mem_range,decide_eq_true_eq]
  exact ⟨i,⟨hi,hh⟩,rfl⟩
 obtain ⟨h1,_,h3⟩:=sY hm (rV g a) (-1) HF (.inl rfl)
 have hG:j6 g (cI g (aR g)) a=(rV g a).foldl (fR g (cI g (aR g))) (-1):=by simp [j6,xZ]
 rw [← hG] at h1 h3
 have hle:∀t,Q g a t→0≤j6 g (cI g (aR g)) a∧j6 g (cI g (aR g)) a≤t:=by
  rintro t ⟨i,h4,h5,rfl,h6⟩
  exact h3 i (hin i h4 h5) h6
 obtain ⟨t,ht⟩:=h
 have h0:=(hle t ht).1
 refine ⟨?_,fun t ht=>(hle t ht).2⟩
 rcases h1 with h1|⟨i,hi,h4,h5⟩
 ·omega
 ·obtain ⟨i',e',hi',hh⟩:=zB hi
  have:i=i':=Int.ofNat.inj e'
  subst this
  exact ⟨i,hi',hh,h5.symm,by rw [h5];exact h4⟩
theorem vJ {g:Gr} (hm:aG g=true) {a:Nat} :∀k,k≤g.es.length→(eC g a k=g.n∨Q g a (eC g a k))∧eC g a k≤g.n∧∀i,i<k→hd g i=(a:Int)→tl g i∉aR g→eC g a k≤tl g i
 |0,_=>⟨.inl rfl,Int.le_refl _,by simp⟩
 |k+1,hk=>by
  obtain ⟨h1,h2,h3⟩:=vJ hm (a:=a) k (by omega)
  have htr:=bg hm (i:=k) (by omega)
  have e:((tl g k).toNat:Int)=tl g k:=by omega
  have hlf:=HK hm (y:=(tl g k).toNat) (by omega)
  rw [e] at hlf
  rw [pF]
  unfold zD
  split
  ·rename_i hc0
   have hc:hd g k=(a:Int)∧tl g k∉aR g:=⟨hc0.1,hlf.1 hc0.2⟩
   refine ⟨?_,by omega, ?_⟩
   ·by_cases hle:eC g a k≤tl g k
    ·rw [Int.min_eq_left hle];exact h1
    ·rw [Int.min_eq_right (by omega)];exact .inr ⟨k,by omega,hc.1,rfl,hc.2⟩
   ·intro i hi hh hn
    by_cases hik:i=k
    ·subst hik;omega
    ·have:=h3 i (by omega) hh hn;omega
  ·rename_i hc
   refine ⟨h1,h2, ?_⟩
   intro i hi hh hn
   by_cases hik:i=k
   ·subst hik;exact absurd ⟨hh,hlf.2 hn⟩ hc
   ·exact h3 i (by omega) hh hn
theorem back_eq {g:Gr} (hm:aG g=true) {a:Nat} (h:∃t,Q g a t):j6 g (cI g (aR g)) a=eC g a g.es.length∧Q g a (eC g a g.es.length):=by
 obtain ⟨h1,h2⟩:=vH hm h
 obtain ⟨h3,h4,h5⟩:=vJ hm (a:=a) g.es.length (Nat.le_refl _)
 have hb:eC g a g.es.length≤j6 g (cI g (aR g)) a:=by
  obtain ⟨i,h6,h7,h8,h9⟩:=h1
  rw [← h8] at h9 ⊢
  exact h5 i h6 h7 h9
 have hlt:j6 g (cI g (aR g)) a<g.n:=by
  obtain ⟨i,h6,h7,h8,h9⟩:=h1
  rw [← h8];exact (bg hm h6).2
 rcases h3 with h3|h3
 ·omega
 ·exact ⟨by have:=h2 _ h3;omega,h3⟩
theorem L8 {g:Gr} (hm:aG g=true) {a:Nat} (ha:a<g.n.toNat) (h:(a:Int)∉aR g):∃t,Q g a t:=by
 have hw:=(rX hm ha).2 h
 simp only [wt,h,if_false] at hw
 obtain ⟨i,hi,hp⟩:=List.countP_pos_iff.1 (Int.natCast_pos.1 hw)
 simp only [Bool.and_eq_true,decide_eq_true_eq,Bool.not_eq_true',decide_eq_false_iff_not] at hp
 exact ⟨tl g i,i,List.mem_range.1 hi,hp.1,rfl,hp.2⟩
theorem HM {g:Gr} (hm:aG g=true):∀(f f':Nat) (way:List Int) (a:Nat),way.Nodup→a<g.n.toNat→(a:Int)∉aR g→left g way≤f→left g way≤f'→
 lX g (cI g (aR g)) f way a=pE g f' way a∧(0≤(pE g f' way a).2∧(pE g f' way a).2∈(pE g f' way a).1∧(pE g f' way a).1.Nodup)
 |f,f',way,a,hd,ha,hn,h1,h2=>by
  by_cases hmem:(a:Int)∈way
  ·rw [kQ (.inr hmem),Bd hmem]
   exact ⟨rfl,by simp only;omega,hmem,hd⟩
  ·have hla:=jA ha hmem
   cases f with
   |zero=>omega
   |succ f=>
    cases f' with
    |zero=>omega
    |succ f'=>
     obtain ⟨hb,hq⟩:=back_eq hm (L8 hm ha hn)
     obtain ⟨i,hi,_,ht,Jj⟩:=hq
     have htr:=bg hm hi
     rw [ht] at htr
     obtain ⟨b,rq⟩:∃b:Nat,eC g a g.es.length=b:=⟨(eC g a g.es.length).toNat,by omega⟩
     rw [rq] at hb Jj htr
     have hd':(way++ [(a:Int)]).Nodup:=by
      rw [List.nodup_append]
      refine ⟨hd,by simp, ?_⟩
      intro x hx y hy e
      simp at hy
      rw [← hy, ← e] at hmem;exact hmem hx
     have ih:=HM hm f f' (way++ [(a:Int)]) b hd' (by omega) Jj (by omega) (by omega)
     have e1:lX g (cI g (aR g)) (f+1) way a=lX g (cI g (aR g)) f (way++ [(a:Int)]) b:=by
      simp only [lX];rw [if_neg (by intro h;rcases h with h|h;omega;exact hmem h),hb]
     have e2:pE g (f'+1) way a=pE g f' (way++ [(a:Int)]) b:=by
      simp only [pE];rw [if_neg hmem,rq]
     rw [e1,e2];exact ih
theorem zF {g:Gr} {way:List Int} :left g way≤g.n.toNat:=by
 unfold left
 have:=List.countP_le_length (p:=fun y:Nat=> !decide ((y:Int)∈way)) (l:=List.range g.n.toNat)
 simpa using this
theorem jF {l:List Int} (h:l.Nodup) {i j:Nat} (hi:i<l.length) (hj:j<l.length) (e:l.getD i 0=l.getD j 0):i=j:=by
 rw [List.getD_eq_getElem?_getD,List.getD_eq_getElem?_getD,List.getElem?_eq_getElem hi,List.getElem?_eq_getElem hj] at e
 exact (List.getElem_inj h).1 e
theorem HN {l:List Int} {i:Nat} (hi:i<l.length):l.reverse.getD i 0=l.getD (l.length - 1 - i) 0:=by
 rw [List.getD_eq_getElem?_getD,List.getD_eq_getElem?_getD,List.getElem?_reverse hi]
theorem J1 {l:List Int} (hd:l.Nodup) (h0:0<l.length):mC l.reverse=x5 l:=by
 obtain ⟨m,xu,hm2,MZ⟩:=eA (jB h0)
 have PI:0<l.reverse.length:=by simpa using h0
 obtain ⟨k,yO,hk2,Oo⟩:=eA (jB PI)
 have hmin:iU l.reverse=iU l:=by
  have h1:=zE (List.mem_reverse.2 (jB h0))
  have h2:=zE (List.mem_reverse.1 (jB PI))
  omega
 rw [List.length_reverse] at hk2
 have hk:l.length - 1 - k=m:=jF hd (by omega) hm2 (by rw [← HN hk2,Oo,MZ,hmin])
 have e1:mC l.reverse=l.reverse.drop k++l.reverse.take k:=by
  simp only [mC,yO,Int.toNat_natCast]
 have e2:x5 l=tD l m l.length:=by simp only [x5,xu,Int.toNat_natCast]
 rw [e1,e2]
 refine List.ext_getElem? fun i=> ?_
 by_cases hi:i<l.length
 ·have hr:(tD l m l.length)[i]? =some (l.getD ((m+l.length - i) % l.length) 0):=by
   simp [tD,List.getElem?_range hi]
  rw [hr]
  by_cases hik:i<l.length - k
  ·rw [List.getElem?_append_left (by simp;omega),List.getElem?_drop,List.getElem?_reverse (by omega)]
   have:(m+l.length - i) % l.length=m - i:=by
    rw [show m+l.length - i=(m - i)+l.length from by omega,Nat.add_mod_right,Nat.mod_eq_of_lt (by omega)]
   rw [this,show l.length - 1 - (k+i)=m - i from by omega,List.getD_eq_getElem?_getD,List.getElem?_eq_getElem (by omega)];rfl
  ·rw [List.getElem?_append_right (by simp;omega),List.length_drop,List.length_reverse,List.getElem?_take,if_pos (by omega),List.getElem?_reverse (by omega)]
   have:(m+l.length - i) % l.length=m+l.length - i:=Nat.mod_eq_of_lt (by omega)
   rw [this,show l.length - 1 - (i - (l.length - k))=m+l.length - i from by omega,List.getD_eq_getElem?_getD,List.getElem?_eq_getElem (by omega)];rfl
 ·rw [List.getElem?_eq_none (by simp;omega),List.getElem?_eq_none (by simp [tD];omega)]
theorem L9 {g:Gr} (hm:aG g=true):kP g=nr g:=by
 have hn:=aA hm
 rcases start_eq hm with ⟨h1,h2⟩|⟨a,ha,h1,h2,h3⟩
 ·have:kO g=([], -1):=by
   unfold kO;rw [h1];exact kQ (.inl (by omega)) _
  simp only [kP,nr,this]
  rw [if_pos (by omega),if_pos h2]
 ·obtain ⟨he,h4,h5,h6⟩:=HM hm g.n.toNat (g.n.toNat+1) [] a (by simp) ha h3 zF (Nat.le_succ_of_le zF)
  have hw:kO g=qw g:=by
   unfold kO qw;rw [h1,h2];exact he
  have hr:pE g (g.n.toNat+1) [] a=qw g:=by unfold qw;rw [h2]
  rw [hr] at h4 h5 h6
  simp only [kP,nr,hw]
  rw [if_neg (by omega),if_neg (by omega)]
  obtain ⟨k,yO,hk2,_⟩:=eA h5
  rw [yO,Int.toNat_natCast]
  exact J1 (List.Pairwise.drop h6) (by simp;omega)
theorem Ma (g:Gr):bT g=gF g:=by
 unfold bT gF
 cases hm:aG g with
 |false=>simp [fS,hm]
 |true=>rw [L9 hm]
end Go.Ab
end
section
namespace Go.Ab
end Go.Ab
end
section
namespace Go.Ab
open Go.Proofs
attribute [local congr] ACall.congr gd.congr Nx.congr
set_option maxRecDepth 10000
def g0:Gr:=⟨3, [(0,1),(1,2),(2,1)]⟩
end Go.Ab
end
section
namespace Go.Ab
open Go.Proofs
attribute [local congr] ACall.congr gd.congr Nx.congr
set_option maxRecDepth 10000
def DD (g:Gr):Bool:=decide (g.n≤((aR g).length:Int))
def Uh (g:Gr):List Int:=if DD g then aR g else []
def mD (l:List Int) (n:Int):Bool:=decide ((l.length:Int)=n)&&(List.range n.toNat).all fun x:Nat=>decide ((x:Int)∈l)
end Go.Ab
end
section
namespace Go.Ab
open Go.Proofs
attribute [local congr] ACall.congr gd.congr Nx.congr
set_option maxRecDepth 10000
theorem count_le:∀(xs l:List Int),xs.Nodup→(∀x∈xs,x∈l)→xs.length≤l.countP (fun y=>decide (y∈xs))
 | [],_,_,_=>Nat.zero_le _
 |a::r,l,hd,h=>by
  obtain ⟨h1,h2⟩:=List.nodup_cons.1 hd
  have ih:=count_le r l h2 fun x hx=>h x (List.mem_cons_of_mem _ hx)
  have hp:=lW (p:=fun y=>decide (y∈a::r)) (q:=fun y=>decide (y∈r)) (r:=fun y=>decide (y=a)) (l:=l) (fun y _=>by
   by_cases hy:y=a
   ·subst hy;simp [h1]
   ·simp [hy])
  have ha:0<l.countP (fun y=>decide (y=a)):=List.countP_pos_iff.2 ⟨a,h a List.mem_cons_self,by simp⟩
  rw [hp,List.length_cons];omega
def dW (n:Nat):List Int:=(List.range n).map Int.ofNat
theorem cm {n:Nat} {x:Int} :x∈dW n↔0≤x∧x<n:=by
 simp only [dW,List.mem_map,List.mem_range]
 constructor
 ·rintro ⟨a,h,rfl⟩;simp;omega
 ·intro h;exact ⟨x.toNat,by omega,by simp;omega⟩
theorem l9 {n:Nat} :(dW n).Nodup:=by
 unfold dW
 exact List.Pairwise.map _ (fun a b h e=>h (Int.ofNat.inj e)) List.nodup_range
theorem b7 {l:List Int} {n:Int} :mD l n=true↔(l.length:Int)=n∧∀x∈dW n.toNat,x∈l:=by
 simp only [mD,Bool.and_eq_true,decide_eq_true_eq,List.all_eq_true,List.mem_range]
 constructor
 ·rintro ⟨h1,h2⟩
  refine ⟨h1,fun x hx=> ?_⟩
  obtain ⟨a,b⟩:=cm.1 hx
  have:=h2 x.toNat (by omega)
  rwa [show ((x.toNat:Nat):Int)=x from by omega] at this
 ·rintro ⟨h1,h2⟩
  exact ⟨h1,fun x hx=>h2 _ (cm.2 (by omega))⟩
theorem vK {l:List Int} {n:Int} (h:mD l n=true):∀x∈l,0≤x∧x<n:=by
 obtain ⟨h1,h2⟩:=b7.1 h
 have hc:=count_le (dW n.toNat) l l9 h2
 have hlen:(dW n.toNat).length=n.toNat:=by simp [dW]
 have he:l.countP (fun y=>decide (y∈dW n.toNat))=l.length:=by
  have:=List.countP_le_length (p:=fun y=>decide (y∈dW n.toNat)) (l:=l)
  omega
 intro x hx
 have:=List.countP_eq_length.1 he x hx
 have:=cm.1 (of_decide_eq_true this)
 omega
def Bf (n:Nat) (l:List Int):Nat→List Int
 |0=>List.replicate n 0
 |k+1=>(Bf n l k).set (l.getD k 0).toNat k
theorem atK_length {n:Nat} {l:List Int} :∀ {k:Nat},(Bf n l k).length=n
 |0=>by simp [Bf]
 |k+1=>by simp [Bf,atK_length (k:=k)]
def HO (g:Gr) (l:List Int) (j:Nat):Bool:=(List.range j).all fun i=>decide ((Bf g.n.toNat l l.length).getD (tl g i).toNat 0<(Bf g.n.toNat l l.length).getD (hd g i).toNat 0)
def zG (g:Gr) (l:List Int):Bool:=mD l g.n&&HO g l g.es.length
attribute [go_sem] atK_length
end Go.Ab
end
section
namespace Go.Ab
def VO (g:Gr) (out:List Int):Prop:=∀p,p<out.length→out.getD p 0=fY (cI g (out.take p)) 0∧0≤out.getD p 0
theorem DE {g:Gr} (hm:aG g=true) (h:DD g=true):mD (aR g) g.n=true:=by
 obtain ⟨hP,_,_⟩:=gP hm
 have hn:=aA hm
 have hf:=hP.fuel
 have hok:=of_decide_eq_true h
 refine b7.2 ⟨by omega,fun x hx=> ?_⟩
 obtain ⟨h1,h2⟩:=cm.1 hx
 have h0:(List.range g.n.toNat).countP (fun y:Nat=> !decide ((y:Int)∈aR g))=0:=by omega
 have:=List.countP_eq_zero.1 h0 x.toNat (List.mem_range.2 (by omega))
 rw [show ((x.toNat:Nat):Int)=x from by omega] at this
 simpa using this
theorem DF {g:Gr} (hm:aG g=true) (h:DD g=false):∃y:Nat,y<g.n.toNat∧(y:Int)∉aR g:=by
 obtain ⟨hP,_,_⟩:=gP hm
 have hn:=aA hm
 have hf:=hP.fuel
 have hok:=of_decide_eq_false h
 have h0:0<(List.range g.n.toNat).countP (fun y:Nat=> !decide ((y:Int)∈aR g)):=by omega
 obtain ⟨y,hy,hp⟩:=List.countP_pos_iff.1 h0
 exact ⟨y,List.mem_range.1 hy,by simpa using hp⟩
theorem HP {g:Gr} {l:List Int} (h:zG g l=true) {i:Nat} (hi:i<g.es.length):(Bf g.n.toNat l l.length).getD (tl g i).toNat 0<(Bf g.n.toNat l l.length).getD (hd g i).toNat 0:=by
 simp only [zG,Bool.and_eq_true] at h
 have:=List.all_eq_true.1 h.2 i (List.mem_range.2 hi)
 exact of_decide_eq_true this
theorem vM {n:Nat} {l:List Int} :∀ {k:Nat} {y:Nat},0≤(Bf n l k).getD y 0
 |0,y=>by
  simp only [Bf,List.getD_eq_getElem?_getD,List.getElem?_replicate]
  split<;>simp
 |k+1,y=>by
  have ih:=vM (n:=n) (l:=l) (k:=k) (y:=y)
  simp only [Bf,List.getD_eq_getElem?_getD,List.getElem?_set] at ih ⊢
  split
  ·split<;>simp
  ·exact ih
theorem zH {l:List Int} {i j:Nat} (hij:i<j) (hj:j<l.length) (e:l.getD i 0=l.getD j 0):∀x∈l,x∈l.eraseIdx i:=by
 intro x hx
 obtain ⟨k,hk,rfl⟩:=List.getElem_of_mem hx
 rw [List.mem_iff_getElem?]
 rcases Nat.lt_trichotomy k i with h|h|h
 ·exact ⟨k,by rw [List.getElem?_eraseIdx,if_pos h,List.getElem?_eq_getElem hk]⟩
 ·subst h
  refine ⟨j - 1, ?_⟩
  rw [List.getElem?_eraseIdx,if_neg (by omega),show j - 1+1=j from by omega,List.getElem?_eq_getElem hj]
  rw [List.getD_eq_getElem?_getD,List.getD_eq_getElem?_getD,List.getElem?_eq_getElem hk,List.getElem?_eq_getElem hj] at e
  exact congrArg some e.symm
 ·exact ⟨k - 1,by rw [List.getElem?_eraseIdx,if_neg (by omega),show k - 1+1=k from by omega,List.getElem?_eq_getElem hk]⟩
theorem mg {l:List Int} {n:Int} (h:mD l n=true) {i j:Nat} (hi:i<l.length) (hj:j<l.length) (e:l.getD i 0=l.getD j 0):i=j:=by
 obtain ⟨h1,h2⟩:=b7.1 h
 have key:∀i j,i<j→j<l.length→l.getD i 0=l.getD j 0→False:=by
  intro i j hij hj e
  have hc:=count_le (dW n.toNat) (l.eraseIdx i) l9 fun x hx=>zH hij hj e x (h2 x hx)
  have hlen:(dW n.toNat).length=n.toNat:=by simp [dW]
  have hle:=List.countP_le_length (p:=fun y=>decide (y∈dW n.toNat)) (l:=l.eraseIdx i)
  rw [List.length_eraseIdx_of_lt (by omega)] at hle
  omega
 rcases Nat.lt_trichotomy i j with h|h|h
 ·exact (key i j h hj e).elim
 ·exact h
 ·exact (key j i h hi e.symm).elim
theorem zI {l:List Int} {n:Int} (h:mD l n=true) {p:Nat} :∀ {k:Nat},p<k→k≤l.length→(Bf n.toNat l k).getD (l.getD p 0).toNat 0=p
 |0,hp,_=>by omega
 |k+1,hp,hk=>by
  have hlo:=vK h
  have hp1:=hlo _ (jE (l:=l) (m:=p) (by omega))
  have yO:=hlo _ (jE (l:=l) (m:=k) (by omega))
  simp only [Bf,List.getD_eq_getElem?_getD (l:=(Bf n.toNat l k).set _ _),List.getElem?_set,atK_length]
  by_cases hpk:p=k
  ·subst hpk
   rw [if_pos rfl,if_pos (by omega)];rfl
  ·have hne:¬(l.getD k 0).toNat=(l.getD p 0).toNat:=fun e=>hpk (mg h (i:=p) (j:=k) (by omega) (by omega) (by omega))
   rw [if_neg hne, ← List.getD_eq_getElem?_getD]
   exact zI h (by omega) (by omega)
theorem Fi {g:Gr} (hm:aG g=true) (h:DD g=true):zG g (aR g)=true:=by
 have he:=DE hm h
 obtain ⟨hP,hO,_⟩:=gP hm
 have hall:=(b7.1 he).2
 simp only [zG,he,Bool.true_and,HO,List.all_eq_true,List.mem_range,decide_eq_true_eq]
 intro i hi
 have hh:=bh hm hi
 obtain ⟨p,hp,e⟩:=List.getElem_of_mem (hall (hd g i) (cm.2 (by omega)))
 have e':(aR g).getD p 0=hd g i:=by rw [List.getD_eq_getElem?_getD,List.getElem?_eq_getElem hp];exact e
 have ht:=hO p hp i hi e'.symm
 rw [List.mem_iff_getElem?] at ht
 obtain ⟨q,hq⟩:=ht
 rw [List.getElem?_take] at hq
 split at hq
 ·rename_i Ug
  have e2:(aR g).getD q 0=tl g i:=by rw [List.getD_eq_getElem?_getD,hq];rfl
  rw [← e', ← e2,zI he hp (Nat.le_refl _),zI he (by omega) (Nat.le_refl _)]
  omega
 ·cases hq
end Go.Ab
end
section
namespace Go.Ab
open Go.Proofs
attribute [local congr] ACall.congr gd.congr Nx.congr
set_option maxRecDepth 10000
end Go.Ab
end
section
namespace Go.Ab
open Go.Proofs
attribute [local congr] ACall.congr gd.congr Nx.congr
set_option maxRecDepth 10000
def gz:Gr:=⟨0, []⟩
def vz:D:= .pt [.sc (.int .i64 0), .sl 2 [], .sl 1 [], .sl 1 []]
def bB (f:Edge→Int) (g:Gr) (x:Int):List Int:=if 0≤x∧x<g.n then aK f g.es g.es.length x else []
theorem vN (f:Edge→Int) (g:Gr) (hm:aG g=true) (x:Int):Spec Tryz.prog 98 (Args [.d (vw g), .d (.sl 1 (J0 f g)),eN x]) [] (.d (sI (bB f g x))) []:=by
 rw [aB]
 have hn:=aA hm
 have hl':(aK f g.es g.es.length x).length≤1000000:=by have:=jj (f:=f) (es:=g.es) (k:=g.es.length) (x:=x);omega
 (refine Spec.hd (C:=T.cfg [] []) (rs:= [.t 6]) (T.aj _ _) Tryz.func98 rfl rfl Tryz.ntmps98 Tryz.results98 (by simp [AObj.isNest]) (by simp [AObj.isNest]) (by kernel_rfl) T.mixed fun X hX hP hC aP bV=> ?_)
 by_cases hx:0≤x∧x<g.n
 ·have hv:=qu (f:=f) (g:=g) (x:=x.toNat) (by omega)
  have he:fO f g.es g.es.length x.toNat=aK f g.es g.es.length x:=by rw [ni,show ((x.toNat:Nat):Int)=x from by omega]
  rw [he] at hv
  have hb1:decide (x<0)=false:=decide_eq_false (by omega)
  have hb2:decide (g.n≤x)=false:=decide_eq_false (by omega)
  have ht:bB f g x=aK f g.es g.es.length x:=if_pos hx
  repeat' (first|refine Rn.p ?_|(with_reducible apply And.intro)|((first|(refine hK _ ?_;clear hK K)|with_reducible intro K hK|refine Rs.p ?_|((with_reducible first|apply oP|apply oQ);exact rfl)|refine aa hX hC hP (jZ (aK f g.es g.es.length x) hl') rfl rfl rfl (by simp only [go_sem,simprocAttr,hv,hb1,hb2]) rfl ?_);try simp only [go_sem,simprocAttr,hv,hb1,hb2])|((with_reducible refine oD ?_ ?_);kernel_rfl)|((with_reducible intro h);try simp only [go_sem,simprocAttr,hv,hb1,hb2] at h)|omega|intro h)
  simp [ht]
 ·have ht:bB f g x= []:=if_neg hx
  repeat' (first|refine Rn.p ?_|(with_reducible apply And.intro)|((first|(refine hK _ ?_;clear hK K)|with_reducible intro K hK|refine Rs.p ?_|((with_reducible first|apply oP|apply oQ);exact rfl)|refine aa hX hC hP (jZ (aK f g.es g.es.length x) hl') rfl rfl rfl (by simp only [go_sem,simprocAttr,ht]) rfl ?_);try simp only [go_sem,simprocAttr,ht])|((with_reducible refine oD ?_ ?_);kernel_rfl)|((with_reducible intro h);try simp only [go_sem,simprocAttr,ht] at h)|omega|intro h)
theorem jk (g:Gr) (hm:aG g=true) (x:Int):Spec Tryz.prog 45 (Args [.d (vw g),eN x]) [] (.d (sI (bB (·.1) g x))) []:=by
 (refine Spec.hd (C:=T.cfg [] []) (rs:= [.t 4]) (T.aj _ _) Tryz.func45 rfl rfl Tryz.ntmps45 Tryz.results45 (by simp [AObj.isNest]) (by simp [AObj.isNest]) (by kernel_rfl) T.mixed fun X hX hP hC aP bV=> ?_)
 repeat' (first|refine Rn.p ?_|(with_reducible apply And.intro)|((first|(refine hK _ ?_;clear hK K)|with_reducible intro K hK|refine Rs.p ?_|((with_reducible first|apply oP|apply oQ);exact rfl)|refine aa hX hC hP (vN (·.1) g hm x) rfl rfl rfl (by simp only [go_sem,simprocAttr,aB]) rfl ?_);try simp only [go_sem,simprocAttr,aB])|((with_reducible refine oD ?_ ?_);kernel_rfl)|((with_reducible intro h);try simp only [go_sem,simprocAttr,aB] at h)|omega|intro h)
theorem kT (g:Gr) (hm:aG g=true) (x:Int):Spec Tryz.prog 172 (Args [.d (vw g),eN x]) [] (.d (sI (bB (·.2) g x))) []:=by
 (refine Spec.hd (C:=T.cfg [] []) (rs:= [.t 4]) (T.aj _ _) Tryz.func172 rfl rfl Tryz.ntmps172 Tryz.results172 (by simp [AObj.isNest]) (by simp [AObj.isNest]) (by kernel_rfl) T.mixed fun X hX hP hC aP bV=> ?_)
 repeat' (first|refine Rn.p ?_|(with_reducible apply And.intro)|((first|(refine hK _ ?_;clear hK K)|with_reducible intro K hK|refine Rs.p ?_|((with_reducible first|apply oP|apply oQ);exact rfl)|refine aa hX hC hP (vN (·.2) g hm x) rfl rfl rfl (by simp only [go_sem,simprocAttr,aB]) rfl ?_);try simp only [go_sem,simprocAttr,aB])|((with_reducible refine oD ?_ ?_);kernel_rfl)|((with_reducible intro h);try simp only [go_sem,simprocAttr,aB] at h)|omega|intro h)
end Go.Ab
end
section
namespace Go.Ab
open Go.Proofs
attribute [local congr] ACall.congr gd.congr Nx.congr
set_option maxRecDepth 10000
abbrev It:=Int × Int × Int
def rT (t:It):List D:= [.sc (.int .i64 t.1), .sc (.int .i64 t.2.1), .sc (.int .i64 t.2.2)]
def eT (t:It):AV:= .agg [.d (.sc (.int .i64 t.1)), .d (.sc (.int .i64 t.2.1)), .d (.sc (.int .i64 t.2.2))]
def sT (ts:List It):D:= .sl 3 (ts.map rT)
theorem getD_rT (ps:List It) (i:Nat):(ps.map rT).getD i [.sc (.int .i64 0), .sc (.int .i64 0), .sc (.int .i64 0)]=rT (ps.getD i (0,0,0)):=by
 simp only [List.getD_eq_getElem?_getD,List.getElem?_map]
 cases ps[i]? <;>rfl
theorem rT_eq (t:It):rT t= [.sc (.int .i64 t.1), .sc (.int .i64 t.2.1), .sc (.int .i64 t.2.2)]:=rfl
attribute [go_sem] getD_rT rT_eq eT sT
theorem qx {l:List Int} :∀r∈l.map rI,∀x∈r,∃v,x=D.sc v:=by
 intro r hr x hx
 obtain ⟨y,_,rfl⟩:=List.mem_map.1 hr
 simp only [rI,List.mem_singleton] at hx
 exact ⟨_,hx⟩
theorem qy {l:List It} :∀r∈l.map rT,∀x∈r,∃v,x=D.sc v:=by
 intro r hr x hx
 obtain ⟨y,_,rfl⟩:=List.mem_map.1 hr
 simp only [rT,List.mem_cons,List.not_mem_nil,or_false] at hx
 rcases hx with h|h|h<;>exact ⟨_,h⟩
theorem aQ {α:Type} {l:List α} {m:Nat} {d:α} (h:m<l.length):l.getD m d∈l:=by
 rw [List.getD_eq_getElem?_getD,List.getElem?_eq_getElem h];exact List.getElem_mem h
theorem sZ (ps:List It) (hl:ps.length≤1000000):
 Spec Tryz.prog 127 (Args [.d (sT ps)]) [] (.ref 10000) [(10000, .tip 100 3 (ps.map rT))]:=by
 (refine Spec.vf (C:=T.cfg [] []) (rs:= [.t 2]) [(10000,7)] (T.aj _ _) Tryz.func127 rfl rfl Tryz.ntmps127 Tryz.results127 (by simp [AObj.isNest]) (by simp [AObj.isNest]) (by first|(simp [look];done)|(simp [asN];done)|(intro l hl;simp only [asN];repeat (rw [if_neg (fun e=>by subst e;simp [look] at hl)]))) (by first|(simp [look];done)|(simp [asN];done)|(intro l hl;simp only [asN];repeat (rw [if_neg (fun e=>by subst e;simp [look] at hl)]))) (by kernel_rfl) T.mixed fun X hX hP hC aP bV=> ?_)
 repeat' (first|(show bY _ .ret _ _;(try simp only [go_sem,simprocAttr]);refine dU hX 2 7 (.tip 100 3 []) ?_ ?_ (by decide) ⟨100,3,by decide, .inr rfl⟩ ?_;(iterate 2 (focus (simp only [go_sem,simprocAttr];done)));simp only [go_sem,simprocAttr])|refine Rn.p ?_|(with_reducible apply And.intro)|((first|(refine hK _ ?_;clear hK K)|with_reducible intro K hK|refine Rs.p ?_|((with_reducible first|apply oP|apply oQ);exact rfl));try simp only [go_sem,simprocAttr])|((with_reducible refine oD ?_ ?_);kernel_rfl)|((with_reducible intro h);try simp only [go_sem,simprocAttr] at h)|omega|intro h)
 exact h.symm
theorem zJ (ps:List Int) (hl:ps.length≤1000000):
 Spec Tryz.prog 71 (Args [.d (sI ps)]) [] (.ref 10000) [(10000, .tip 3 1 (ps.map rI))]:=by
 (refine Spec.vf (C:=T.cfg [] []) (rs:= [.t 2]) [(10000,7)] (T.aj _ _) Tryz.func71 rfl rfl Tryz.ntmps71 Tryz.results71 (by simp [AObj.isNest]) (by simp [AObj.isNest]) (by first|(simp [look];done)|(simp [asN];done)|(intro l hl;simp only [asN];repeat (rw [if_neg (fun e=>by subst e;simp [look] at hl)]))) (by first|(simp [look];done)|(simp [asN];done)|(intro l hl;simp only [asN];repeat (rw [if_neg (fun e=>by subst e;simp [look] at hl)]))) (by kernel_rfl) T.mixed fun X hX hP hC aP bV=> ?_)
 repeat' (first|(show bY _ .ret _ _;(try simp only [go_sem,simprocAttr]);refine dU hX 2 7 (.tip 3 1 []) ?_ ?_ (by decide) ⟨3,1,by decide, .inr rfl⟩ ?_;(iterate 2 (focus (simp only [go_sem,simprocAttr];done)));simp only [go_sem,simprocAttr])|refine Rn.p ?_|(with_reducible apply And.intro)|((first|(refine hK _ ?_;clear hK K)|with_reducible intro K hK|refine Rs.p ?_|((with_reducible first|apply oP|apply oQ);exact rfl));try simp only [go_sem,simprocAttr])|((with_reducible refine oD ?_ ?_);kernel_rfl)|((with_reducible intro h);try simp only [go_sem,simprocAttr] at h)|omega|intro h)
 exact h.symm
theorem mE {m:List (Nat × AObj)} (hR:bH m) (f:Nat) (caps:List AV) (g:It→Bool) (ps:List It) (hf:∀p∈ps,Spec Tryz.prog f (Args (eT p::caps)) m (eB (g p)) m) (hl:ps.length≤9223372036854775807):
 Spec Tryz.prog 212 (Args [.d (sT ps), .fn f [] caps]) m (eN (bQ g ps)) m:=by
 (refine Spec.hd (C:=T.cfg [] []) (rs:= [.t 4]) (T.aj _ _) Tryz.func212 rfl rfl Tryz.ntmps212 Tryz.results212 (fun p hp=>⟨(bH.low hR p hp).1,bH.nest hR p hp⟩) (fun p hp=>⟨(bH.low hR p hp).2,bH.nest hR p hp⟩) (by kernel_rfl) T.mixed fun X hX hP hC aP bV=> ?_)
 repeat' (first|refine Rn.p ?_|(with_reducible apply And.intro)|((first|(refine hK _ ?_;clear hK K)|with_reducible intro K hK|refine Rs.p ?_|((with_reducible first|apply oP|apply oQ);exact rfl));try simp only [go_sem,simprocAttr])|((with_reducible refine oD ?_ ?_);kernel_rfl)|((with_reducible intro h);try simp only [go_sem,simprocAttr] at h)|omega|intro h)
 refine ai (fun k:Nat=>k≤ps.length∧∀j,j<k→g (ps.getD j (0,0,0))=false) (fun k=>⟨[(0, .d (sT ps)),(1, .fn f [] caps),(7,eN ps.length),(8,eN k)],m⟩) (fun k=>ps.length - k) 0 (by simp) ?_ ?_
 ·(refine ⟨c7 ?_,fun _ _ h=>h⟩;simp [go_sem,simprocAttr])
 rintro k ⟨hk,hg⟩
 rcases Nat.lt_or_ge k ps.length with hlt|hge
 ·have hb:decide ((k:Int)<(ps.length:Int))=true:=decide_eq_true (by omega)
  have hf':=hf (ps.getD k (0,0,0)) (aQ hlt)
  repeat' (first|refine Rn.p ?_|(with_reducible apply And.intro)|((first|(refine hK _ ?_;clear hK K)|with_reducible intro K hK|refine Rs.p ?_|((with_reducible first|apply oP|apply oQ);exact rfl)|(first|(refine bt hX hC hP hR (hf') rfl rfl rfl ?_ ?_ rfl rfl ?_;(focus (simp only [go_sem,simprocAttr,hb];done));(focus (first|(intro p hp;exact aT (bH.nd hR) hp)|(simp [go_sem,simprocAttr,hb];done))))|(refine bt hX hC hP hR (hf') rfl rfl rfl ?_ ?_ ?_ rfl ?_;(focus (simp only [go_sem,simprocAttr,hb];done));(focus (first|(intro p hp;exact aT (bH.nd hR) hp)|(simp [go_sem,simprocAttr,hb];done)));(focus (simp [go_sem,simprocAttr,hb];done)))));try simp only [go_sem,simprocAttr,hb])|((with_reducible refine oD ?_ ?_);kernel_rfl)|((with_reducible intro h);try simp only [go_sem,simprocAttr,hb] at h)|omega|intro h)
  ·exact (c8 (by omega) hg h).symm
  ·exact gl hR
  ·refine ⟨k+1,⟨by omega,fun j hj=> ?_⟩, ?_,by omega⟩
   ·by_cases hjk:j=k
    ·subst hjk;exact h
    ·exact hg j (by omega)
   ·(refine ⟨c7 ?_,fun _ _ h=>h⟩;simp [go_sem,simprocAttr,hb])
 ·have hb:decide ((k:Int)<(ps.length:Int))=false:=decide_eq_false (by omega)
  repeat' (first|refine Rn.p ?_|(with_reducible apply And.intro)|((first|(refine hK _ ?_;clear hK K)|with_reducible intro K hK|refine Rs.p ?_|((with_reducible first|apply oP|apply oQ);exact rfl)|(first|(refine bt hX hC hP hR (hf') rfl rfl rfl ?_ ?_ rfl rfl ?_;(focus (simp only [go_sem,simprocAttr,hb];done));(focus (first|(intro p hp;exact aT (bH.nd hR) hp)|(simp [go_sem,simprocAttr,hb];done))))|(refine bt hX hC hP hR (hf') rfl rfl rfl ?_ ?_ ?_ rfl ?_;(focus (simp only [go_sem,simprocAttr,hb];done));(focus (first|(intro p hp;exact aT (bH.nd hR) hp)|(simp [go_sem,simprocAttr,hb];done)));(focus (simp [go_sem,simprocAttr,hb];done)))));try simp only [go_sem,simprocAttr,hb])|((with_reducible refine oD ?_ ?_);kernel_rfl)|((with_reducible intro h);try simp only [go_sem,simprocAttr,hb] at h)|omega|intro h)
  ·exact (cL (0,0,0) fun j hj=>hg j (by omega)).symm
  ·exact gl hR
theorem pG {m:List (Nat × AObj)} (hR:bH m) (f:Nat) (caps:List AV) (g:It→Bool) (ps:List It) (hf:∀p∈ps,Spec Tryz.prog f (Args (eT p::caps)) m (eB (g p)) m) (hl:ps.length≤9223372036854775807):
 Spec Tryz.prog 197 (Args [.d (sT ps), .fn f [] caps]) m (eB (ps.any g)) m:=by
 (refine Spec.hd (C:=T.cfg [] []) (rs:= [.t 4]) (T.aj _ _) Tryz.func197 rfl rfl Tryz.ntmps197 Tryz.results197 (fun p hp=>⟨(bH.low hR p hp).1,bH.nest hR p hp⟩) (fun p hp=>⟨(bH.low hR p hp).2,bH.nest hR p hp⟩) (by kernel_rfl) T.mixed fun X hX hP hC aP bV=> ?_)
 repeat' (first|refine Rn.p ?_|(with_reducible apply And.intro)|((first|(refine hK _ ?_;clear hK K)|with_reducible intro K hK|refine Rs.p ?_|((with_reducible first|apply oP|apply oQ);exact rfl)|(first|(refine bt hX hC hP hR (mE hR f caps g ps hf hl) rfl rfl rfl ?_ ?_ rfl rfl ?_;(focus (simp only [go_sem,simprocAttr];done));(focus (first|(intro p hp;exact aT (bH.nd hR) hp)|(simp [go_sem,simprocAttr];done))))|(refine bt hX hC hP hR (mE hR f caps g ps hf hl) rfl rfl rfl ?_ ?_ ?_ rfl ?_;(focus (simp only [go_sem,simprocAttr];done));(focus (first|(intro p hp;exact aT (bH.nd hR) hp)|(simp [go_sem,simprocAttr];done)));(focus (simp [go_sem,simprocAttr];done)))));try simp only [go_sem,simprocAttr])|((with_reducible refine oD ?_ ?_);kernel_rfl)|((with_reducible intro h);try simp only [go_sem,simprocAttr] at h)|omega|intro h)
 ·exact fL g ps
 ·exact gl hR
theorem jG (n:Int) (h0:0<n) (hl:n≤1000000):Spec Tryz.prog 199 (Args [.nil 100,eN n]) [] (.ref 10000) [(10000, .own 100 3 [])]:=by
 (refine Spec.vf (C:=T.cfg [] []) (rs:= [.t 4]) [(10000,25)] (T.aj _ _) Tryz.func199 rfl rfl Tryz.ntmps199 Tryz.results199 (by simp [AObj.isNest]) (by simp [AObj.isNest]) (by first|(simp [look];done)|(simp [asN];done)|(intro l hl;simp only [asN];repeat (rw [if_neg (fun e=>by subst e;simp [look] at hl)]))) (by first|(simp [look];done)|(simp [asN];done)|(intro l hl;simp only [asN];repeat (rw [if_neg (fun e=>by subst e;simp [look] at hl)]))) (by kernel_rfl) T.mixed fun X hX hP hC aP bV=> ?_)
 repeat' (first|refine Rn.p ?_|(with_reducible apply And.intro)|((first|(refine hK _ ?_;clear hK K)|with_reducible intro K hK|refine Rs.p ?_|((with_reducible first|apply oP|apply oQ);exact rfl));try simp only [go_sem,simprocAttr])|((with_reducible refine oD ?_ ?_);kernel_rfl)|((with_reducible intro h);try simp only [go_sem,simprocAttr] at h)|omega|intro h)
def vT (ls:List (List It)):List (List D):=ls.map fun l=> [sT l]
theorem vT_length {ls:List (List It)} :(vT ls).length=ls.length:=by simp [vT]
theorem ud {ls:List (List It)} {k:Nat} (h:k<ls.length) (d:List D):(vT ls).getD k d= [sT (ls.getD k [])]:=by
 simp [vT,List.getD_eq_getElem?_getD,List.getElem?_eq_getElem h]
attribute [go_sem] vT_length
theorem vO {α:Type} {ls:List (List α)} {k:Nat} (h:k<ls.length):(ls.take (k+1)).flatten=(ls.take k).flatten++ls.getD k []:=by
 rw [List.take_add_one,List.flatten_append,List.getElem?_eq_getElem h,List.getD_eq_getElem?_getD,List.getElem?_eq_getElem h]
 simp
theorem qz {α:Type} {ls:List (List α)} {k:Nat} :(ls.take k).flatten.length≤ls.flatten.length:=by
 have:=congrArg (fun x=>x.flatten.length) (List.take_append_drop k ls)
 simp only [List.flatten_append,List.length_append] at this
 omega
theorem zK (ls:List (List It)) (hn:ls.length≤1000) (h0:0<ls.flatten.length) (hl:ls.flatten.length≤1000000):Spec Tryz.prog 174 (Args [.d (.sl 1 (vT ls))]) [] (.d (sT ls.flatten)) []:=by
 (refine Spec.hd (C:=T.cfg [] []) (rs:= [.t 2]) (T.aj _ _) Tryz.func174 rfl rfl Tryz.ntmps174 Tryz.results174 (by simp [AObj.isNest]) (by simp [AObj.isNest]) (by kernel_rfl) T.mixed fun X hX hP hC aP bV=> ?_)
 repeat' (first|refine Rn.p ?_|(with_reducible apply And.intro)|((first|(refine hK _ ?_;clear hK K)|with_reducible intro K hK|refine Rs.p ?_|((with_reducible first|apply oP|apply oQ);exact rfl)|(refine au hX hC hP [(10000,33)] (jG (ls.flatten.length:Int) (by omega) (by omega)) rfl rfl rfl ?_ ?_ ?_ ?_ ?_ ?_ ?_ ?_ ?_ ?_ ?_ ?_ ?_ ?_;(focus (simp only [go_sem,simprocAttr];done));(iterate 12 (focus (simp [go_sem,simprocAttr];done)));try simp only [List.map_cons,List.map_nil]));try simp only [go_sem,simprocAttr])|((with_reducible refine oD ?_ ?_);kernel_rfl)|((with_reducible intro h);try simp only [go_sem,simprocAttr] at h)|omega|intro h)
 refine ai (fun k:Nat=>k≤ls.length) (fun k=>⟨[(0, .d (.sl 1 (vT ls))),(9, .d (.sl 1 (vT ls))),(10,eN ls.length),(11,eN k),(3,eN ((ls.take k).flatten.length))], []⟩) (fun k=>ls.length - k) 0 (by omega) ?_ ?_
 ·(refine Le.of ?_ ?_<;>simp [go_sem,simprocAttr])
 ·rintro k hk
  rcases Nat.lt_or_ge k ls.length with hlt|hge
  ·have hb:decide ((k:Int)<(ls.length:Int))=true:=decide_eq_true (by omega)
   have hv:=ud hlt
   have hf:=vO hlt
   have PD:=qz (ls:=ls) (k:=k)
   have L5:=qz (ls:=ls) (k:=k+1)
   rw [hf,List.length_append] at L5
   have hneg:decide (((ls.take k).flatten.length:Int)+((ls.getD k []).length:Int)<0)=false:=decide_eq_false (by omega)
   repeat' (first|refine Rn.p ?_|(with_reducible apply And.intro)|((first|(refine hK _ ?_;clear hK K)|with_reducible intro K hK|refine Rs.p ?_|((with_reducible first|apply oP|apply oQ);exact rfl)|(refine au hX hC hP [(10000,33)] (jG (ls.flatten.length:Int) (by omega) (by omega)) rfl rfl rfl ?_ ?_ ?_ ?_ ?_ ?_ ?_ ?_ ?_ ?_ ?_ ?_ ?_ ?_;(focus (simp only [go_sem,simprocAttr,hb,hv,hneg];done));(iterate 12 (focus (simp [go_sem,simprocAttr,hb,hv,hneg];done)));try simp only [List.map_cons,List.map_nil]));try simp only [go_sem,simprocAttr,hb,hv,hneg])|((with_reducible refine oD ?_ ?_);kernel_rfl)|((with_reducible intro h);try simp only [go_sem,simprocAttr,hb,hv,hneg] at h)|omega|intro h)
   refine ⟨k+1,by omega, ?_,by omega⟩
   simp only [hf]
   refine Le.of ?_ ?_<;>simp [go_sem,simprocAttr,hb,hv,hneg]
  ·have hb:decide ((k:Int)<(ls.length:Int))=false:=decide_eq_false (by omega)
   have ht:ls.take k=ls:=List.take_of_length_le (by omega)
   repeat' (first|refine Rn.p ?_|(with_reducible apply And.intro)|((first|(refine hK _ ?_;clear hK K)|with_reducible intro K hK|refine Rs.p ?_|((with_reducible first|apply oP|apply oQ);exact rfl)|(refine au hX hC hP [(10000,33)] (jG (ls.flatten.length:Int) (by omega) (by omega)) rfl rfl rfl ?_ ?_ ?_ ?_ ?_ ?_ ?_ ?_ ?_ ?_ ?_ ?_ ?_ ?_;(focus (simp only [go_sem,simprocAttr,hb,ht];done));(iterate 12 (focus (simp [go_sem,simprocAttr,hb,ht];done)));try simp only [List.map_cons,List.map_nil]));try simp only [go_sem,simprocAttr,hb,ht])|((with_reducible refine oD ?_ ?_);kernel_rfl)|((with_reducible intro h);try simp only [go_sem,simprocAttr,hb,ht] at h)|omega|intro h)
   refine ai (fun k:Nat=>k≤ls.length) (fun k=>⟨[(25, .d (.sl 1 (vT ls))),(26,eN ls.length),(27,eN k),(6, .ref 33)], [(33, .own 100 3 ((ls.take k).flatten.map rT))]⟩) (fun k=>ls.length - k) 0 (by omega) ?_ ?_
   ·(refine Le.of ?_ ?_<;>simp [go_sem,simprocAttr,hb,ht])
   ·clear hb ht hk hge
    rintro k hk
    rcases Nat.lt_or_ge k ls.length with hlt|hge
    ·have hb:decide ((k:Int)<(ls.length:Int))=true:=decide_eq_true (by omega)
     have hv:=ud hlt
     have hf:=vO hlt
     have PD:=qz (ls:=ls) (k:=k)
     have L5:=qz (ls:=ls) (k:=k+1)
     rw [hf,List.length_append] at L5
     repeat' (first|refine Rn.p ?_|(with_reducible apply And.intro)|((first|(refine hK _ ?_;clear hK K)|with_reducible intro K hK|refine Rs.p ?_|((with_reducible first|apply oP|apply oQ);exact rfl)|(refine au hX hC hP [(10000,33)] (jG (ls.flatten.length:Int) (by omega) (by omega)) rfl rfl rfl ?_ ?_ ?_ ?_ ?_ ?_ ?_ ?_ ?_ ?_ ?_ ?_ ?_ ?_;(focus (simp only [go_sem,simprocAttr,hb,hv];done));(iterate 12 (focus (simp [go_sem,simprocAttr,hb,hv];done)));try simp only [List.map_cons,List.map_nil]));try simp only [go_sem,simprocAttr,hb,hv])|((with_reducible refine oD ?_ ?_);kernel_rfl)|((with_reducible intro h);try simp only [go_sem,simprocAttr,hb,hv] at h)|omega|intro h)
     refine ⟨k+1,by omega, ?_,by omega⟩
     simp only [hf]
     refine Le.of ?_ ?_<;>simp [go_sem,simprocAttr,hb,hv]
    ·have hb:decide ((k:Int)<(ls.length:Int))=false:=decide_eq_false (by omega)
     have ht:ls.take k=ls:=List.take_of_length_le (by omega)
     repeat' (first|refine Rn.p ?_|(with_reducible apply And.intro)|((first|(refine hK _ ?_;clear hK K)|with_reducible intro K hK|refine Rs.p ?_|((with_reducible first|apply oP|apply oQ);exact rfl)|(refine au hX hC hP [(10000,33)] (jG (ls.flatten.length:Int) (by omega) (by omega)) rfl rfl rfl ?_ ?_ ?_ ?_ ?_ ?_ ?_ ?_ ?_ ?_ ?_ ?_ ?_ ?_;(focus (simp only [go_sem,simprocAttr,hb,ht];done));(iterate 12 (focus (simp [go_sem,simprocAttr,hb,ht];done)));try simp only [List.map_cons,List.map_nil]));try simp only [go_sem,simprocAttr,hb,ht])|((with_reducible refine oD ?_ ?_);kernel_rfl)|((with_reducible intro h);try simp only [go_sem,simprocAttr,hb,ht] at h)|omega|intro h)
end Go.Ab
end
section
namespace Go.Ab
open Go.Proofs
attribute [local congr] ACall.congr gd.congr Nx.congr
set_option maxRecDepth 10000
set_option maxHeartbeats 1000000
structure Fr where
 row:List It
 pl:List Int
def gB (g:Gr) (f:Fr):D:= .pt [sT f.row,vw g,sI f.pl]
def fU (row:List It) (x:Int):Nat→Int × Int × Int
 |0=>(-1,0,0)
 |k+1=>if (row.getD k (0,0,0)).2.2=x then (if (fU row x k).1= -1 then (k:Int) else (fU row x k).1,(k:Int)+1,(fU row x k).2.2+1) else fU row x k
def bw (row:List It) (x:Int):Int × Int × Int:=fU row x row.length
theorem pH {row:List It} {x:Int} {k:Nat} :fU row x (k+1)=if (row.getD k (0,0,0)).2.2=x then (if (fU row x k).1= -1 then (k:Int) else (fU row x k).1,(k:Int)+1,(fU row x k).2.2+1) else fU row x k:=rfl
theorem fq {row:List It} {x:Int} :∀k:Nat,(fU row x k=(-1,0,0)∧∀j,j<k→(row.getD j (0,0,0)).2.2≠x)∨
 ∃a b c:Nat,fU row x k=((a:Int),(b:Int),(c:Int))∧a<b∧b≤k∧0<c∧c≤k∧(row.getD a (0,0,0)).2.2=x∧(row.getD (b - 1) (0,0,0)).2.2=x∧(∀j,j<a→(row.getD j (0,0,0)).2.2≠x)∧(∀j,b≤j→j<k→(row.getD j (0,0,0)).2.2≠x)
 |0=> .inl ⟨rfl,fun j hj=>by omega⟩
 |k+1=>by
  rw [pH]
  by_cases hx:(row.getD k (0,0,0)).2.2=x
  ·rw [if_pos hx]
   right
   rcases fq (row:=row) (x:=x) k with ⟨h1,h2⟩|⟨a,b,c,h1,h2,h3,h4,h5,h6,h7,h8,h9⟩
   ·refine ⟨k,k+1,1,by rw [h1];rfl,by omega,by omega,by omega,by omega,hx,hx,h2,fun j h1 h2=>by omega⟩
   ·refine ⟨a,k+1,c+1,by rw [h1];simp only [Prod.mk.injEq];exact ⟨by rw [if_neg (by omega)],by omega,by omega⟩,by omega,by omega,by omega,by omega,h6,hx,h8,fun j h1 h2=>by omega⟩
  ·rw [if_neg hx]
   rcases fq (row:=row) (x:=x) k with ⟨h1,h2⟩|⟨a,b,c,h1,h2,h3,h4,h5,h6,h7,h8,h9⟩
   ·refine .inl ⟨h1,fun j hj=> ?_⟩
    by_cases hjk:j=k
    ·subst hjk;exact hx
    ·exact h2 j (by omega)
   ·refine .inr ⟨a,b,c,h1,h2,by omega,h4,by omega,h6,h7,h8,fun j SK Rv=> ?_⟩
    by_cases hjk:j=k
    ·subst hjk;exact hx
    ·exact h9 j SK (by omega)
theorem eR (ds:List D) (row:List It) (x:Int) (hl:row.length≤1000000):Spec Tryz.prog 124 (Args [.d (.pt (sT row::ds)),eN x]) [] (.tup [eN (bw row x).1,eN (bw row x).2.1,eN (bw row x).2.2]) []:=by
 (refine Spec.hd (C:=T.cfg [] []) (rs:= [.t 4, .t 5, .t 6]) (T.aj _ _) Tryz.func124 rfl rfl Tryz.ntmps124 Tryz.results124 (by simp [AObj.isNest]) (by simp [AObj.isNest]) (by kernel_rfl) T.mixed fun X hX hP hC aP bV=> ?_)
 repeat' (first|refine Rn.p ?_|(with_reducible apply And.intro)|((first|(refine hK _ ?_;clear hK K)|with_reducible intro K hK|refine Rs.p ?_|((with_reducible first|apply oP|apply oQ);exact rfl));try simp only [go_sem,simprocAttr,bw])|((with_reducible refine oD ?_ ?_);kernel_rfl)|((with_reducible intro h);try simp only [go_sem,simprocAttr,bw] at h)|omega|intro h)
 refine ai (fun k:Nat=>k≤row.length) (fun k=>⟨[(1,eN x),(12, .d (sT row)),(13,eN row.length),(14,eN k),(4,eN (fU row x k).1),(5,eN (fU row x k).2.1),(6,eN (fU row x k).2.2)], []⟩) (fun k=>row.length - k) 0 (by simp) ?_ ?_
 ·refine Le.of ?_ ?_<;>simp [go_sem,simprocAttr,bw,fU]
 rintro k hk
 rcases Nat.lt_or_ge k row.length with hlt|hge
 ·have hb:decide ((k:Int)<(row.length:Int))=true:=decide_eq_true (by omega)
  have hok:=fq (row:=row) (x:=x) k
  have hc: -1≤(fU row x k).2.2∧(fU row x k).2.2≤k:=by
   rcases hok with ⟨h1,_⟩|⟨a,b,c,h1,_,_,_,_,_⟩<;>rw [h1]<;>simp only<;>omega
  have cE:=pH (row:=row) (x:=x) (k:=k)
  repeat' (first|refine Rn.p ?_|(with_reducible apply And.intro)|((first|(refine hK _ ?_;clear hK K)|with_reducible intro K hK|refine Rs.p ?_|((with_reducible first|apply oP|apply oQ);exact rfl));try simp only [go_sem,simprocAttr,hb])|((with_reducible refine oD ?_ ?_);kernel_rfl)|((with_reducible intro h);try simp only [go_sem,simprocAttr,hb] at h)|omega|intro h)
  all_goals (first|rw [if_neg (by assumption)] at cE|(rw [if_pos (by assumption)] at cE;first|rw [if_pos (by assumption)] at cE|rw [if_neg (by assumption)] at cE))
  all_goals (refine ⟨k+1,by omega, ?_,by omega⟩;refine Le.of ?_ ?_<;>simp [go_sem,simprocAttr,hb,cE])
 ·have hb:decide ((k:Int)<(row.length:Int))=false:=decide_eq_false (by omega)
  obtain rfl:k=row.length:=by omega
  repeat' (first|refine Rn.p ?_|(with_reducible apply And.intro)|((first|(refine hK _ ?_;clear hK K)|with_reducible intro K hK|refine Rs.p ?_|((with_reducible first|apply oP|apply oQ);exact rfl));try simp only [go_sem,simprocAttr,hb,bw])|((with_reducible refine oD ?_ ?_);kernel_rfl)|((with_reducible intro h);try simp only [go_sem,simprocAttr,hb,bw] at h)|omega|intro h)
def mh (x:Int) (t:It):Bool:=decide (t.2.2≠x)&&decide (t.2.2≠ -1)
def s5 (row:List It) (x:Int) (a b:Nat):Bool:= !((row.take b).drop a).any (mh x)
theorem Fj (x:Int):bH [(10000, .rob [eN x])]:=⟨by simp [AObj.ro],by simp [nodupM,look],by simp,by simp [AObj.ids,AV.ids,AV.idss,eN]⟩
theorem CI (x:Int) (t:It):Spec Tryz.prog 198 (Args [eT t, .ptr 10000 0]) [(10000, .rob [eN x])] (eB (mh x t)) [(10000, .rob [eN x])]:=by
 (refine Spec.hd (C:=T.cfg [] []) (rs:= [.t 3]) (T.aj _ _) Tryz.func198 rfl rfl Tryz.ntmps198 Tryz.results198 (fun p hp=>⟨(bH.low (Fj x) p hp).1,bH.nest (Fj x) p hp⟩) (fun p hp=>⟨(bH.low (Fj x) p hp).2,bH.nest (Fj x) p hp⟩) (by kernel_rfl) T.mixed fun X hX hP hC aP bV=> ?_)
 repeat' (first|refine Rn.p ?_|(with_reducible apply And.intro)|((first|(refine hK _ ?_;clear hK K)|with_reducible intro K hK|refine Rs.p ?_|((with_reducible first|apply oP|apply oQ);exact rfl));try simp only [go_sem,simprocAttr])|((with_reducible refine oD ?_ ?_);kernel_rfl)|((with_reducible intro h);try simp only [go_sem,simprocAttr] at h)|omega|intro h)
 all_goals (simp only [mh];first|exact gl (Fj x)|simp [*])
theorem gQ (ds:List D) (row:List It) (x:Int) (a b:Nat) (hab:a≤b) (hb:b≤row.length) (hl:row.length≤1000000):Spec Tryz.prog 173 (Args [.d (.pt (sT row::ds)),eN x,eN a,eN b]) [] (eB (s5 row x a b)) []:=by
 have Jc:sT ((row.take b).drop a)= .sl 3 (((row.map rT).take b).drop a):=by simp [sT,List.map_take,List.map_drop]
 have j0:((row.take b).drop a).length≤9223372036854775807:=by simp;omega
 (refine Spec.hd (C:=T.cfg [] []) (rs:= [.t 8]) (T.aj _ _) Tryz.func173 rfl rfl Tryz.ntmps173 Tryz.results173 (by simp [AObj.isNest]) (by simp [AObj.isNest]) (by kernel_rfl) T.mixed fun X hX hP hC aP bV=> ?_)
 repeat' (first|refine Rn.p ?_|(with_reducible apply And.intro)|((first|(refine hK _ ?_;clear hK K)|with_reducible intro K hK|refine Rs.p ?_|((with_reducible first|apply oP|apply oQ);exact rfl)|(refine bC hX hC hP [(10000,5)] (pG (Fj x) _ [.ptr 10000 0] (mh x) ((row.take b).drop a) (fun t _=>CI x t) j0) rfl rfl rfl ?_ ?_ ?_ ?_ ?_ ?_ rfl rfl ?_ ?_;(focus (simp only [go_sem,simprocAttr,List.map_take,List.map_drop];done));(iterate 6 (focus (simp [go_sem,simprocAttr,List.map_take,List.map_drop];done)));try simp only [List.map_cons,List.map_nil]));try simp only [go_sem,simprocAttr,List.map_take,List.map_drop])|((with_reducible refine oD ?_ ?_);kernel_rfl)|((with_reducible intro h);try simp only [go_sem,simprocAttr,List.map_take,List.map_drop] at h)|omega|intro h)
 rfl
end Go.Ab
end
section
namespace Go.Ab
open Go.Proofs
attribute [local congr] ACall.congr gd.congr Nx.congr
set_option maxRecDepth 10000
set_option maxHeartbeats 2000000
def eD (g:Gr) (f:Fr) (x:Int):Bool:=
 if x<0∨g.n≤x∨x∈f.pl then false else
 decide ((bw f.row x).2.2=((bB (·.2) g x).length:Int))&&(decide ((bB (·.2) g x).length=0)||s5 f.row x (bw f.row x).1.toNat (bw f.row x).2.1.toNat)
theorem CJ {f:Edge→Int} {g:Gr} {x:Int} :(bB f g x).length≤g.es.length:=by
 unfold bB
 split
 ·exact jj
 ·simp
theorem gR (g:Gr) (hm:aG g=true) (f:Fr) (x:Int) (hr:f.row.length≤1000000) (bZ:f.pl.length≤1000000):Spec Tryz.prog 123 (Args [.d (gB g f),eN x]) [] (eB (eD g f x)) []:=by
 have hp:f.pl.length≤9223372036854775807:=by omega
 have hn:=aA hm
 unfold gB
 by_cases hx:x<0∨g.n≤x∨x∈f.pl
 ·have hR:eD g f x=false:=if_pos hx
  (refine Spec.hd (C:=T.cfg [] []) (rs:= [.t 4]) (T.aj _ _) Tryz.func123 rfl rfl Tryz.ntmps123 Tryz.results123 (by simp [AObj.isNest]) (by simp [AObj.isNest]) (by kernel_rfl) T.mixed fun X hX hP hC aP bV=> ?_)
  by_cases h1:x<0
  ·have hb1:decide (x<0)=true:=decide_eq_true h1
   repeat' (first|refine Rn.p ?_|(with_reducible apply And.intro)|((first|(refine hK _ ?_;clear hK K)|with_reducible intro K hK|refine Rs.p ?_|((with_reducible first|apply oP|apply oQ);exact rfl)|refine aa hX hC hP (kT g hm x) rfl rfl rfl (by simp only [go_sem,simprocAttr,aB,hR,hb1]) rfl ?_|refine aa hX hC hP (bn f.pl x hp) rfl rfl rfl (by simp only [go_sem,simprocAttr,aB,hR,hb1]) rfl ?_|refine aa hX hC hP (eR [vw g,sI f.pl] f.row x hr) rfl rfl rfl (by simp only [go_sem,simprocAttr,aB,hR,hb1]) rfl ?_|refine aa hX hC hP (gQ [vw g,sI f.pl] f.row x a b hab tO hr) rfl rfl rfl (by simp only [go_sem,simprocAttr,aB,hR,hb1]) rfl ?_);try simp only [go_sem,simprocAttr,aB,hR,hb1])|((with_reducible refine oD ?_ ?_);kernel_rfl)|((with_reducible intro h);try simp only [go_sem,simprocAttr,aB,hR,hb1] at h)|omega|intro h)
  have hb1:decide (x<0)=false:=decide_eq_false h1
  by_cases h2:g.n≤x
  ·have hb2:decide (g.n≤x)=true:=decide_eq_true h2
   repeat' (first|refine Rn.p ?_|(with_reducible apply And.intro)|((first|(refine hK _ ?_;clear hK K)|with_reducible intro K hK|refine Rs.p ?_|((with_reducible first|apply oP|apply oQ);exact rfl)|refine aa hX hC hP (kT g hm x) rfl rfl rfl (by simp only [go_sem,simprocAttr,aB,hR,hb1,hb2]) rfl ?_|refine aa hX hC hP (bn f.pl x hp) rfl rfl rfl (by simp only [go_sem,simprocAttr,aB,hR,hb1,hb2]) rfl ?_|refine aa hX hC hP (eR [vw g,sI f.pl] f.row x hr) rfl rfl rfl (by simp only [go_sem,simprocAttr,aB,hR,hb1,hb2]) rfl ?_|refine aa hX hC hP (gQ [vw g,sI f.pl] f.row x a b hab tO hr) rfl rfl rfl (by simp only [go_sem,simprocAttr,aB,hR,hb1,hb2]) rfl ?_);try simp only [go_sem,simprocAttr,aB,hR,hb1,hb2])|((with_reducible refine oD ?_ ?_);kernel_rfl)|((with_reducible intro h);try simp only [go_sem,simprocAttr,aB,hR,hb1,hb2] at h)|omega|intro h)
  have hb2:decide (g.n≤x)=false:=decide_eq_false h2
  have h3:x∈f.pl:=by rcases hx with h|h|h;exact absurd h h1;exact absurd h h2;exact h
  have hb3:decide (x∈f.pl)=true:=decide_eq_true h3
  repeat' (first|refine Rn.p ?_|(with_reducible apply And.intro)|((first|(refine hK _ ?_;clear hK K)|with_reducible intro K hK|refine Rs.p ?_|((with_reducible first|apply oP|apply oQ);exact rfl)|refine aa hX hC hP (kT g hm x) rfl rfl rfl (by simp only [go_sem,simprocAttr,aB,hR,hb1,hb2,hb3]) rfl ?_|refine aa hX hC hP (bn f.pl x hp) rfl rfl rfl (by simp only [go_sem,simprocAttr,aB,hR,hb1,hb2,hb3]) rfl ?_|refine aa hX hC hP (eR [vw g,sI f.pl] f.row x hr) rfl rfl rfl (by simp only [go_sem,simprocAttr,aB,hR,hb1,hb2,hb3]) rfl ?_|refine aa hX hC hP (gQ [vw g,sI f.pl] f.row x a b hab tO hr) rfl rfl rfl (by simp only [go_sem,simprocAttr,aB,hR,hb1,hb2,hb3]) rfl ?_);try simp only [go_sem,simprocAttr,aB,hR,hb1,hb2,hb3])|((with_reducible refine oD ?_ ?_);kernel_rfl)|((with_reducible intro h);try simp only [go_sem,simprocAttr,aB,hR,hb1,hb2,hb3] at h)|omega|intro h)
 ·have hb1:decide (x<0)=false:=decide_eq_false fun h=>hx (.inl h)
  have hb2:decide (g.n≤x)=false:=decide_eq_false fun h=>hx (.inr (.inl h))
  have hb3:decide (x∈f.pl)=false:=decide_eq_false fun h=>hx (.inr (.inr h))
  have hR:eD g f x=(decide ((bw f.row x).2.2=((bB (·.2) g x).length:Int))&&(decide ((bB (·.2) g x).length=0)||s5 f.row x (bw f.row x).1.toNat (bw f.row x).2.1.toNat)):=if_neg hx
  by_cases h4:(bw f.row x).2.2=((bB (·.2) g x).length:Int)
  ·have hb4:decide ((bw f.row x).2.2=((bB (·.2) g x).length:Int))=true:=decide_eq_true h4
   by_cases h5:(bB (·.2) g x).length=0
   ·have Fk:decide (((bB (·.2) g x).length:Int)=0)=true:=decide_eq_true (by omega)
    rw [hb4,decide_eq_true h5] at hR
    (refine Spec.hd (C:=T.cfg [] []) (rs:= [.t 4]) (T.aj _ _) Tryz.func123 rfl rfl Tryz.ntmps123 Tryz.results123 (by simp [AObj.isNest]) (by simp [AObj.isNest]) (by kernel_rfl) T.mixed fun X hX hP hC aP bV=> ?_)
    repeat' (first|refine Rn.p ?_|(with_reducible apply And.intro)|((first|(refine hK _ ?_;clear hK K)|with_reducible intro K hK|refine Rs.p ?_|((with_reducible first|apply oP|apply oQ);exact rfl)|refine aa hX hC hP (kT g hm x) rfl rfl rfl (by simp only [go_sem,simprocAttr,aB,hR,hb1,hb2,hb3,hb4,Fk]) rfl ?_|refine aa hX hC hP (bn f.pl x hp) rfl rfl rfl (by simp only [go_sem,simprocAttr,aB,hR,hb1,hb2,hb3,hb4,Fk]) rfl ?_|refine aa hX hC hP (eR [vw g,sI f.pl] f.row x hr) rfl rfl rfl (by simp only [go_sem,simprocAttr,aB,hR,hb1,hb2,hb3,hb4,Fk]) rfl ?_|refine aa hX hC hP (gQ [vw g,sI f.pl] f.row x a b hab tO hr) rfl rfl rfl (by simp only [go_sem,simprocAttr,aB,hR,hb1,hb2,hb3,hb4,Fk]) rfl ?_);try simp only [go_sem,simprocAttr,aB,hR,hb1,hb2,hb3,hb4,Fk])|((with_reducible refine oD ?_ ?_);kernel_rfl)|((with_reducible intro h);try simp only [go_sem,simprocAttr,aB,hR,hb1,hb2,hb3,hb4,Fk] at h)|omega|intro h)
   ·have Fk:decide (((bB (·.2) g x).length:Int)=0)=false:=decide_eq_false (by omega)
    rcases fq (row:=f.row) (x:=x) f.row.length with ⟨h6,_⟩|⟨a,b,c,h6,hab,tO,_⟩
    ·exfalso
     have:(bw f.row x).2.2=0:=by unfold bw;rw [h6]
     omega
    ·have hsp:bw f.row x=((a:Int),(b:Int),(c:Int)):=h6
     have hab:a≤b:=by omega
     rw [hb4,decide_eq_false h5,hsp] at hR
     simp only [Bool.true_and,Bool.false_or,Int.toNat_natCast] at hR
     rw [hsp] at hb4
     (refine Spec.hd (C:=T.cfg [] []) (rs:= [.t 4]) (T.aj _ _) Tryz.func123 rfl rfl Tryz.ntmps123 Tryz.results123 (by simp [AObj.isNest]) (by simp [AObj.isNest]) (by kernel_rfl) T.mixed fun X hX hP hC aP bV=> ?_)
     repeat' (first|refine Rn.p ?_|(with_reducible apply And.intro)|((first|(refine hK _ ?_;clear hK K)|with_reducible intro K hK|refine Rs.p ?_|((with_reducible first|apply oP|apply oQ);exact rfl)|refine aa hX hC hP (kT g hm x) rfl rfl rfl (by simp only [go_sem,simprocAttr,aB,hR,hb1,hb2,hb3,hb4,Fk,hsp]) rfl ?_|refine aa hX hC hP (bn f.pl x hp) rfl rfl rfl (by simp only [go_sem,simprocAttr,aB,hR,hb1,hb2,hb3,hb4,Fk,hsp]) rfl ?_|refine aa hX hC hP (eR [vw g,sI f.pl] f.row x hr) rfl rfl rfl (by simp only [go_sem,simprocAttr,aB,hR,hb1,hb2,hb3,hb4,Fk,hsp]) rfl ?_|refine aa hX hC hP (gQ [vw g,sI f.pl] f.row x a b hab tO hr) rfl rfl rfl (by simp only [go_sem,simprocAttr,aB,hR,hb1,hb2,hb3,hb4,Fk,hsp]) rfl ?_);try simp only [go_sem,simprocAttr,aB,hR,hb1,hb2,hb3,hb4,Fk,hsp])|((with_reducible refine oD ?_ ?_);kernel_rfl)|((with_reducible intro h);try simp only [go_sem,simprocAttr,aB,hR,hb1,hb2,hb3,hb4,Fk,hsp] at h)|omega|intro h)
  ·have hb4:decide ((bw f.row x).2.2=((bB (·.2) g x).length:Int))=false:=decide_eq_false h4
   rw [hb4,Bool.false_and] at hR
   (refine Spec.hd (C:=T.cfg [] []) (rs:= [.t 4]) (T.aj _ _) Tryz.func123 rfl rfl Tryz.ntmps123 Tryz.results123 (by simp [AObj.isNest]) (by simp [AObj.isNest]) (by kernel_rfl) T.mixed fun X hX hP hC aP bV=> ?_)
   repeat' (first|refine Rn.p ?_|(with_reducible apply And.intro)|((first|(refine hK _ ?_;clear hK K)|with_reducible intro K hK|refine Rs.p ?_|((with_reducible first|apply oP|apply oQ);exact rfl)|refine aa hX hC hP (kT g hm x) rfl rfl rfl (by simp only [go_sem,simprocAttr,aB,hR,hb1,hb2,hb3,hb4]) rfl ?_|refine aa hX hC hP (bn f.pl x hp) rfl rfl rfl (by simp only [go_sem,simprocAttr,aB,hR,hb1,hb2,hb3,hb4]) rfl ?_|refine aa hX hC hP (eR [vw g,sI f.pl] f.row x hr) rfl rfl rfl (by simp only [go_sem,simprocAttr,aB,hR,hb1,hb2,hb3,hb4]) rfl ?_|refine aa hX hC hP (gQ [vw g,sI f.pl] f.row x a b hab tO hr) rfl rfl rfl (by simp only [go_sem,simprocAttr,aB,hR,hb1,hb2,hb3,hb4]) rfl ?_);try simp only [go_sem,simprocAttr,aB,hR,hb1,hb2,hb3,hb4])|((with_reducible refine oD ?_ ?_);kernel_rfl)|((with_reducible intro h);try simp only [go_sem,simprocAttr,aB,hR,hb1,hb2,hb3,hb4] at h)|omega|intro h)
theorem Fl (ds:List D) (row:List It) (hr:row.length≤1000000):Spec Tryz.prog 84 (Args [.d (.pt (sT row::ds))]) [] (.ref 10000) [(10000, .tip 100 3 (row.map rT))]:=by
 (refine Spec.vf (C:=T.cfg [] []) (rs:= [.t 2]) [(10000,7)] (T.aj _ _) Tryz.func84 rfl rfl Tryz.ntmps84 Tryz.results84 (by simp [AObj.isNest]) (by simp [AObj.isNest]) (by first|(simp [look];done)|(simp [asN];done)|(intro l hl;simp only [asN];repeat (rw [if_neg (fun e=>by subst e;simp [look] at hl)]))) (by first|(simp [look];done)|(simp [asN];done)|(intro l hl;simp only [asN];repeat (rw [if_neg (fun e=>by subst e;simp [look] at hl)]))) (by kernel_rfl) T.mixed fun X hX hP hC aP bV=> ?_)
 repeat' (first|refine Rn.p ?_|(with_reducible apply And.intro)|((first|(refine hK _ ?_;clear hK K)|with_reducible intro K hK|refine Rs.p ?_|((with_reducible first|apply oP|apply oQ);exact rfl)|(refine au hX hC hP [(10000,7)] (sZ row hr) rfl rfl rfl ?_ ?_ ?_ ?_ ?_ ?_ ?_ ?_ ?_ ?_ ?_ ?_ ?_ ?_;(focus (simp only [go_sem,simprocAttr];done));(iterate 12 (focus (simp [go_sem,simprocAttr];done)));try simp only [List.map_cons,List.map_nil]));try simp only [go_sem,simprocAttr])|((with_reducible refine oD ?_ ?_);kernel_rfl)|((with_reducible intro h);try simp only [go_sem,simprocAttr] at h)|omega|intro h)
end Go.Ab
end
section
namespace Go.Ab
open Go.Proofs
attribute [local congr] ACall.congr gd.congr Nx.congr
set_option maxRecDepth 10000
set_option maxHeartbeats 2000000
theorem cG (l:List Int):Spec Tryz.prog 121 (Args [.d (sI l)]) [] (.fn 171 [] [.ptr 10000 0]) [(10000, .box [.d (sI l)])]:=by
 (refine Spec.vf (C:=T.cfg [] []) (rs:= [.t 2]) [(10000,1)] (T.aj _ _) Tryz.func121 rfl rfl Tryz.ntmps121 Tryz.results121 (by simp [AObj.isNest]) (by simp [AObj.isNest]) (by first|(simp [look];done)|(simp [asN];done)|(intro l hl;simp only [asN];repeat (rw [if_neg (fun e=>by subst e;simp [look] at hl)]))) (by first|(simp [look];done)|(simp [asN];done)|(intro l hl;simp only [asN];repeat (rw [if_neg (fun e=>by subst e;simp [look] at hl)]))) (by kernel_rfl) T.mixed fun X hX hP hC aP bV=> ?_)
 repeat' (first|refine Rn.p ?_|(with_reducible apply And.intro)|((first|(refine hK _ ?_;clear hK K)|with_reducible intro K hK|refine Rs.p ?_|((with_reducible first|apply oP|apply oQ);exact rfl));try simp only [go_sem,simprocAttr])|((with_reducible refine oD ?_ ?_);kernel_rfl)|((with_reducible intro h);try simp only [go_sem,simprocAttr] at h)|omega|intro h)
theorem fV (xs ys:List Int) (hlen:xs.length≤9223372036854775807):Spec Tryz.prog 122 (Args [.d (sI xs), .d (sI ys)]) [] (eB (decide (xs=ys))) []:=by
 (refine Spec.hd (C:=T.cfg [] []) (rs:= [.t 4]) (T.aj _ _) Tryz.func122 rfl rfl Tryz.ntmps122 Tryz.results122 (by simp [AObj.isNest]) (by simp [AObj.isNest]) (by kernel_rfl) T.mixed fun X hX hP hC aP bV=> ?_)
 repeat' (first|refine Rn.p ?_|(with_reducible apply And.intro)|((first|(refine hK _ ?_;clear hK K)|with_reducible intro K hK|refine Rs.p ?_|((with_reducible first|apply oP|apply oQ);exact rfl));try simp only [go_sem,simprocAttr])|((with_reducible refine oD ?_ ?_);kernel_rfl)|((with_reducible intro h);try simp only [go_sem,simprocAttr] at h)|omega|intro h)
 ·have:xs≠ys:=fun e=>h (by rw [e])
  simp [this]
 refine ai (fun k:Nat=>k≤xs.length∧xs.take k=ys.take k) (fun k=>⟨[(0, .d (sI xs)),(1, .d (sI ys)),(12,eN xs.length),(13,eN k)], []⟩) (fun k=>xs.length - k) 0 (by simp) ?_ ?_
 ·(refine ⟨c7 ?_,fun _ _ h=>h⟩;simp [go_sem,simprocAttr])
 rintro k ⟨hk,hp⟩
 have EA:xs.length=ys.length:=by omega
 repeat' (first|refine Rn.p ?_|(with_reducible apply And.intro)|((first|(refine hK _ ?_;clear hK K)|with_reducible intro K hK|refine Rs.p ?_|((with_reducible first|apply oP|apply oQ);exact rfl));try simp only [go_sem,simprocAttr])|((with_reducible refine oD ?_ ?_);kernel_rfl)|((with_reducible intro h);try simp only [go_sem,simprocAttr] at h)|omega|intro h)
 ·have:xs≠ys:=fun e=>h (by rw [e])
  simp [this]
 ·refine ⟨k+1,⟨by omega,ES 0 (by omega) (by omega) hp h⟩, ?_,by omega⟩
  (refine ⟨c7 ?_,fun _ _ h=>h⟩;simp [go_sem,simprocAttr])
 ·have:k=xs.length:=by omega
  subst this
  rw [List.take_of_length_le (Nat.le_refl _),List.take_of_length_le (by omega)] at hp
  simp [hp]
def fc (g:Gr) (x:Int) (i:Int):It:=(i,x,(g.es.getD i.toNat (0,0)).2)
def aL (g:Gr) (x:Int) (outs:List Int):List It:=if outs= [] then [(-1,x, -1)] else outs.map (fc g x)
theorem vQ {α β:Type} {f:α→β} {l:List α} {d:α} {k:Nat} (h:k<l.length):(l.take (k+1)).map f=(l.take k).map f++ [f (l.getD k d)]:=by
 rw [List.take_add_one,List.map_append,List.getElem?_eq_getElem h,List.getD_eq_getElem?_getD,List.getElem?_eq_getElem h]
 rfl
theorem CK (g:Gr) (f:Fr) (x:Int) (outs:List Int) (hl:outs.length≤1000000) (ho:∀i∈outs,0≤i∧i<g.es.length):Spec Tryz.prog 126 (Args [.d (gB g f),eN x, .d (sI outs)]) [] (.ref 10000) [(10000, .tip 100 3 ((aL g x outs).map rT))]:=by
 unfold gB
 by_cases h0:outs= []
 ·subst h0
  have hA:aL g x []= [(-1,x, -1)]:=if_pos rfl
  rw [hA]
  (refine Spec.vf (C:=T.cfg [] []) (rs:= [.t 6]) [(10000,14)] (T.aj _ _) Tryz.func126 rfl rfl Tryz.ntmps126 Tryz.results126 (by simp [AObj.isNest]) (by simp [AObj.isNest]) (by first|(simp [look];done)|(simp [asN];done)|(intro l hl;simp only [asN];repeat (rw [if_neg (fun e=>by subst e;simp [look] at hl)]))) (by first|(simp [look];done)|(simp [asN];done)|(intro l hl;simp only [asN];repeat (rw [if_neg (fun e=>by subst e;simp [look] at hl)]))) (by kernel_rfl) T.mixed fun X hX hP hC aP bV=> ?_)
  repeat' (first|refine Rn.p ?_|(with_reducible apply And.intro)|((first|(refine hK _ ?_;clear hK K)|with_reducible intro K hK|refine Rs.p ?_|((with_reducible first|apply oP|apply oQ);exact rfl));try simp only [go_sem,simprocAttr,aB])|((with_reducible refine oD ?_ ?_);kernel_rfl)|((with_reducible intro h);try simp only [go_sem,simprocAttr,aB] at h)|omega|intro h)
 ·have hA:aL g x outs=outs.map (fc g x):=if_neg h0
  rw [hA]
  have hb0:decide ((outs.length:Int)=0)=false:=decide_eq_false fun h=>h0 (List.eq_nil_of_length_eq_zero (by omega))
  (refine Spec.vf (C:=T.cfg [] []) (rs:= [.t 6]) [(10000,38)] (T.aj _ _) Tryz.func126 rfl rfl Tryz.ntmps126 Tryz.results126 (by simp [AObj.isNest]) (by simp [AObj.isNest]) (by first|(simp [look];done)|(simp [asN];done)|(intro l hl;simp only [asN];repeat (rw [if_neg (fun e=>by subst e;simp [look] at hl)]))) (by first|(simp [look];done)|(simp [asN];done)|(intro l hl;simp only [asN];repeat (rw [if_neg (fun e=>by subst e;simp [look] at hl)]))) (by kernel_rfl) T.mixed fun X hX hP hC aP bV=> ?_)
  repeat' (first|refine Rn.p ?_|(with_reducible apply And.intro)|((first|(refine hK _ ?_;clear hK K)|with_reducible intro K hK|refine Rs.p ?_|((with_reducible first|apply oP|apply oQ);exact rfl));try simp only [go_sem,simprocAttr,aB,hb0])|((with_reducible refine oD ?_ ?_);kernel_rfl)|((with_reducible intro h);try simp only [go_sem,simprocAttr,aB,hb0] at h)|omega|intro h)
  (refine dU hX 6 38 (.tip 100 3 []) (by simp only [go_sem,simprocAttr,aB,hb0]) (by simp only [go_sem,simprocAttr,aB,hb0]) (by decide) ⟨100,3,by decide, .inr rfl⟩ ?_;simp only [go_sem,simprocAttr,aB,hb0])
  refine ai (fun k:Nat=>k≤outs.length) (fun k=>⟨[(0, .d (gB g f)),(1,eN x),(15, .d (sI outs)),(16,eN outs.length),(17,eN k),(6, .ref 38)], [(38, .tip 100 3 (((outs.take k).map (fc g x)).map rT))]⟩) (fun k=>outs.length - k) 0 (by omega) ?_ ?_
  ·refine Le.of ?_ ?_<;>simp [go_sem,simprocAttr,aB,hb0,gB]
  unfold gB
  rintro k hk
  rcases Nat.lt_or_ge k outs.length with hlt|hge
  ·have hb:decide ((k:Int)<(outs.length:Int))=true:=decide_eq_true (by omega)
   have cE:=vQ (f:=fc g x) (d:=0) hlt
   have PB:=ho _ (aQ (d:=0) hlt)
   have hlk:(outs.take k).length=k:=by simp;omega
   repeat' (first|refine Rn.p ?_|(with_reducible apply And.intro)|((first|(refine hK _ ?_;clear hK K)|with_reducible intro K hK|refine Rs.p ?_|((with_reducible first|apply oP|apply oQ);exact rfl));try simp only [go_sem,simprocAttr,aB,hb,hlk])|((with_reducible refine oD ?_ ?_);kernel_rfl)|((with_reducible intro h);try simp only [go_sem,simprocAttr,aB,hb,hlk] at h)|omega|intro h)
   refine ⟨k+1,by omega, ?_,by omega⟩
   refine Le.of ?_ ?_<;>simp [go_sem,simprocAttr,aB,hb,hlk,cE,fc]
  ·have hb:decide ((k:Int)<(outs.length:Int))=false:=decide_eq_false (by omega)
   obtain rfl:k=outs.length:=by omega
   have ht:outs.take outs.length=outs:=List.take_of_length_le (by omega)
   repeat' (first|refine Rn.p ?_|(with_reducible apply And.intro)|((first|(refine hK _ ?_;clear hK K)|with_reducible intro K hK|refine Rs.p ?_|((with_reducible first|apply oP|apply oQ);exact rfl));try simp only [go_sem,simprocAttr,aB,hb,ht])|((with_reducible refine oD ?_ ?_);kernel_rfl)|((with_reducible intro h);try simp only [go_sem,simprocAttr,aB,hb,ht] at h)|omega|intro h)
def jR (g:Gr) (f:Fr):List (Nat × AObj):= [(10000, .box [.d (sT f.row), .d (vw g), .ref 10001]),(10001, .tip 3 1 (f.pl.map rI))]
theorem zL (row items:List It) (a b:Nat) (h0:0<items.length) (hr:row.length≤400000) (hi:items.length≤100000):Spec Tryz.prog 174 (Args [.d (.sl 1 [[.sl 3 (List.take a (row.map rT))], [.sl 3 (items.map rT)], [.sl 3 (List.drop b (row.map rT))]])]) [] (.d (sT (row.take a++items++row.drop b))) []:=by
 have hf: [row.take a,items,row.drop b].flatten=row.take a++items++row.drop b:=by simp
 have hlen: [row.take a,items,row.drop b].flatten.length=min a row.length+items.length+(row.length - b):=by simp;omega
 have:=zK [row.take a,items,row.drop b] (by simp) (by omega) (by omega)
 rw [hf] at this
 simpa only [vT,List.map_cons,List.map_nil,sT,List.map_take,List.map_drop] using this
theorem Fm (g:Gr) (row items:List It) (pl:List Int) (a b:Nat) (hab:a≤b) (hb:b≤row.length) (h0:0<items.length) (hr:row.length≤400000) (hi:items.length≤100000):
 Spec Tryz.prog 125 (Args [.ptr 10000 0,eN a,eN b, .ref 10003]) (jR g ⟨row,pl⟩++ [(10003, .tip 100 3 (items.map rT))]) (.d (sT ((row.take b).drop a))) (jR g ⟨row.take a++items++row.drop b,pl⟩):=by
 have hcl:((row.take b).drop a).length≤1000000:=by simp;omega
 have zM:List.take row.length (row.map rT)=row.map rT:=List.take_of_length_le (by simp)
 unfold jR
 simp only [List.cons_append,List.nil_append]
 (refine Spec.hd (C:=T.cfg [] []) (rs:= [.t 8]) (T.aj _ _) Tryz.func125 rfl rfl Tryz.ntmps125 Tryz.results125 (by simp [AObj.isNest]) (by simp [AObj.isNest]) (by kernel_rfl) T.mixed fun X hX hP hC aP bV=> ?_)
 repeat' (first|refine Rn.p ?_|(with_reducible apply And.intro)|((first|(refine hK _ ?_;clear hK K)|with_reducible intro K hK|refine Rs.p ?_|((with_reducible first|apply oP|apply oQ);exact rfl)|(refine au hX hC hP [(10000,17)] (sZ ((row.take b).drop a) hcl) rfl rfl rfl ?_ ?_ ?_ ?_ ?_ ?_ ?_ ?_ ?_ ?_ ?_ ?_ ?_ ?_;(focus (simp only [go_sem,simprocAttr,List.map_take,List.map_drop,zM];done));(iterate 12 (focus (simp [go_sem,simprocAttr,List.map_take,List.map_drop,zM];done)));try simp only [List.map_cons,List.map_nil])|(refine cJ hX hC hP (zL row items a b h0 hr hi) rfl rfl rfl ?_ ?_ rfl ?_;iterate 2 (focus (simp only [go_sem,simprocAttr,List.map_take,List.map_drop,zM];done))));try simp only [go_sem,simprocAttr,List.map_take,List.map_drop,zM])|((with_reducible refine oD ?_ ?_);kernel_rfl)|((with_reducible intro h);try simp only [go_sem,simprocAttr,List.map_take,List.map_drop,zM] at h)|omega|intro h)
end Go.Ab
end
section
namespace Go.Ab
open Go.Proofs
attribute [local congr] ACall.congr gd.congr Nx.congr
set_option maxRecDepth 10000
set_option maxHeartbeats 4000000
def ry (g:Gr) (f:Fr):List (Nat × AObj):= [(10000, .box [.d (sT f.row), .d (vw g), .ref 10002]),(10002, .tip 3 1 (f.pl.map rI))]
def kr (g:Gr) (f:Fr) (x:Int) (outs:List Int):(List It × Int) × Fr:=
 if eD g f x=false then (([],3),f) else if iO outs≠bB (·.1) g x then (([],1),f) else
 (((f.row.take (bw f.row x).2.1.toNat).drop (max (bw f.row x).1 0).toNat,0),⟨f.row.take (max (bw f.row x).1 0).toNat++aL g x outs++f.row.drop (bw f.row x).2.1.toNat,f.pl++ [x]⟩)
theorem jl {f:Edge→Int} {es:List Edge} {k:Nat} {x i:Int} (h:i∈aK f es k x):(0≤i∧i<k)∧f (es.getD i.toNat (0,0))=x:=by
 simp only [aK,List.mem_map,List.mem_filter,List.mem_range,decide_eq_true_eq] at h
 obtain ⟨j,⟨h1,h2⟩,rfl⟩:=h
 exact ⟨⟨Int.natCast_nonneg j,by simp;omega⟩,h2⟩
theorem CL {f:Edge→Int} {g:Gr} {x i:Int} (h:i∈bB f g x):(0≤i∧i<g.es.length)∧f (g.es.getD i.toNat (0,0))=x:=by
 unfold bB at h
 split at h
 ·exact jl h
 ·cases h
theorem Bg {l:List Int} {x:Int} :x∈iO l↔x∈l:=by simp [iO]
theorem x6 (row:List It) (x:Int):∃a b:Nat,max (bw row x).1 0=(a:Int)∧(bw row x).2.1=(b:Int)∧a≤b∧b≤row.length:=by
 rcases fq (row:=row) (x:=x) row.length with ⟨h,_⟩|⟨a,b,c,h,h1,h2,_⟩
 ·exact ⟨0,0,by unfold bw;rw [h];rfl,by unfold bw;rw [h];rfl,by omega,by omega⟩
 ·exact ⟨a,b,by unfold bw;rw [h];simp only;omega,by unfold bw;rw [h],by omega,by omega⟩
theorem pI {g:Gr} {x:Int} {outs:List Int} :0<(aL g x outs).length∧(aL g x outs).length≤outs.length+1:=by
 unfold aL
 split
 ·simp
 ·rename_i h
  have:=List.length_pos_iff.2 h
  simp;omega
theorem CM (g:Gr) (hm:aG g=true) (f:Fr) (x:Int) (outs:List Int) (hr:f.row.length≤300000) (hp:f.pl.length≤100000) (ho:outs.length≤17592186043904):
 Spec Tryz.prog 83 (Args [.ptr 10000 0,eN x, .d (sI outs)]) (jR g f) (.tup [.d (sT (kr g f x outs).1.1),eN (kr g f x outs).1.2]) (ry g (kr g f x outs).2):=by
 have pV:f.row.length≤1000000:=by omega
 have hp1:f.pl.length≤1000000:=by omega
 have hs:(iO outs).length≤9223372036854775807:=by rw [fC];omega
 have hn:=aA hm
 cases hR:eD g f x with
 |false=>
  have hP:kr g f x outs=(([],3),f):=if_pos hR
  rw [hP]
  unfold jR ry
  (refine Spec.vf (C:=T.cfg [] []) (rs:= [.t 6, .t 7]) [(10002,10001)] (T.aj _ _) Tryz.func83 rfl rfl Tryz.ntmps83 Tryz.results83 (by simp [AObj.isNest]) (by simp [AObj.isNest]) (by first|(simp [look];done)|(simp [asN];done)|(intro l hl;simp only [asN];repeat (rw [if_neg (fun e=>by subst e;simp [look] at hl)]))) (by first|(simp [look];done)|(simp [asN];done)|(intro l hl;simp only [asN];repeat (rw [if_neg (fun e=>by subst e;simp [look] at hl)]))) (by kernel_rfl) T.mixed fun X hX hP hC aP bV=> ?_)
  repeat' (first|refine Rn.p ?_|(with_reducible apply And.intro)|((first|(refine hK _ ?_;clear hK K)|with_reducible intro K hK|refine Rs.p ?_|((with_reducible first|apply oP|apply oQ);exact rfl)|(refine ah hX hC hP (gR g hm f x pV hp1) rfl rfl rfl ?_ ?_ ?_ ?_;iterate 3 (focus (simp only [go_sem,simprocAttr,hR,gB];done)))|(refine au hX hC hP [(10000,16)] (cG outs) rfl rfl rfl ?_ ?_ ?_ ?_ ?_ ?_ ?_ ?_ ?_ ?_ ?_ ?_ ?_ ?_;(focus (simp only [go_sem,simprocAttr,hR,gB];done));(iterate 12 (focus (simp [go_sem,simprocAttr,hR,gB];done)));try simp only [List.map_cons,List.map_nil])|(refine bC hX hC hP [(10000,16)] (cg outs ho) rfl rfl rfl ?_ ?_ ?_ ?_ ?_ ?_ rfl rfl ?_ ?_;(focus (simp only [go_sem,simprocAttr,hR,gB];done));(iterate 6 (focus (simp [go_sem,simprocAttr,hR,gB];done)));try simp only [List.map_cons,List.map_nil])|refine aa hX hC hP (jk g hm x) rfl rfl rfl (by simp only [go_sem,simprocAttr,hR,gB]) rfl ?_|refine aa hX hC hP (fV (iO outs) (bB (·.1) g x) hs) rfl rfl rfl (by simp only [go_sem,simprocAttr,hR,gB]) rfl ?_|(refine ah hX hC hP (eR [vw g,sI f.pl] f.row x pV) rfl rfl rfl ?_ ?_ ?_ ?_;iterate 3 (focus (simp only [go_sem,simprocAttr,hR,gB];done))));try simp only [go_sem,simprocAttr,hR,gB])|((with_reducible refine oD ?_ ?_);kernel_rfl)|((with_reducible intro h);try simp only [go_sem,simprocAttr,hR,gB] at h)|omega|intro h)
 |true=>
 have PJ:¬eD g f x=false:=by rw [hR];simp
 by_cases hE:¬iO outs=bB (·.1) g x
 ·have hb1:decide (iO outs=bB (·.1) g x)=false:=decide_eq_false hE
  have hP:kr g f x outs=(([],1),f):=by unfold kr;rw [if_neg PJ,if_pos hE]
  rw [hP]
  unfold jR ry
  (refine Spec.vf (C:=T.cfg [] []) (rs:= [.t 6, .t 7]) [(10002,10001)] (T.aj _ _) Tryz.func83 rfl rfl Tryz.ntmps83 Tryz.results83 (by simp [AObj.isNest]) (by simp [AObj.isNest]) (by first|(simp [look];done)|(simp [asN];done)|(intro l hl;simp only [asN];repeat (rw [if_neg (fun e=>by subst e;simp [look] at hl)]))) (by first|(simp [look];done)|(simp [asN];done)|(intro l hl;simp only [asN];repeat (rw [if_neg (fun e=>by subst e;simp [look] at hl)]))) (by kernel_rfl) T.mixed fun X hX hP hC aP bV=> ?_)
  repeat' (first|refine Rn.p ?_|(with_reducible apply And.intro)|((first|(refine hK _ ?_;clear hK K)|with_reducible intro K hK|refine Rs.p ?_|((with_reducible first|apply oP|apply oQ);exact rfl)|(refine ah hX hC hP (gR g hm f x pV hp1) rfl rfl rfl ?_ ?_ ?_ ?_;iterate 3 (focus (simp only [go_sem,simprocAttr,hR,hb1,gB];done)))|(refine au hX hC hP [(10000,16)] (cG outs) rfl rfl rfl ?_ ?_ ?_ ?_ ?_ ?_ ?_ ?_ ?_ ?_ ?_ ?_ ?_ ?_;(focus (simp only [go_sem,simprocAttr,hR,hb1,gB];done));(iterate 12 (focus (simp [go_sem,simprocAttr,hR,hb1,gB];done)));try simp only [List.map_cons,List.map_nil])|(refine bC hX hC hP [(10000,16)] (cg outs ho) rfl rfl rfl ?_ ?_ ?_ ?_ ?_ ?_ rfl rfl ?_ ?_;(focus (simp only [go_sem,simprocAttr,hR,hb1,gB];done));(iterate 6 (focus (simp [go_sem,simprocAttr,hR,hb1,gB];done)));try simp only [List.map_cons,List.map_nil])|refine aa hX hC hP (jk g hm x) rfl rfl rfl (by simp only [go_sem,simprocAttr,hR,hb1,gB]) rfl ?_|refine aa hX hC hP (fV (iO outs) (bB (·.1) g x) hs) rfl rfl rfl (by simp only [go_sem,simprocAttr,hR,hb1,gB]) rfl ?_|(refine ah hX hC hP (eR [vw g,sI f.pl] f.row x pV) rfl rfl rfl ?_ ?_ ?_ ?_;iterate 3 (focus (simp only [go_sem,simprocAttr,hR,hb1,gB];done))));try simp only [go_sem,simprocAttr,hR,hb1,gB])|((with_reducible refine oD ?_ ?_);kernel_rfl)|((with_reducible intro h);try simp only [go_sem,simprocAttr,hR,hb1,gB] at h)|omega|intro h)
 rw [Decidable.not_not] at hE
 have hb1:decide (iO outs=bB (·.1) g x)=true:=decide_eq_true hE
 have hP:kr g f x outs=(((f.row.take (bw f.row x).2.1.toNat).drop (max (bw f.row x).1 0).toNat,0),⟨f.row.take (max (bw f.row x).1 0).toNat++aL g x outs++f.row.drop (bw f.row x).2.1.toNat,f.pl++ [x]⟩):=by
  unfold kr;rw [if_neg PJ,if_neg (by rw [hE];simp)]
 rw [hP]
 obtain ⟨a,b,ha,hb,hab,tO⟩:=x6 f.row x
 rw [ha,hb]
 simp only [Int.toNat_natCast]
 have tQ:outs.length≤128:=by
  have h1:=congrArg List.length hE
  rw [fC] at h1
  have h2:=CJ (f:=(·.1)) (g:=g) (x:=x)
  omega
 have Mb:∀i∈outs,0≤i∧i<g.es.length:=fun i hi=>(CL (f:=(·.1)) (g:=g) (x:=x) (by rw [← hE];exact Bg.2 hi)).1
 obtain ⟨h0,h1⟩:=pI (g:=g) (x:=x) (outs:=outs)
 have xQ:(aL g x outs).length≤100000:=by omega
 have sS:f.row.length≤400000:=by omega
 have Rw:outs.length≤1000000:=by omega
 unfold jR ry
 (refine Spec.vf (C:=T.cfg [] []) (rs:= [.t 6, .t 7]) [(10002,42)] (T.aj _ _) Tryz.func83 rfl rfl Tryz.ntmps83 Tryz.results83 (by simp [AObj.isNest]) (by simp [AObj.isNest]) (by first|(simp [look];done)|(simp [asN];done)|(intro l hl;simp only [asN];repeat (rw [if_neg (fun e=>by subst e;simp [look] at hl)]))) (by first|(simp [look];done)|(simp [asN];done)|(intro l hl;simp only [asN];repeat (rw [if_neg (fun e=>by subst e;simp [look] at hl)]))) (by kernel_rfl) T.mixed fun X hX hP hC aP bV=> ?_)
 repeat' (first|refine Rn.p ?_|(with_reducible apply And.intro)|((first|(refine hK _ ?_;clear hK K)|with_reducible intro K hK|refine Rs.p ?_|((with_reducible first|apply oP|apply oQ);exact rfl)|(refine ah hX hC hP (gR g hm f x pV hp1) rfl rfl rfl ?_ ?_ ?_ ?_;iterate 3 (focus (simp only [go_sem,simprocAttr,hR,hb1,ha,hb,gB,List.length_map,List.map_append,List.map_cons,List.map_nil,rI,jR,List.cons_append,List.nil_append,List.map_take,List.map_drop];done)))|(refine au hX hC hP [(10000,16)] (cG outs) rfl rfl rfl ?_ ?_ ?_ ?_ ?_ ?_ ?_ ?_ ?_ ?_ ?_ ?_ ?_ ?_;(focus (simp only [go_sem,simprocAttr,hR,hb1,ha,hb,gB,List.length_map,List.map_append,List.map_cons,List.map_nil,rI,jR,List.cons_append,List.nil_append,List.map_take,List.map_drop];done));(iterate 12 (focus (simp [go_sem,simprocAttr,hR,hb1,ha,hb,gB,List.length_map,List.map_append,List.map_cons,List.map_nil,rI,jR,List.cons_append,List.nil_append,List.map_take,List.map_drop];done)));try simp only [List.map_cons,List.map_nil])|(refine bC hX hC hP [(10000,16)] (cg outs ho) rfl rfl rfl ?_ ?_ ?_ ?_ ?_ ?_ rfl rfl ?_ ?_;(focus (simp only [go_sem,simprocAttr,hR,hb1,ha,hb,gB,List.length_map,List.map_append,List.map_cons,List.map_nil,rI,jR,List.cons_append,List.nil_append,List.map_take,List.map_drop];done));(iterate 6 (focus (simp [go_sem,simprocAttr,hR,hb1,ha,hb,gB,List.length_map,List.map_append,List.map_cons,List.map_nil,rI,jR,List.cons_append,List.nil_append,List.map_take,List.map_drop];done)));try simp only [List.map_cons,List.map_nil])|refine aa hX hC hP (jk g hm x) rfl rfl rfl (by simp only [go_sem,simprocAttr,hR,hb1,ha,hb,gB,List.length_map,List.map_append,List.map_cons,List.map_nil,rI,jR,List.cons_append,List.nil_append,List.map_take,List.map_drop]) rfl ?_|refine aa hX hC hP (fV (iO outs) (bB (·.1) g x) hs) rfl rfl rfl (by simp only [go_sem,simprocAttr,hR,hb1,ha,hb,gB,List.length_map,List.map_append,List.map_cons,List.map_nil,rI,jR,List.cons_append,List.nil_append,List.map_take,List.map_drop]) rfl ?_|(refine ah hX hC hP (eR [vw g,sI f.pl] f.row x pV) rfl rfl rfl ?_ ?_ ?_ ?_;iterate 3 (focus (simp only [go_sem,simprocAttr,hR,hb1,ha,hb,gB,List.length_map,List.map_append,List.map_cons,List.map_nil,rI,jR,List.cons_append,List.nil_append,List.map_take,List.map_drop];done)))|(refine mW hX hC hP 54 (CK g ⟨f.row,f.pl++ [x]⟩ x outs Rw Mb) rfl rfl rfl ?_ ?_ (by first|exact ⟨_,_,_,rfl,qx⟩|exact ⟨_,_,_,rfl,qy⟩|exact ⟨_,_,_,rfl,qA⟩) rfl (by decide) ?_;(iterate 2 (focus (simp only [go_sem,simprocAttr,hR,hb1,ha,hb,gB,List.length_map,List.map_append,List.map_cons,List.map_nil,rI,jR,List.cons_append,List.nil_append,List.map_take,List.map_drop];done)));simp only [go_sem,simprocAttr,hR,hb1,ha,hb,gB,List.length_map,List.map_append,List.map_cons,List.map_nil,rI,jR,List.cons_append,List.nil_append,List.map_take,List.map_drop])|(refine au hX hC hP [(10001,42),(10003,54)] (Fm g f.row (aL g x outs) (f.pl++ [x]) a b hab tO h0 sS xQ) rfl rfl rfl ?_ ?_ ?_ ?_ ?_ ?_ ?_ ?_ ?_ ?_ ?_ ?_ ?_ ?_;(focus (simp only [go_sem,simprocAttr,hR,hb1,ha,hb,gB,List.length_map,List.map_append,List.map_cons,List.map_nil,rI,jR,List.cons_append,List.nil_append,List.map_take,List.map_drop];done));(iterate 12 (focus (simp [go_sem,simprocAttr,hR,hb1,ha,hb,gB,List.length_map,List.map_append,List.map_cons,List.map_nil,rI,jR,List.cons_append,List.nil_append,List.map_take,List.map_drop];done)));try simp only [List.map_cons,List.map_nil]));try simp only [go_sem,simprocAttr,hR,hb1,ha,hb,gB,List.length_map,List.map_append,List.map_cons,List.map_nil,rI,jR,List.cons_append,List.nil_append,List.map_take,List.map_drop])|((with_reducible refine oD ?_ ?_);kernel_rfl)|((with_reducible intro h);try simp only [go_sem,simprocAttr,hR,hb1,ha,hb,gB,List.length_map,List.map_append,List.map_cons,List.map_nil,rI,jR,List.cons_append,List.nil_append,List.map_take,List.map_drop] at h)|omega|intro h)
end Go.Ab
end
section
namespace Go.Ab
open Go.Proofs
attribute [local congr] ACall.congr gd.congr Nx.congr
set_option maxRecDepth 10000
set_option maxHeartbeats 4000000
def ku (g:Gr) (f:Fr) (k:Nat):List Int:=((List.range k).filter fun x:Nat=>eD g f (x:Int)).map Int.ofNat
def dY (g:Gr) (f:Fr):List Int:=ku g f g.n.toNat
theorem Bh {g:Gr} {f:Fr} {k:Nat} :ku g f (k+1)=ku g f k++if eD g f (k:Int)=true then [(k:Int)] else []:=by
 simp only [ku,List.range_succ,List.filter_append,List.map_append,List.filter_cons,List.filter_nil]
 split<;>simp_all
theorem vR {g:Gr} {f:Fr} {k:Nat} :(ku g f k).length≤k:=by
 simpa [ku] using List.length_filter_le (fun x:Nat=>eD g f (x:Int)) (List.range k)
theorem Bi (g:Gr) (hm:aG g=true) (f:Fr) (hr:f.row.length≤1000000) (hp:f.pl.length≤1000000):Spec Tryz.prog 113 (Args [.d (gB g f)]) [] (.ref 10000) [(10000, .tip 3 1 ((dY g f).map rI))]:=by
 have hn:=aA hm
 unfold gB
 (refine Spec.vf (C:=T.cfg [] []) (rs:= [.t 2]) [(10000,21)] (T.aj _ _) Tryz.func113 rfl rfl Tryz.ntmps113 Tryz.results113 (by simp [AObj.isNest]) (by simp [AObj.isNest]) (by first|(simp [look];done)|(simp [asN];done)|(intro l hl;simp only [asN];repeat (rw [if_neg (fun e=>by subst e;simp [look] at hl)]))) (by first|(simp [look];done)|(simp [asN];done)|(intro l hl;simp only [asN];repeat (rw [if_neg (fun e=>by subst e;simp [look] at hl)]))) (by kernel_rfl) T.mixed fun X hX hP hC aP bV=> ?_)
 repeat' (first|refine Rn.p ?_|(with_reducible apply And.intro)|((first|(refine hK _ ?_;clear hK K)|with_reducible intro K hK|refine Rs.p ?_|((with_reducible first|apply oP|apply oQ);exact rfl)|refine aa hX hC hP (gR g hm f (k:Int) hr hp) rfl rfl rfl (by simp only [go_sem,simprocAttr,aB]) rfl ?_);try simp only [go_sem,simprocAttr,aB])|((with_reducible refine oD ?_ ?_);kernel_rfl)|((with_reducible intro h);try simp only [go_sem,simprocAttr,aB] at h)|omega|intro h)
 (refine dU hX 2 21 (.tip 3 1 []) (by simp only [go_sem,simprocAttr,aB]) (by simp only [go_sem,simprocAttr,aB]) (by decide) ⟨3,1,by decide, .inr rfl⟩ ?_;simp only [go_sem,simprocAttr,aB])
 refine ai (fun k:Nat=>k≤g.n.toNat) (fun k=>⟨[(0, .d (gB g f)),(11,eN g.n),(12,eN k),(2, .ref 21)], [(21, .tip 3 1 ((ku g f k).map rI))]⟩) (fun k=>g.n.toNat - k) 0 (by omega) ?_ ?_
 ·refine Le.of ?_ ?_<;>simp [go_sem,simprocAttr,aB,gB,ku]
 rintro k hk
 rcases Nat.lt_or_ge k g.n.toNat with hlt|hge
 ·have hb:decide ((k:Int)<g.n)=true:=decide_eq_true (by omega)
  have cE:=Bh (g:=g) (f:=f) (k:=k)
  have hlk:=vR (g:=g) (f:=f) (k:=k)
  repeat' (first|refine Rn.p ?_|(with_reducible apply And.intro)|((first|(refine hK _ ?_;clear hK K)|with_reducible intro K hK|refine Rs.p ?_|((with_reducible first|apply oP|apply oQ);exact rfl)|refine aa hX hC hP (gR g hm f (k:Int) hr hp) rfl rfl rfl (by simp only [go_sem,simprocAttr,hb]) rfl ?_);try simp only [go_sem,simprocAttr,hb])|((with_reducible refine oD ?_ ?_);kernel_rfl)|((with_reducible intro h);try simp only [go_sem,simprocAttr,hb] at h)|omega|intro h)
  ·rw [if_pos (by assumption)] at cE
   refine ⟨k+1,by omega, ?_,by omega⟩
   refine Le.of ?_ ?_<;>simp [go_sem,simprocAttr,hb,cE,rI]
  ·rw [if_neg (by simp [*]),List.append_nil] at cE
   refine ⟨k+1,by omega, ?_,by omega⟩
   refine Le.of ?_ ?_<;>simp [go_sem,simprocAttr,hb,cE,rI]
 ·have hb:decide ((k:Int)<g.n)=false:=decide_eq_false (by omega)
  obtain rfl:k=g.n.toNat:=by omega
  repeat' (first|refine Rn.p ?_|(with_reducible apply And.intro)|((first|(refine hK _ ?_;clear hK K)|with_reducible intro K hK|refine Rs.p ?_|((with_reducible first|apply oP|apply oQ);exact rfl)|refine aa hX hC hP (gR g hm f (k:Int) hr hp) rfl rfl rfl (by simp only [go_sem,simprocAttr,hb,dY]) rfl ?_);try simp only [go_sem,simprocAttr,hb,dY])|((with_reducible refine oD ?_ ?_);kernel_rfl)|((with_reducible intro h);try simp only [go_sem,simprocAttr,hb,dY] at h)|omega|intro h)
theorem rY (g:Gr) (hl:g.es.length≤1000) (h0:(bT g).1=0) (hm:aG g=true):Spec Tryz.prog 81 (Args [eG g]) [] (.tup [.ptr 10000 0,eN 0]) [(10000, .box [.nil 100, .d (vw g), .nil 3])]:=by
 (refine Spec.vf (C:=T.cfg [] []) (rs:= [.t 2, .t 3]) [(10000,11)] (T.aj _ _) Tryz.func81 rfl rfl Tryz.ntmps81 Tryz.results81 (by simp [AObj.isNest]) (by simp [AObj.isNest]) (by first|(simp [look];done)|(simp [asN];done)|(intro l hl;simp only [asN];repeat (rw [if_neg (fun e=>by subst e;simp [look] at hl)]))) (by first|(simp [look];done)|(simp [asN];done)|(intro l hl;simp only [asN];repeat (rw [if_neg (fun e=>by subst e;simp [look] at hl)]))) (by kernel_rfl) T.mixed fun X hX hP hC aP bV=> ?_)
 repeat' (first|refine Rn.p ?_|(with_reducible apply And.intro)|((first|(refine hK _ ?_;clear hK K)|with_reducible intro K hK|refine Rs.p ?_|((with_reducible first|apply oP|apply oQ);exact rfl)|refine aa hX hC hP (l7 g hl) rfl rfl rfl (by simp only [go_sem,simprocAttr,h0]) rfl ?_|refine aa hX hC hP (iT g hm) rfl rfl rfl (by simp only [go_sem,simprocAttr,h0]) rfl ?_);try simp only [go_sem,simprocAttr,h0])|((with_reducible refine oD ?_ ?_);kernel_rfl)|((with_reducible intro h);try simp only [go_sem,simprocAttr,h0] at h)|omega|intro h)
theorem Fo (g:Gr) (hl:g.es.length≤1000) (h0:(bT g).1≠0):Spec Tryz.prog 81 (Args [eG g]) [] (.tup [.d (.sc (.pointer none)),eN 1]) []:=by
 have hb:decide ((bT g).1=0)=false:=decide_eq_false h0
 (refine Spec.hd (C:=T.cfg [] []) (rs:= [.t 2, .t 3]) (T.aj _ _) Tryz.func81 rfl rfl Tryz.ntmps81 Tryz.results81 (by simp [AObj.isNest]) (by simp [AObj.isNest]) (by kernel_rfl) T.mixed fun X hX hP hC aP bV=> ?_)
 repeat' (first|refine Rn.p ?_|(with_reducible apply And.intro)|((first|(refine hK _ ?_;clear hK K)|with_reducible intro K hK|refine Rs.p ?_|((with_reducible first|apply oP|apply oQ);exact rfl)|refine aa hX hC hP (l7 g hl) rfl rfl rfl (by simp only [go_sem,simprocAttr,hb]) rfl ?_);try simp only [go_sem,simprocAttr,hb])|((with_reducible refine oD ?_ ?_);kernel_rfl)|((with_reducible intro h);try simp only [go_sem,simprocAttr,hb] at h)|omega|intro h)
end Go.Ab
end
section
namespace Go.Ab
open Go.Proofs
attribute [local congr] ACall.congr gd.congr Nx.congr
set_option maxRecDepth 10000
set_option maxHeartbeats 4000000
def Ui (g:Gr) (f:Fr):List AV:= [eN g.n, .d (sE g.es), .d (sT f.row), .d (sI f.pl)]
def iX (row:List It) (x:Int):Nat→Int
 |0=>0
 |k+1=>if (row.getD k (0,0,0)).2.2=x then iX row x k+1 else iX row x k
theorem gS {row:List It} {x:Int} {k:Nat} :iX row x (k+1)=if (row.getD k (0,0,0)).2.2=x then iX row x k+1 else iX row x k:=rfl
def HQ (row:List It) (x:Int) (need:Nat) (j:Nat):Bool:=decide ((row.getD j (0,0,0)).2.2≠x)&&decide (0≤(row.getD j (0,0,0)).1)&&decide (0<iX row x j)&&decide (iX row x j<need)
theorem x7 {row:List It} {x:Int} {need j:Nat} :HQ row x need j=true↔((row.getD j (0,0,0)).2.2≠x∧0≤(row.getD j (0,0,0)).1)∧0<iX row x j∧iX row x j<need:=by
 simp only [HQ,Bool.and_eq_true,decide_eq_true_eq,and_assoc]
def aV (g:Gr) (x:Int):Nat:=(aK (·.2) g.es g.es.length x).length
def az (g:Gr) (f:Fr) (x:Int):Bool:=
 if x<0∨g.n≤x∨x∈f.pl then false else if aV g x=0 then true else
 !(List.range f.row.length).any (HQ f.row x (aV g x))&&decide (iX f.row x f.row.length=aV g x)
end Go.Ab
end
section
namespace Go.Ab
open Go.Proofs
attribute [local congr] ACall.congr gd.congr Nx.congr
set_option maxRecDepth 10000
set_option maxHeartbeats 4000000
end Go.Ab
end
section
namespace Go.Ab
open Go.Proofs
attribute [local congr] ACall.congr gd.congr Nx.congr
set_option maxRecDepth 10000
set_option maxHeartbeats 8000000
def cn (g:Gr) (x:Int):List Int:=aK (·.1) g.es g.es.length x
def aC (g:Gr) (f:Fr) (x:Int) (outs:List Int):(List It × Int) × Fr:=
 (((f.row.take (bw f.row x).2.1.toNat).drop (max (bw f.row x).1 0).toNat,0),⟨f.row.take (max (bw f.row x).1 0).toNat++aL g x outs++f.row.drop (bw f.row x).2.1.toNat,f.pl++ [x]⟩)
def gu (g:Gr) (f:Fr) (x:Int) (outs:List Int):(List It × Int) × Fr:=
 if az g f x=false then (([],3),f) else
 if outs.length≠(cn g x).length∨∃i∈cn g x,i∉outs then (([],1),f) else aC g f x outs
theorem cq {f:Edge→Int} {es:List Edge} {k:Nat} {x:Int} :(aK f es k x).Nodup:=by
 unfold aK
 exact List.Pairwise.map _ (fun a b h e=>h (Int.ofNat.inj e)) (List.Pairwise.filter _ List.nodup_range)
theorem CN:∀ {ms os:List Int},ms.Nodup→(∀i∈ms,i∈os)→os.length=ms.length→∀i∈os,i∈ms
 | [],os,_,_,hl,i,hi=>by
   have:os= []:=List.eq_nil_of_length_eq_zero (by simpa using hl)
   rw [this] at hi;exact hi
 |m::ms,os,hn,hs,hl,i,hi=>by
  rw [List.nodup_cons] at hn
  have hm:=hs m (List.mem_cons_self ..)
  by_cases h:i=m
  ·rw [h];exact List.mem_cons_self ..
  ·refine List.mem_cons_of_mem _ (CN hn.2 (os:=os.erase m) (fun j hj=> ?_) ?_ i ?_)
   ·have:j≠m:=fun e=>hn.1 (e ▸ hj)
    exact (List.mem_erase_of_ne this).2 (hs j (List.mem_cons_of_mem _ hj))
   ·rw [List.length_erase_of_mem hm,hl];simp
   ·exact (List.mem_erase_of_ne h).2 hi
theorem HR {g:Gr} {x:Int} :(cn g x).length≤g.es.length:=jj
end Go.Ab
end
section
namespace Go.Ab
open Go.Proofs
attribute [local congr] ACall.congr gd.congr Nx.congr
set_option maxRecDepth 10000
set_option maxHeartbeats 4000000
def vI (ls:List (List Int)):List (List D):=ls.map fun l=> [sI l]
theorem vI_length {ls:List (List Int)} :(vI ls).length=ls.length:=by simp [vI]
theorem gv {ls:List (List Int)} {k:Nat} (h:k<ls.length) (d:List D):(vI ls).getD k d= [sI (ls.getD k [])]:=by
 simp [vI,List.getD_eq_getElem?_getD,List.getElem?_eq_getElem h]
attribute [go_sem] vI_length
def DG (l:List Int) (i:Nat):List Int:=l.take i++l.drop (i+1)
def J2:Nat→List Int→List (List Int)
 |0,_=> [[]]
 |n+1,l=>(List.range l.length).flatMap fun i=>(J2 n (DG l i)).map fun t=>l.getD i 0::t
def Uj (n:Nat) (l:List Int) (k:Nat):List (List Int):=(List.range k).flatMap fun i=>(J2 n (DG l i)).map fun t=>l.getD i 0::t
def Uk:Nat→Nat
 |0=>1
 |n+1=>(n+1)*Uk n
end Go.Ab
end
section
namespace Go.Ab
open Go.Proofs
attribute [local congr] ACall.congr gd.congr Nx.congr
set_option maxRecDepth 10000
set_option maxHeartbeats 8000000
def OB (g:Gr):Nat→Fr→Bool
 |0,f=>decide ((f.pl.length:Int)=g.n)
 |m+1,f=>decide ((f.pl.length:Int)=g.n)||(List.range g.n.toNat).any fun x=>az g f (x:Int)&&(J2 (cn g (x:Int)).length (cn g (x:Int))).any fun o=>OB g m (aC g f (x:Int) o).2
def Ul (g:Gr) (m:Nat) (f:Fr) (x:Nat):Bool:=az g f (x:Int)&&(J2 (cn g (x:Int)).length (cn g (x:Int))).any fun o=>OB g m (aC g f (x:Int) o).2
theorem x8 {g:Gr} {f:Fr} {x:Int} {o:List Int} :(aC g f x o).2.row.length≤f.row.length+o.length+1∧(aC g f x o).2.pl.length=f.pl.length+1:=by
 obtain ⟨a,b,ha,hb,hab,tO⟩:=x6 f.row x
 have:=pI (g:=g) (x:=x) (outs:=o)
 have e:aC g f x o=(((f.row.take b).drop a,0),⟨f.row.take a++aL g x o++f.row.drop b,f.pl++ [x]⟩):=by
  simp only [aC,ha,hb,Int.toNat_natCast]
 rw [e]
 refine ⟨?_,by simp⟩
 show (f.row.take a++aL g x o++f.row.drop b).length≤_
 rw [List.length_append,List.length_append,List.length_take,List.length_drop]
 omega
end Go.Ab
end
section
namespace Go.Ab
open Go.Proofs
attribute [local congr] ACall.congr gd.congr Nx.congr
set_option maxRecDepth 10000
set_option maxHeartbeats 4000000
theorem vS (g:Gr) (hl:g.es.length≤9223372036854775807) (hm:aG g=false):Spec Tryz.prog 104 (Args [eG g]) [] (.tup [eN (gF g).1,eN (gF g).2.1, .d (sI (gF g).2.2)]) []:=by
 (refine Spec.hd (C:=T.cfg [] []) (rs:= [.t 2, .t 3, .t 4]) (T.aj _ _) Tryz.func104 rfl rfl Tryz.ntmps104 Tryz.results104 (by simp [AObj.isNest]) (by simp [AObj.isNest]) (by kernel_rfl) T.mixed fun X hX hP hC aP bV=> ?_)
 repeat' (first|refine Rn.p ?_|(with_reducible apply And.intro)|((first|(refine hK _ ?_;clear hK K)|with_reducible intro K hK|refine Rs.p ?_|((with_reducible first|apply oP|apply oQ);exact rfl)|refine aa hX hC hP (c9 g hl) rfl rfl rfl (by simp only [go_sem,simprocAttr,hm]) rfl ?_);try simp only [go_sem,simprocAttr,hm])|((with_reducible refine oD ?_ ?_);kernel_rfl)|((with_reducible intro h);try simp only [go_sem,simprocAttr,hm] at h)|omega|intro h)
 all_goals simp [gF,fS,hm]
theorem vU (g:Gr) (hl:g.es.length≤9223372036854775807):Spec Tryz.prog 104 (Args [eG g]) [] (.tup [eN (gF g).1,eN (gF g).2.1, .d (sI (gF g).2.2)]) []:=by
 cases hm:aG g with
 |false=>exact vS g hl hm
 |true=>exact xC g (by have:=aA hm;omega)
theorem oL (g:Gr) (hl:g.es.length≤9223372036854775807):Spec Tryz.prog 52 (Args [eG g]) [] (eB (decide ((bT g).1=0))) []:=by
 rw [Ma]
 (refine Spec.hd (C:=T.cfg [] []) (rs:= [.t 2]) (T.aj _ _) Tryz.func52 rfl rfl Tryz.ntmps52 Tryz.results52 (by simp [AObj.isNest]) (by simp [AObj.isNest]) (by kernel_rfl) T.mixed fun X hX hP hC aP bV=> ?_)
 repeat' (first|refine Rn.p ?_|(with_reducible apply And.intro)|((first|(refine hK _ ?_;clear hK K)|with_reducible intro K hK|refine Rs.p ?_|((with_reducible first|apply oP|apply oQ);exact rfl)|refine aa hX hC hP (vU g hl) rfl rfl rfl (by simp only [go_sem,simprocAttr]) rfl ?_);try simp only [go_sem,simprocAttr])|((with_reducible refine oD ?_ ?_);kernel_rfl)|((with_reducible intro h);try simp only [go_sem,simprocAttr] at h)|omega|intro h)
end Go.Ab
end
section
namespace Go.Ab
open Go.Proofs
attribute [local congr] ACall.congr gd.congr Nx.congr
set_option maxRecDepth 10000
set_option maxHeartbeats 4000000
def g9:Gr:=⟨3, [(0,1),(0,2),(1,2)]⟩
def VP:Fr:=⟨[], []⟩
def VQ:Fr:=⟨[(0,0,1),(1,0,2)], [0]⟩
def VR:Fr:=⟨[(2,1,2),(1,0,2)], [0,1]⟩
def VS:Fr:=⟨[(-1,2, -1)], [0,1,2]⟩
end Go.Ab
end
section
namespace Go.Ab
open Go.Proofs
set_option maxRecDepth 10000
def Fp (g:Gr) (t:It):Prop:=(t.1= -1∧t.2.2= -1)∨(0≤t.1∧t.1<g.es.length∧t.2.1=(g.es.getD t.1.toNat (0,0)).1∧t.2.2=(g.es.getD t.1.toNat (0,0)).2)
structure eo (g:Gr) (f:Fr):Prop where
 it:∀t∈f.row,Fp g t
 pl:f.pl.Nodup
 oM:∀x∈f.pl,0≤x∧x<g.n
theorem kU {row:List It} {x:Int} :∀k:Nat,(fU row x k).2.2=iX row x k
 |0=>rfl
 |k+1=>by
  rw [pH,gS]
  split
  ·show (fU row x k).2.2+1=_
   rw [kU k]
  ·exact kU k
theorem rZ {row:List It} {x:Int} {j:Nat} :∀d:Nat,iX row x j≤iX row x (j+d)
 |0=>Int.le_refl _
 |d+1=>by
  have:=rZ (row:=row) (x:=x) (j:=j) d
  rw [← Nat.add_assoc,gS]
  split<;>omega
theorem kX {row:List It} {x:Int} :∀ {k:Nat},(∀j,j<k→(row.getD j (0,0,0)).2.2≠x)→iX row x k=0
 |0,_=>rfl
 |k+1,h=>by
  rw [gS,if_neg (h k (by omega))]
  exact kX fun j hj=>h j (by omega)
theorem r8 {row:List It} {x:Int} {b:Nat} :∀ {d:Nat},(∀j,b≤j→j<b+d→(row.getD j (0,0,0)).2.2≠x)→iX row x (b+d)=iX row x b
 |0,_=>rfl
 |d+1,h=>by
  rw [← Nat.add_assoc,gS,if_neg (h (b+d) (by omega) (by omega))]
  exact r8 fun j h1 h2=>h j h1 (by omega)
theorem gT {f:Edge→Int} {g:Gr} {x:Int} (h0:0≤x) (h1:x<g.n):bB f g x=aK f g.es g.es.length x:=if_pos ⟨h0,h1⟩
theorem nZ {g:Gr} {e:Int} (h0:0≤e) (h1:e<g.es.length):0<aV g (g.es.getD e.toNat (0,0)).2:=by
 refine List.length_pos_iff.2 fun h=> ?_
 have hm:e∈aK (·.2) g.es g.es.length (g.es.getD e.toNat (0,0)).2:=by
  simp only [aK,List.mem_map,List.mem_filter,List.mem_range,decide_eq_true_eq]
  exact ⟨e.toNat,⟨by omega,rfl⟩,by simp;omega⟩
 rw [h] at hm;cases hm
theorem x9 {row:List It} {p:It→Bool} {a b:Nat} (hb:b≤row.length):((row.take b).drop a).any p=true↔∃j,a≤j∧j<b∧p (row.getD j (0,0,0))=true:=by
 rw [List.any_eq_true]
 constructor
 ·rintro ⟨t,ht,hp⟩
  obtain ⟨k,hk,rfl⟩:=List.mem_iff_getElem.1 ht
  simp only [List.length_drop,List.length_take] at hk
  refine ⟨a+k,by omega,by omega, ?_⟩
  rw [List.getD_eq_getElem?_getD,List.getElem?_eq_getElem (show a+k<row.length by omega)]
  simpa using hp
 ·rintro ⟨j,h1,h2,hp⟩
  rw [List.getD_eq_getElem?_getD,List.getElem?_eq_getElem (show j<row.length by omega)] at hp
  refine ⟨row[j], ?_,hp⟩
  refine List.mem_iff_getElem.2 ⟨j - a,by simp;omega, ?_⟩
  simp only [List.getElem_drop,List.getElem_take]
  congr 1;omega
theorem Fp.head {g:Gr} (hm:aG g=true) {t:It} (h:Fp g t):(0≤t.1↔t.2.2≠ -1)∧ -1≤t.2.2:=by
 rcases h with ⟨h1,h2⟩|⟨h1,h2,_,h4⟩
 ·omega
 ·obtain ⟨_,h5,_⟩:=cM hm (k:=t.1.toNat) (by omega)
  omega
theorem iC {g:Gr} (hm:aG g=true) {f:Fr} (hi:eo g f) (x:Int):eD g f x=az g f x:=by
 by_cases hx:x<0∨g.n≤x∨x∈f.pl
 ·rw [eD,az,if_pos hx,if_pos hx]
 rw [eD,az,if_neg hx,if_neg hx]
 have hx0:0≤x∧x<g.n:=by
  constructor
  ·exact Int.not_lt.1 fun h=>hx (.inl h)
  ·exact Int.not_le.1 fun h=>hx (.inr (.inl h))
 have hmem:∀j,j<f.row.length→Fp g (f.row.getD j (0,0,0)):=fun j hj=>hi.it _ (aQ hj)
 rw [gT hx0.1 hx0.2]
 have hN:(aK (fun e=>e.2) g.es g.es.length x).length=aV g x:=rfl
 rw [hN]
 have Mc:(bw f.row x).2.2=iX f.row x f.row.length:=kU _
 by_cases h0:aV g x=0
 ·rw [if_pos h0,h0,decide_eq_true rfl,Bool.true_or,Bool.and_true,decide_eq_true_eq,Mc,kX]
  ·rfl
  ·intro j hj he
   rcases hmem j hj with ⟨_,h2⟩|⟨h1,h2,_,h4⟩
   ·omega
   ·have:=nZ h1 h2
    rw [← h4,he] at this
    omega
 ·rw [if_neg h0,decide_eq_false h0,Bool.false_or,Mc]
  generalize aV g x=need at h0
  rcases fq (row:=f.row) (x:=x) f.row.length with ⟨hs,hno⟩|⟨a,b,c,hs,hab,tO,hc0,hcl,ha,hb,hlo,hhi⟩
  ·rw [kX hno]
   have e1:decide ((0:Int)=(need:Int))=false:=decide_eq_false (by omega)
   rw [e1,Bool.false_and,Bool.and_false]
  ·have hs':bw f.row x=((a:Int),(b:Int),(c:Int)):=hs
   have KZ:iX f.row x f.row.length=c:=by rw [← Mc,hs']
   rw [hs',KZ]
   simp only [Int.toNat_natCast]
   rw [Bool.and_comm]
   by_cases Ny:¬(c:Int)=need
   ·rw [decide_eq_false Ny,Bool.and_false,Bool.and_false]
   rw [Decidable.not_not] at Ny
   rw [decide_eq_true Ny,Bool.and_true,Bool.and_true,s5]
   congr 1
   rw [Bool.eq_iff_iff,x9 tO,List.any_eq_true]
   have ma:iX f.row x a=0:=kX hlo
   have VT:iX f.row x (a+1)=1:=by rw [gS,if_pos ha,ma];rfl
   have mb:iX f.row x b=need:=by
    have h:=r8 (row:=f.row) (x:=x) (b:=b) (d:=f.row.length - b) fun j h1 h2=>hhi j h1 (by omega)
    rw [show b+(f.row.length - b)=f.row.length by omega,KZ] at h
    omega
   have VU:iX f.row x (b - 1)+1=need:=by
    have h:=gS (row:=f.row) (x:=x) (k:=b - 1)
    rw [if_pos hb,show b - 1+1=b by omega,mb] at h
    omega
   constructor
   ·rintro ⟨j,h1,h2,hp⟩
    simp only [mh,Bool.and_eq_true,decide_eq_true_eq] at hp
    have hja:j≠a:=fun e=>hp.1 (by rw [e];exact ha)
    have hjb:j≠b - 1:=fun e=>hp.1 (by rw [e];exact hb)
    have g1:=rZ (row:=f.row) (x:=x) (j:=a+1) (j - (a+1))
    rw [show a+1+(j - (a+1))=j by omega] at g1
    have g2:=rZ (row:=f.row) (x:=x) (j:=j) (b - 1 - j)
    rw [show j+(b - 1 - j)=b - 1 by omega] at g2
    exact ⟨j,List.mem_range.2 (by omega),x7.2 ⟨⟨hp.1,((hmem j (by omega)).head hm).1.2 hp.2⟩,by omega,by omega⟩⟩
   ·rintro ⟨j,hj,hl⟩
    have hj:=List.mem_range.1 hj
    obtain ⟨⟨h1,h2⟩,h3,h4⟩:=x7.1 hl
    refine ⟨j, ?_, ?_, ?_⟩
    ·refine Nat.not_lt.1 fun h=> ?_
     have:=kX (row:=f.row) (x:=x) (k:=j) fun i hi=>hlo i (by omega)
     omega
    ·refine Nat.not_le.1 fun h=> ?_
     have:=r8 (row:=f.row) (x:=x) (b:=b) (d:=j - b) fun i h1 h2=>hhi i h1 (by omega)
     rw [show b+(j - b)=j by omega] at this
     omega
    ·simp only [mh,Bool.and_eq_true,decide_eq_true_eq]
     exact ⟨h1,((hmem j hj).head hm).1.1 h2⟩
theorem qB:∀ {ms os:List Int},ms.Nodup→(∀i∈ms,i∈os)→os.length=ms.length→os.Perm ms
 | [],os,_,_,hl=>by
   have h:os= []:=List.eq_nil_of_length_eq_zero (by simpa using hl)
   rw [h]
 |m::ms,os,hn,hs,hl=>by
  rw [List.nodup_cons] at hn
  have hm:=hs m (List.mem_cons_self ..)
  refine (List.perm_cons_erase hm).trans (List.Perm.cons m (qB hn.2 (fun j hj=> ?_) ?_))
  ·have:j≠m:=fun e=>hn.1 (e ▸ hj)
   exact (List.mem_erase_of_ne this).2 (hs j (List.mem_cons_of_mem _ hj))
  ·rw [List.length_erase_of_mem hm,hl];simp
theorem s6 {g:Gr} {x:Int} :(cn g x).Pairwise (· ≤ ·):=by
 unfold cn aK
 refine List.Pairwise.map _ (fun a b (h:a<b)=> ?_) (List.Pairwise.filter _ List.pairwise_lt_range)
 show (a:Int)≤b
 omega
theorem vV {l m:List Int} (h:l.Perm m) (hm:m.Pairwise (· ≤ ·)):iO l=m:=by
 have h1:(iO l).Pairwise (· ≤ ·):=by
  have:=List.pairwise_mergeSort (le:=fun a b:Int=>decide (a≤b)) (by simp;omega) (by simp;omega) l
  simpa [iO] using this
 have h2:(iO l).Perm m:=(by unfold iO;exact (List.mergeSort_perm l _).trans h)
 exact h2.eq_of_pairwise (fun a b _ _ h1 h2=>Int.le_antisymm h1 h2) h1 hm
theorem aD {g:Gr} {f:Fr} {x:Int} (h:az g f x=true):0≤x∧x<g.n∧x∉f.pl:=by
 unfold az at h
 by_cases hx:x<0∨g.n≤x∨x∈f.pl
 ·rw [if_pos hx] at h;cases h
 ·exact ⟨Int.not_lt.1 fun h=>hx (.inl h),Int.not_le.1 fun h=>hx (.inr (.inl h)),fun h=>hx (.inr (.inr h))⟩
theorem HS {g:Gr} (hm:aG g=true) {f:Fr} (hi:eo g f) (x:Int) (outs:List Int):kr g f x outs=gu g f x outs:=by
 rw [kr,gu,iC hm hi]
 cases hR:az g f x with
 |false=>rw [if_pos rfl,if_pos rfl]
 |true=>
  obtain ⟨h0,h1,h2⟩:=aD hR
  have ht:¬(true=false):=by simp
  rw [if_neg ht,if_neg ht,gT h0 h1]
  show (if iO outs≠cn g x then _ else aC g f x outs)=_
  by_cases hs:iO outs=cn g x
  ·rw [if_neg (fun h=>h hs),if_neg]
   rintro (h|⟨i,h3,h4⟩)
   ·exact h (by rw [← hs,fC])
   ·exact h4 (Bg.1 (hs ▸ h3))
  ·rw [if_pos hs,if_pos]
   refine Decidable.byContradiction fun h=>hs ?_
   have hl:outs.length=(cn g x).length:=Decidable.byContradiction fun e=>h (.inl e)
   exact vV (qB cq (fun i hi=>Decidable.byContradiction fun e=>h (.inr ⟨i,hi,e⟩)) hl) s6
theorem HT {g:Gr} {x:Int} {outs:List Int} (ho:∀i∈outs,i∈cn g x):∀t∈aL g x outs,Fp g t:=by
 intro t ht
 unfold aL at ht
 split at ht
 ·rw [List.mem_singleton] at ht
  rw [ht];exact .inl ⟨rfl,rfl⟩
 ·obtain ⟨i,hi,rfl⟩:=List.mem_map.1 ht
  obtain ⟨⟨h1,h2⟩,h3⟩:=jl (ho i hi)
  exact .inr ⟨h1,h2,h3.symm,rfl⟩
theorem HU {g:Gr} {f:Fr} (hi:eo g f) {x:Int} (hR:az g f x=true) {outs:List Int} (ho:∀i∈outs,i∈cn g x):eo g (aC g f x outs).2:=by
 obtain ⟨h0,h1,h2⟩:=aD hR
 refine ⟨fun t ht=> ?_, ?_,fun y hy=> ?_⟩
 ·simp only [aC,List.mem_append] at ht
  rcases ht with (ht|ht)|ht
  ·exact hi.it t (List.mem_of_mem_take ht)
  ·exact HT ho t ht
  ·exact hi.it t (List.mem_of_mem_drop ht)
 ·show (f.pl++ [x]).Nodup
  rw [List.nodup_append]
  refine ⟨hi.pl,by simp,fun a ha b hb e=>h2 ?_⟩
  rw [List.mem_singleton] at hb
  rw [← hb, ← e];exact ha
 ·have hy:y∈f.pl++ [x]:=hy
  rcases List.mem_append.1 hy with h|h
  ·exact hi.oM y h
  ·rw [List.mem_singleton] at h
   rw [h];exact ⟨h0,h1⟩
end Go.Ab
end
section
namespace Go.Ab
open Go.Proofs
set_option maxRecDepth 10000
def jS (x:Int) (t:It):Bool:=decide (t.2.2=x)
structure Mid (x:Int) (X:List It):Prop where
 fst:∃p X',X=p::X'∧p.2.2=x
 F5:∃X' q,X=X'++ [q]∧q.2.2=x
 al:∀t∈X,t.2.2=x∨t.2.2= -1
def fe (x:Int) (l:List It):Prop:=∀t∈l,t.2.2≠x
theorem fe.app {x:Int} {l m:List It} (h:fe x l) (h':fe x m):fe x (l++m):=fun t ht=>(List.mem_append.1 ht).elim (h t) (h' t)
theorem fe.left {x:Int} {l m:List It} (h:fe x (l++m)):fe x l:=fun t ht=>h t (List.mem_append.2 (.inl ht))
theorem fe.right {x:Int} {l m:List It} (h:fe x (l++m)):fe x m:=fun t ht=>h t (List.mem_append.2 (.inr ht))
theorem Mid.SL {x y:Int} {X:List It} (h:Mid x X) (hxy:x≠y) (hy:0≤y):fe y X:=fun t ht e=>by
 rcases h.al t ht with h1|h1<;>omega
theorem mj {row:List It} {x:Int} :∀ {k:Nat},k≤row.length→iX row x k=((row.take k).countP (jS x):Nat)
 |0,_=>by simp [iX]
 |k+1,h=>by
  rw [gS,mj (k:=k) (by omega),List.take_add_one,List.getElem?_eq_getElem (show k<row.length by omega),List.countP_append]
  simp only [Option.toList,List.countP_cons,List.countP_nil,jS,decide_eq_true_eq,List.getD_eq_getElem?_getD,List.getElem?_eq_getElem (show k<row.length by omega),Option.getD_some]
  split<;>simp
theorem Fq {A X C:List It} {p:It} {X':List It} (h:X=p::X'):(A++X++C).getD A.length (0,0,0)=p:=by
 subst h;simp [List.getD_eq_getElem?_getD]
theorem Fs {A X C:List It} {q:It} {X':List It} (h:X=X'++ [q]):(A++X++C).getD (A.length+X.length - 1) (0,0,0)=q:=by
 subst h
 have e:A.length+(X'++ [q]).length - 1=(A++X').length:=by simp
 rw [e,show A++(X'++ [q])++C=(A++X')++([q]++C) by simp]
 simp [List.getD_eq_getElem?_getD]
theorem Ft {A L:List It} {j:Nat} (h:j<A.length):(A++L).getD j (0,0,0)∈A:=by
 rw [List.getD_eq_getElem?_getD,List.getElem?_append_left h,List.getElem?_eq_getElem h]
 exact List.getElem_mem h
theorem Fu {A L:List It} {j:Nat} (h:A.length≤j) (h':j<(A++L).length):(A++L).getD j (0,0,0)∈L:=by
 rw [List.length_append] at h'
 rw [List.getD_eq_getElem?_getD,List.getElem?_append_right h,List.getElem?_eq_getElem (by omega)]
 exact List.getElem_mem _
theorem DH {A X C:List It} {x:Int} (hA:fe x A) (hC:fe x C) (hX:Mid x X):
 (bw (A++X++C) x).1=(A.length:Int)∧(bw (A++X++C) x).2.1=((A.length+X.length:Nat):Int)∧(bw (A++X++C) x).2.2=(X.countP (jS x):Nat):=by
 have xy:(bw (A++X++C) x).2.2=(X.countP (jS x):Nat):=by
  unfold bw
  rw [kU,mj (Nat.le_refl _),List.take_length,List.countP_append,List.countP_append]
  have h1:A.countP (jS x)=0:=List.countP_eq_zero.2 fun t ht=>by simp [jS,hA t ht]
  have h2:C.countP (jS x)=0:=List.countP_eq_zero.2 fun t ht=>by simp [jS,hC t ht]
  rw [h1,h2];simp
 obtain ⟨p,X',e1,hp⟩:=hX.fst
 obtain ⟨VV,q,e2,hq⟩:=hX.F5
 have g1:=Fq (A:=A) (C:=C) e1
 have g2:=Fs (A:=A) (C:=C) e2
 have M3:0<X.length:=by rw [e1];simp
 have hlen:(A++X++C).length=A.length+X.length+C.length:=by simp;omega
 rcases fq (row:=A++X++C) (x:=x) (A++X++C).length with ⟨_,hno⟩|⟨a,b,c,hs,hab,tO,hc0,hcl,ha,hb,hlo,hhi⟩
 ·exact absurd (by rw [g1];exact hp) (hno A.length (by omega))
 ·have hs':bw (A++X++C) x=((a:Int),(b:Int),(c:Int)):=hs
  refine ⟨?_, ?_,xy⟩
  ·rw [hs']
   have h1:¬A.length<a:=fun h=>hlo _ h (by rw [g1];exact hp)
   have h2:¬a<A.length:=fun h=>hA _ (by have:=Ft (L:=X++C) h;rw [← List.append_assoc] at this;exact this) ha
   simp only;omega
  ·rw [hs']
   have h1:¬b<A.length+X.length:=fun h=>hhi (A.length+X.length - 1) (by omega) (by omega) (by rw [g2];exact hq)
   have h2:¬A.length+X.length<b:=fun h=>hC _ (Fu (A:=A++X) (j:=b - 1) (by simp;omega) (by omega)) hb
   simp only;omega
theorem jH {g:Gr} (hm:aG g=true) {f:Fr} (hi:eo g f) {A X C:List It} {x:Int} (h0:0≤x) (h1:x<g.n) (hp:x∉f.pl) (hr:f.row=A++X++C) (hA:fe x A) (hC:fe x C) (hX:Mid x X)
 (hc:X.countP (jS x)=aV g x):az g f x=true:=by
 rw [← iC hm hi,eD,if_neg (by rintro (h|h|h);omega;omega;exact hp h)]
 obtain ⟨e1,e2,e3⟩:=DH hA hC hX
 rw [hr,e1,e2,e3,gT h0 h1,Bool.and_eq_true,decide_eq_true_eq]
 refine ⟨by rw [hc];rfl, ?_⟩
 rw [Bool.or_eq_true];right
 simp only [s5,Int.toNat_natCast]
 rw [List.take_append_of_le_length (by simp),List.take_of_length_le (by simp),List.drop_left,Bool.not_eq_true',List.any_eq_false]
 intro t ht
 simp only [mh,Bool.and_eq_true,decide_eq_true_eq]
 rcases hX.al t ht with h|h<;>simp [h]
theorem bM {g:Gr} (hm:aG g=true) {f:Fr} (hi:eo g f) {x:Int} (hR:az g f x=true) (hn:aV g x≠0):
 ∃A X C,f.row=A++X++C∧fe x A∧fe x C∧Mid x X∧X.countP (jS x)=aV g x:=by
 obtain ⟨h0,h1,h2⟩:=aD hR
 rw [← iC hm hi,eD,if_neg (by rintro (h|h|h);omega;omega;exact h2 h),gT h0 h1,Bool.and_eq_true,decide_eq_true_eq] at hR
 have hN:(aK (fun e=>e.2) g.es g.es.length x).length=aV g x:=rfl
 rw [hN,decide_eq_false hn,Bool.false_or] at hR
 obtain ⟨hc,hb⟩:=hR
 have xy:(f.row.countP (jS x):Int)=aV g x:=by
  rw [← hc];unfold bw
  rw [kU,mj (Nat.le_refl _),List.take_length]
 rcases fq (row:=f.row) (x:=x) f.row.length with ⟨hs,hno⟩|⟨a,b,c,hs,hab,tO,hc0,hcl,ha,hb',hlo,hhi⟩
 ·have:bw f.row x=(-1,0,0):=hs
  rw [this] at hc
  exfalso;simp only at hc;omega
 ·have hs':bw f.row x=((a:Int),(b:Int),(c:Int)):=hs
  rw [hs'] at hb
  simp only [Int.toNat_natCast] at hb
  have hA:fe x (f.row.take a):=fun t ht=>by
   obtain ⟨j,hj,rfl⟩:=List.mem_iff_getElem.1 ht
   simp only [List.length_take] at hj
   have:=hlo j (by omega)
   rw [List.getD_eq_getElem?_getD,List.getElem?_eq_getElem (show j<f.row.length by omega)] at this
   simpa using this
  have hC:fe x (f.row.drop b):=fun t ht=>by
   obtain ⟨j,hj,rfl⟩:=List.mem_iff_getElem.1 ht
   simp only [List.length_drop] at hj
   have:=hhi (b+j) (by omega) (by omega)
   rw [List.getD_eq_getElem?_getD,List.getElem?_eq_getElem (show b+j<f.row.length by omega)] at this
   simpa using this
  have hrow:f.row=f.row.take a++(f.row.take b).drop a++f.row.drop b:=by
   have e1:f.row.take a=(f.row.take b).take a:=by rw [List.take_take,Nat.min_eq_left (by omega)]
   rw [e1,List.take_append_drop,List.take_append_drop]
  refine ⟨f.row.take a,(f.row.take b).drop a,f.row.drop b,hrow,hA,hC,⟨?_, ?_, ?_⟩, ?_⟩
  ·refine ⟨f.row.getD a (0,0,0),(f.row.take b).drop (a+1), ?_,ha⟩
   rw [List.drop_eq_getElem_cons (by simp;omega)]
   congr 1
   rw [List.getD_eq_getElem?_getD,List.getElem?_eq_getElem (show a<f.row.length by omega)]
   simp
  ·refine ⟨(f.row.take (b - 1)).drop a,f.row.getD (b - 1) (0,0,0), ?_,hb'⟩
   have e:f.row.take b=f.row.take (b - 1)++ [f.row.getD (b - 1) (0,0,0)]:=by
    conv=>lhs;rw [show b=b - 1+1 by omega]
    rw [List.take_add_one,List.getD_eq_getElem?_getD,List.getElem?_eq_getElem (show b - 1<f.row.length by omega)]
    rfl
   rw [e,List.drop_append_of_le_length (by simp;omega)]
  ·intro t ht
   rw [s5,Bool.not_eq_true',List.any_eq_false] at hb
   have:=hb t ht
   simp only [mh,Bool.and_eq_true,decide_eq_true_eq,not_and] at this
   by_cases h:t.2.2=x
   ·exact .inl h
   ·exact .inr (Decidable.byContradiction fun h'=>this h h')
  ·have h1:(f.row.take a).countP (jS x)=0:=List.countP_eq_zero.2 fun t ht=>by simp [jS,hA t ht]
   have h2:(f.row.drop b).countP (jS x)=0:=List.countP_eq_zero.2 fun t ht=>by simp [jS,hC t ht]
   rw [hrow,List.countP_append,List.countP_append,h1,h2] at xy
   omega
theorem eS {g:Gr} {f:Fr} {A X C:List It} {x:Int} (o:List Int) (hr:f.row=A++X++C) (hA:fe x A) (hC:fe x C) (hX:Mid x X):
 aC g f x o=((X,0),⟨A++aL g x o++C,f.pl++ [x]⟩):=by
 obtain ⟨e1,e2,e3⟩:=DH hA hC hX
 have e4:max (A.length:Int) 0=(A.length:Int):=by omega
 unfold aC
 rw [hr,e1,e2,e4,Int.toNat_natCast,Int.toNat_natCast]
 rw [List.take_append_of_le_length (show A.length+X.length≤(A++X).length by simp),List.take_of_length_le (show (A++X).length≤A.length+X.length by simp),List.drop_left]
 rw [show (A++X++C).take A.length=A by rw [List.append_assoc,List.take_left]]
 rw [show (A++X++C).drop (A.length+X.length)=C by rw [← List.length_append,List.drop_left]]
theorem dK {g:Gr} {f:Fr} {x:Int} (o:List Int) (hr:fe x f.row):aC g f x o=(([],0),⟨aL g x o++f.row,f.pl++ [x]⟩):=by
 have hs:bw f.row x=(-1,0,0):=by
  rcases fq (row:=f.row) (x:=x) f.row.length with ⟨hs,_⟩|⟨a,b,c,hs,hab,tO,hc0,hcl,ha,hb',hlo,hhi⟩
  ·exact hs
  ·exact absurd ha (hr _ (aQ (by omega)))
 have e4:max (-1:Int) 0=0:=by omega
 unfold aC
 rw [hs]
 simp [e4]
end Go.Ab
end
section
namespace Go.Ab
open Go.Proofs
set_option maxRecDepth 10000
structure vW (g:Gr) (f:Fr):Prop extends eo g f where
 tail:∀t∈f.row,0≤t.1→t.2.1∈f.pl
 head:∀t∈f.row,0≤t.1→t.2.2∉f.pl
 once:f.row.Pairwise fun s t=>0≤s.1→s.1≠t.1
 low:∀i,i<g.es.length→hd g i∈f.pl→tl g i∈f.pl
 src:(f.pl= []∧f.row= [])∨∃s∈f.pl,aV g s=0
theorem qC (g:Gr):vW g ⟨[], []⟩:=
 {it:=by simp,pl:=by simp,oM:=by simp,tail:=by simp,head:=by simp,once:=by simp,low:=by simp,src:= .inl ⟨rfl,rfl⟩}
theorem r9 {g:Gr} (hm:aG g=true) {f:Fr} (hi:vW g f) {x:Int} (hR:az g f x=true) {i:Nat} (hl:i<g.es.length) (hx:hd g i=x):∃t∈f.row,t.1=i∧t.2.1=tl g i∧t.2.2=x:=by
 have hn:aV g x≠0:=by
  have:=nZ (g:=g) (e:=(i:Int)) (by omega) (by omega)
  rw [Int.toNat_natCast,show (g.es.getD i (0,0)).2=x from hx] at this
  omega
 obtain ⟨A,X,C,hr,hA,hC,hX,hc⟩:=bM hm hi.toeo hR hn
 have hN:(aK (fun e=>e.2) g.es g.es.length x).length=aV g x:=rfl
 have hok:∀t∈f.row,t.2.2=x→0≤t.1∧t.1<g.es.length∧t.2.1=(g.es.getD t.1.toNat (0,0)).1∧t.2.2=(g.es.getD t.1.toNat (0,0)).2:=fun t ht he=>by
  rcases hi.it t ht with ⟨_,h2⟩|h
  ·have:=(aD hR).1;omega
  ·exact h
 have hmem:∀t∈X,t∈f.row:=fun t ht=>by rw [hr];simp [ht]
 have DI:=qB (ms:=(X.filter (jS x)).map (·.1)) (os:=aK (fun e=>e.2) g.es g.es.length x)
 have key:∀i∈aK (fun e=>e.2) g.es g.es.length x,i∈(X.filter (jS x)).map (·.1):=by
  refine CN (ms:=(X.filter (jS x)).map (·.1)) (os:=aK (fun e=>e.2) g.es g.es.length x) ?_ ?_ ?_
  ·have h1:X.Pairwise fun s t=>0≤s.1→s.1≠t.1:=by
    have:=hi.once
    rw [hr,List.pairwise_append,List.pairwise_append] at this
    exact this.1.2.1
   have h2:=h1.filter (jS x)
   rw [List.Nodup,List.pairwise_map]
   refine h2.imp_of_mem fun {a b} ha hb h=>h ?_
   obtain ⟨Um,Rx⟩:=List.mem_filter.1 ha
   exact (hok a (hmem a Um) (by simpa [jS] using Rx)).1
  ·intro e he
   obtain ⟨t,ht,rfl⟩:=List.mem_map.1 he
   obtain ⟨ht1,ht2⟩:=List.mem_filter.1 ht
   have ht2:t.2.2=x:=by simpa [jS] using ht2
   obtain ⟨h1,h2,h3,h4⟩:=hok t (hmem t ht1) ht2
   simp only [aK,List.mem_map,List.mem_filter,List.mem_range,decide_eq_true_eq]
   exact ⟨t.1.toNat,⟨by omega,by rw [← h4];exact ht2⟩,by simp;omega⟩
  ·rw [hN, ← hc,List.length_map,List.countP_eq_length_filter]
 have hie:(i:Int)∈aK (fun e=>e.2) g.es g.es.length x:=by
  simp only [aK,List.mem_map,List.mem_filter,List.mem_range,decide_eq_true_eq]
  exact ⟨i,⟨hl,hx⟩,rfl⟩
 obtain ⟨t,ht,he⟩:=List.mem_map.1 (key _ hie)
 obtain ⟨ht1,ht2⟩:=List.mem_filter.1 ht
 have ht2:t.2.2=x:=by simpa [jS] using ht2
 obtain ⟨h1,h2,h3,h4⟩:=hok t (hmem t ht1) ht2
 refine ⟨t,hmem t ht1,he, ?_,ht2⟩
 rw [h3,he,Int.toNat_natCast];rfl
theorem gU {g:Gr} (hm:aG g=true) {f:Fr} (hi:eo g f) {x:Int} (h0:0≤x) (hn:aV g x=0):fe x f.row:=by
 intro t ht he
 rcases hi.it t ht with ⟨_,h2⟩|⟨h1,h2,_,h4⟩
 ·omega
 ·have:=nZ h1 h2
  rw [← h4,he] at this
  omega
theorem fD {g:Gr} (hm:aG g=true) {f:Fr} (hi:eo g f) {x:Int} (hR:az g f x=true):
 ∃A X C,f.row=A++X++C∧fe x A∧fe x C∧(∀t∈X,t.2.2=x∨t.2.2= -1)∧∀o,aC g f x o=((X,0),⟨A++aL g x o++C,f.pl++ [x]⟩):=by
 by_cases hn:aV g x=0
 ·have h:=gU hm hi (aD hR).1 hn
  exact ⟨[], [],f.row,by simp,fun t ht=>(by cases ht),h,fun t ht=>(by cases ht),fun o=>by rw [dK o h];simp⟩
 ·obtain ⟨A,X,C,hr,hA,hC,hX,_⟩:=bM hm hi hR hn
  exact ⟨A,X,C,hr,hA,hC,hX.al,fun o=>eS o hr hA hC hX⟩
theorem iD {g:Gr} {x i:Int} (h:i∈cn g x):∃k:Nat,i=k∧k<g.es.length∧tl g k=x:=by
 obtain ⟨⟨h1,h2⟩,h3⟩:=jl h
 exact ⟨i.toNat,by omega,by omega,h3⟩
theorem kY {g:Gr} {x:Int} {o:List Int} (ho:∀i∈o,i∈cn g x) {t:It} (h:t∈aL g x o):(t.1= -1∧t.2.2= -1)∨∃k:Nat,k<g.es.length∧t.1=k∧t.2.1=x∧t.2.2=hd g k∧tl g k=x∧t.1∈o:=by
 unfold aL at h
 split at h
 ·rw [List.mem_singleton] at h
  rw [h];exact .inl ⟨rfl,rfl⟩
 ·obtain ⟨i,SM,rfl⟩:=List.mem_map.1 h
  obtain ⟨k,rfl,h1,h2⟩:=iD (ho i SM)
  exact .inr ⟨k,h1,rfl,rfl,by simp [fc];rfl,h2,SM⟩
theorem sg {g:Gr} (hm:aG g=true) {f:Fr} (hi:vW g f) {x y:Int} (hx:x∉f.pl) (hR:az g f y=true) {o:List Int} (ho:∀i∈o,i∈cn g x):fe y (aL g x o):=by
 intro t ht he
 rcases kY ho ht with ⟨_,h⟩|⟨k,h1,h2,h3,h4,h5,_⟩
 ·have:=(aD hR).1;omega
 ·obtain ⟨s,hs,e1,e2,e3⟩:=r9 hm hi hR h1 (by rw [← h4];exact he)
  refine hx ?_
  rw [← h5, ← e2]
  exact hi.tail s hs (by omega)
theorem iE {g:Gr} (hm:aG g=true) {f:Fr} (hi:vW g f) {x:Int} (hR:az g f x=true) {o:List Int} (ho:o.Perm (cn g x)):vW g (aC g f x o).2:=by
 have Mb:∀i∈o,i∈cn g x:=fun i h=>ho.mem_iff.1 h
 have hx:=(aD hR).2.2
 have h0:=HU hi.toeo hR Mb
 obtain ⟨A,X,C,hr,hA,hC,hX,hs⟩:=fD hm hi.toeo hR
 have bZ:(aC g f x o).2.pl=f.pl++ [x]:=rfl
 have hrow:(aC g f x o).2.row=A++aL g x o++C:=by rw [hs o]
 have Md:∀t∈A,t∈f.row:=fun t ht=>by rw [hr];simp [ht]
 have Ry:∀t∈C,t∈f.row:=fun t ht=>by rw [hr];simp [ht]
 have OC:=sg hm hi hx hR Mb
 refine {toeo:=h0,tail:= ?_,head:= ?_,once:= ?_,low:= ?_,src:= .inr ?_}
 ·intro t ht h1
  rw [bZ]
  rw [hrow,List.mem_append,List.mem_append] at ht
  rcases ht with (ht|ht)|ht
  ·exact List.mem_append_left _ (hi.tail t (Md t ht) h1)
  ·rcases kY Mb ht with ⟨h,_⟩|⟨k,_,_,h3,_⟩
   ·omega
   ·rw [h3];simp
  ·exact List.mem_append_left _ (hi.tail t (Ry t ht) h1)
 ·intro t ht h1
  rw [bZ,List.mem_append,List.mem_singleton]
  rw [hrow,List.mem_append,List.mem_append] at ht
  rcases ht with (ht|ht)|ht
  ·rintro (h|h)
   ·exact hi.head t (Md t ht) h1 h
   ·exact hA t ht h
  ·rintro (h|h)
   ·rcases kY Mb ht with ⟨h',_⟩|⟨k,hk,_,_,h4,h5,_⟩
    ·omega
    ·rw [h4] at h
     have:=hi.low k hk h
     rw [h5] at this;exact hx this
   ·exact OC t ht h
  ·rintro (h|h)
   ·exact hi.head t (Ry t ht) h1 h
   ·exact hC t ht h
 ·have Aq:=hi.once
  rw [hr,List.pairwise_append,List.pairwise_append] at Aq
  obtain ⟨⟨Un,_,_⟩,Uo,Rz⟩:=Aq
  have old:∀s∈f.row,0≤s.1→∀t∈aL g x o,s.1≠t.1:=fun s hs h1 t ht e=>by
   rcases kY Mb ht with ⟨h,_⟩|⟨k,hk,h2,h3,h4,h5,_⟩
   ·omega
   ·rcases hi.it s hs with ⟨h,_⟩|⟨_,_,h6,_⟩
    ·omega
    ·have:=hi.tail s hs h1
     rw [h6,e,h2,Int.toNat_natCast] at this
     exact hx (h5 ▸ this)
  rw [hrow,List.pairwise_append,List.pairwise_append]
  refine ⟨⟨Un, ?_,fun s hs t ht h1=>old s (Md s hs) h1 t ht⟩,Uo, ?_⟩
  ·unfold aL
   split
   ·simp
   ·refine List.pairwise_map.2 ((ho.nodup_iff.2 cq).imp fun {i j} (h:i≠j) _=> ?_)
    exact h
  ·intro s hs t ht h1
   rcases List.mem_append.1 hs with hs|hs
   ·exact Rz s (List.mem_append_left _ hs) t ht h1
   ·intro e
    exact old t (Ry t ht) (by omega) s hs e.symm
 ·intro i hl h
  rw [bZ,List.mem_append,List.mem_singleton] at h ⊢
  left
  rcases h with h|h
  ·exact hi.low i hl h
  ·obtain ⟨t,ht,e1,e2,_⟩:=r9 hm hi hR hl h
   rw [← e2]
   exact hi.tail t ht (by omega)
 ·rcases hi.src with ⟨h1,h2⟩|⟨s,hs,h⟩
  ·refine ⟨x,by rw [bZ];simp, ?_⟩
   refine Decidable.byContradiction fun hn=> ?_
   obtain ⟨A,X,C,hr,_,_,hX,_⟩:=bM hm hi.toeo hR hn
   obtain ⟨p,X',e,_⟩:=hX.fst
   rw [h2,e] at hr
   simp at hr
  ·exact ⟨s,by rw [bZ];simp [hs],h⟩
theorem apart {x y:Int} (hx:0≤x) (hy:0≤y) (hxy:x≠y) {A X C B Y D:List It} (h:A++X++C=B++Y++D) (hX:Mid x X) (hY:Mid y Y):
 (∃M,B=A++X++M∧C=M++Y++D)∨(∃M,A=B++Y++M∧D=M++X++C):=by
 obtain ⟨p,X',Me,hp⟩:=hX.fst
 obtain ⟨q,Y',Up,hq⟩:=hY.fst
 have nX:q∉X:=fun h=>hX.SL hxy hy q h hq
 have nY:p∉Y:=fun h=>hY.SL (Ne.symm hxy) hx p h hp
 rw [show B++Y++D=B++(Y++D) by simp,List.append_eq_append_iff] at h
 rcases h with ⟨es,h1,h2⟩|⟨cs,h1,h2⟩
 ·exact .inl ⟨es,h1,by rw [h2];simp⟩
 ·match cs,h1,h2 with
  | [],h1,h2=>exact .inl ⟨[],by simpa using h1.symm,by simpa using h2.symm⟩
  |c::cs,h1,h2=>
   have Uq:c=q:=by rw [Up] at h2;simp at h2;exact h2.1.symm
   rw [List.append_eq_append_iff] at h1
   rcases h1 with ⟨es,h3,h4⟩|⟨ds,h3,h4⟩
   ·exfalso;refine nX ?_
    rw [h4, ← Uq];simp
   ·rw [h4,List.append_assoc,List.append_eq_append_iff] at h2
    rcases h2 with ⟨es,h5,h6⟩|⟨bs,h5,h6⟩
    ·exact .inr ⟨es,by rw [h3,h5];simp,by rw [h6];simp⟩
    ·match bs,h5,h6 with
     | [],h5,h6=>exact .inr ⟨[],by rw [h3,h5];simp,by simpa using h6.symm⟩
     |b::bs,h5,h6=>
      exfalso;refine nY ?_
      have Ur:b=p:=by rw [Me] at h6;simp at h6;exact h6.1.symm
      rw [h5, ← Ur];simp
theorem Bj {g:Gr} (hm:aG g=true) {f:Fr} (hi:vW g f) {x y:Int} (hxy:x≠y) (DJ:az g f x=true) (tE:az g f y=true)
 {a b:List Int} (ha:a.Perm (cn g x)) (hb:b.Perm (cn g y)) {A X M Y D:List It} (hr:f.row=A++X++M++Y++D) (hX:Mid x X) (hY:Mid y Y)
 (cX:X.countP (jS x)=aV g x) (cY:Y.countP (jS y)=aV g y)
 (nA:fe x A) (nC:fe x (M++Y++D)) (nB:fe y (A++X++M)) (nD:fe y D):
 az g (aC g f x a).2 y=true∧az g (aC g f y b).2 x=true∧(aC g (aC g f x a).2 y b).2.row=(aC g (aC g f y b).2 x a).2.row∧
 (aC g f x a).1=(aC g (aC g f y b).2 x a).1∧(aC g f y b).1=(aC g (aC g f x a).2 y b).1:=by
 obtain ⟨x0,x1,x2⟩:=aD DJ
 obtain ⟨y0,y1,y2⟩:=aD tE
 have i1:=(iE hm hi DJ ha).toeo
 have i2:=(iE hm hi tE hb).toeo
 have ux:=sg hm hi x2 tE (fun i h=>ha.mem_iff.1 h)
 have uy:=sg hm hi y2 DJ (fun i h=>hb.mem_iff.1 h)
 have r1:f.row=A++X++(M++Y++D):=by rw [hr];simp
 have r2:f.row=(A++X++M)++Y++D:=by rw [hr]
 have e1:=eS (g:=g) a r1 nA nC hX
 have e2:=eS (g:=g) b r2 nB nD hY
 rw [e1] at i1 ⊢;rw [e2] at i2 ⊢
 have r3:A++aL g x a++(M++Y++D)=(A++aL g x a++M)++Y++D:=by simp
 have r4:A++X++M++aL g y b++D=A++X++(M++aL g y b++D):=by simp
 have n3:fe y (A++aL g x a++M):=((nB.left.left).app ux).app nB.right
 have n4:fe x (M++aL g y b++D):=(nC.left.left.app uy).app nC.right
 have e3:=eS (g:=g) (f:=⟨A++aL g x a++(M++Y++D),f.pl++ [x]⟩) b r3 n3 nD hY
 have e4:=eS (g:=g) (f:=⟨A++X++M++aL g y b++D,f.pl++ [y]⟩) a r4 nA n4 hX
 refine ⟨jH hm i1 y0 y1 ?_ r3 n3 nD hY cY,jH hm i2 x0 x1 ?_ r4 nA n4 hX cX, ?_, ?_, ?_⟩
 ·simp [y2,Ne.symm hxy]
 ·simp [x2,hxy]
 ·simp only [e3,e4];simp
 ·simp only [e4]
 ·simp only [e3]
theorem Fv {g:Gr} (hm:aG g=true) {f:Fr} (hi:vW g f) {x y:Int} (hxy:x≠y) (DJ:az g f x=true) (tE:az g f y=true)
 {a b:List Int} (ha:a.Perm (cn g x)) (hb:b.Perm (cn g y)) (nx:aV g x≠0) (ny:aV g y≠0):
 az g (aC g f x a).2 y=true∧az g (aC g f y b).2 x=true∧(aC g (aC g f x a).2 y b).2.row=(aC g (aC g f y b).2 x a).2.row∧
 (aC g f x a).1=(aC g (aC g f y b).2 x a).1∧(aC g f y b).1=(aC g (aC g f x a).2 y b).1:=by
 obtain ⟨A,X,C,hr,hA,hC,hX,cX⟩:=bM hm hi.toeo DJ nx
 obtain ⟨B,Y,D,hr',hB,hD,hY,cY⟩:=bM hm hi.toeo tE ny
 rcases apart (aD DJ).1 (aD tE).1 hxy (hr.symm.trans hr') hX hY with ⟨M,rfl,rfl⟩|⟨M,rfl,rfl⟩
 ·exact Bj hm hi hxy DJ tE ha hb (by rw [hr];simp) hX hY cX cY hA hC hB hD
 ·obtain ⟨h1,h2,h3,h4,h5⟩:=Bj hm hi (Ne.symm hxy) tE DJ hb ha (by rw [hr'];simp) hY hX cY cX hB hD hA hC
  exact ⟨h2,h1,h3.symm,h5,h4⟩
theorem n0 {g:Gr} {y:Int} :y∈bF (·.2) g↔(0≤y∧y<g.n)∧aV g y=0:=by
 simp only [bF,jz,List.mem_map,List.mem_filter,List.mem_range,decide_eq_true_eq]
 have he:∀x:Nat,x<g.n.toNat→(((dw (·.2) g).getD x []).length=aV g (x:Int)):=by
  intro x hx
  have e:(dw (·.2) g).getD x []=aK (·.2) g.es g.es.length (x:Int):=by
   simp [dw,List.getD_eq_getElem?_getD,List.getElem?_range hx,ni]
  rw [e];rfl
 constructor
 ·rintro ⟨x,⟨hx,h0⟩,rfl⟩
  refine ⟨by simp;omega,by rw [he x hx] at h0;exact h0⟩
 ·rintro ⟨⟨h1,h2⟩,h3⟩
  have e:((y.toNat:Nat):Int)=y:=by omega
  exact ⟨y.toNat,⟨by omega,by rw [he _ (by omega),e];exact h3⟩,e⟩
theorem eV {g:Gr} (hc:(bT g).1=0) {x y:Int} (hx:0≤x∧x<g.n) (hy:0≤y∧y<g.n) (nx:aV g x=0) (ny:aV g y=0):x=y:=by
 have h1:(bF (·.2) g).length≤1:=by
  unfold bT fS at hc
  refine Nat.not_lt.1 fun h=> ?_
  split at hc
  ·cases hc
  split at hc
  ·cases hc
  split at hc
  ·cases hc
  split at hc
  ·cases hc
  cases hc
 have h2:=n0.2 ⟨hx,nx⟩
 have h3:=n0.2 ⟨hy,ny⟩
 match hb:bF (·.2) g with
 | []=>rw [hb] at h2;cases h2
 | [z]=>rw [hb,List.mem_singleton] at h2 h3;rw [h2,h3]
 |_::_::_=>rw [hb] at h1;simp at h1
theorem ag {g:Gr} (hc:(bT g).1=0):aG g=true:=by
 unfold bT fS at hc
 split at hc
 ·cases hc
 ·rename_i h;simpa using h
theorem Bk {g:Gr} (hc:(bT g).1=0) {f:Fr} (hi:vW g f) {x y:Int} (hxy:x≠y) (DJ:az g f x=true) (tE:az g f y=true):aV g x≠0:=by
 intro nx
 have hm:=ag hc
 obtain ⟨x0,x1,x2⟩:=aD DJ
 obtain ⟨y0,y1,y2⟩:=aD tE
 rcases hi.src with ⟨h1,h2⟩|⟨s,hs,h⟩
 ·have ny:aV g y≠0:=fun ny=>hxy (eV hc ⟨x0,x1⟩ ⟨y0,y1⟩ nx ny)
  obtain ⟨A,X,C,hr,_,_,hX,_⟩:=bM hm hi.toeo tE ny
  obtain ⟨p,X',e,_⟩:=hX.fst
  rw [h2,e] at hr
  simp at hr
 ·exact x2 (eV hc (hi.oM s hs) ⟨x0,x1⟩ h nx ▸ hs)
theorem ya {g:Gr} (hc:(bT g).1=0) {f:Fr} (hi:vW g f) {x y:Int} (hxy:x≠y) (DJ:az g f x=true) (tE:az g f y=true)
 {a b:List Int} (ha:a.Perm (cn g x)) (hb:b.Perm (cn g y)):
 az g (aC g f x a).2 y=true∧az g (aC g f y b).2 x=true∧(aC g (aC g f x a).2 y b).2.row=(aC g (aC g f y b).2 x a).2.row∧
 (aC g f x a).1=(aC g (aC g f y b).2 x a).1∧(aC g f y b).1=(aC g (aC g f x a).2 y b).1:=
 Fv (ag hc) hi hxy DJ tE ha hb (Bk hc hi hxy DJ tE) (Bk hc hi (Ne.symm hxy) tE DJ)
end Go.Ab
end
section
namespace Go.Ab
open Go.Proofs
attribute [local congr] ACall.congr gd.congr Nx.congr
set_option maxRecDepth 10000
set_option maxHeartbeats 4000000
def DK (row:List It) (a b:Int):Nat→Int × Int
 |0=>(-1,0)
 |k+1=>if ((row.getD k (0,0,0)).2.2=a∨(row.getD k (0,0,0)).2.2=b)∧(row.getD k (0,0,0)).2.2≠(DK row a b k).1 then ((row.getD k (0,0,0)).2.2,(DK row a b k).2+1) else DK row a b k
end Go.Ab
end
section
namespace Go.Ab
open Go.Proofs
attribute [local congr] ACall.congr gd.congr Nx.congr
set_option maxRecDepth 10000
set_option maxHeartbeats 4000000
def M4 (row:List It) (i:Nat):Int:=(row.getD i (0,0,0)).2.2
def RA (row:List It) (i j:Nat):Bool:=decide (M4 row i≠ -1)&&decide (M4 row j≠ -1)&&decide (M4 row i≠M4 row j)&&decide (4≤(DK row (M4 row i) (M4 row j) row.length).2)
def SN (row:List It):Bool:=(List.range row.length).any fun i=>(List.range row.length).any (RA row i)
end Go.Ab
end
section
namespace Go.Ab
open Go.Proofs
attribute [local congr] ACall.congr gd.congr Nx.congr
set_option maxRecDepth 10000
set_option maxHeartbeats 8000000
def T4 (row:List It) (a b c d:Nat):Prop:=0≤(row.getD a (0,0,0)).2.2∧0≤(row.getD b (0,0,0)).2.2∧(row.getD a (0,0,0)).2.2≠(row.getD b (0,0,0)).2.2∧(row.getD a (0,0,0)).2.2=(row.getD c (0,0,0)).2.2∧(row.getD b (0,0,0)).2.2=(row.getD d (0,0,0)).2.2
def Us (row:List It):Prop:=∃a b c d,a<b∧b<c∧c<d∧d<row.length∧T4 row a b c d
end Go.Ab
end
section
namespace Go.Ab
open Go.Proofs
set_option maxRecDepth 10000
theorem s7 {g:Gr} {f f':Fr} (hr:f.row=f'.row) (hp:f.pl.Perm f'.pl) (x:Int):az g f x=az g f' x:=by
 unfold az
 rw [hr]
 by_cases h:x<0∨g.n≤x∨x∈f.pl
 ·rw [if_pos h,if_pos (by rw [← hp.mem_iff];exact h)]
 ·have h':¬(x<0∨g.n≤x∨x∈f'.pl):=by rw [← hp.mem_iff];exact h
  rw [if_neg h,if_neg h']
theorem jI:∀ {l m:List Int},l.Nodup→(∀i∈l,i∈m)→l.length≤m.length
 | [],_,_,_=>by simp
 |a::l,m,hn,hs=>by
  rw [List.nodup_cons] at hn
  have ha:=hs a (List.mem_cons_self ..)
  have:=jI hn.2 (m:=m.erase a) fun i hi=>(List.mem_erase_of_ne (fun e:i=a=>hn.1 (e ▸ hi))).2 (hs i (List.mem_cons_of_mem _ hi))
  rw [List.length_erase_of_mem ha] at this
  have:=List.length_pos_of_mem ha
  rw [List.length_cons];omega
theorem gV {g:Gr} {f:Fr} (hi:eo g f) (hf:(f.pl.length:Int)=g.n) {x:Int} (hx:0≤x∧x<g.n):x∈f.pl:=by
 refine Decidable.byContradiction fun h=> ?_
 have h1:(x::f.pl).Nodup:=List.nodup_cons.2 ⟨h,hi.pl⟩
 have h2:((List.range g.n.toNat).map Int.ofNat).length=g.n.toNat:=by simp
 have h3:=jI h1 (m:=(List.range g.n.toNat).map Int.ofNat) (fun y hy=>by
  rw [List.mem_map]
  have:0≤y∧y<g.n:=by
   rcases List.mem_cons.1 hy with h|h
   ·rw [h];exact hx
   ·exact hi.oM y h
  exact ⟨y.toNat,List.mem_range.2 (by omega),by simp;omega⟩)
 rw [h2,List.length_cons] at h3
 omega
def Tg (a b:Int) (row:List It):Prop:=∃l:List It,l.Sublist row∧l.map (fun t=>t.2.2)= [a,b,a,b]
def HV (a b:Int) (t:It):Bool:=decide (t.2.2=a)||decide (t.2.2=b)
theorem Tg.RB {a b:Int} {row:List It} :Tg a b row↔Tg a b (row.filter (HV a b)):=by
 constructor
 ·rintro ⟨l,h,e⟩
  refine ⟨l, ?_,e⟩
  have h1:=h.filter (HV a b)
  rw [List.filter_eq_self.2] at h1
  ·exact h1
  ·intro t ht
   have:t.2.2∈l.map (fun t=>t.2.2):=List.mem_map.2 ⟨t,ht,rfl⟩
   rw [e] at this
   simp only [HV,Bool.or_eq_true,decide_eq_true_eq]
   simp only [List.mem_cons,List.not_mem_nil,or_false] at this
   omega
 ·rintro ⟨l,h,e⟩
  exact ⟨l,h.trans List.filter_sublist,e⟩
theorem Tg.keep {a b x:Int} (ha:0≤a) (hb:0≤b) (Jd:a≠x) (AU:b≠x) {A X C u:List It} (hX:∀t∈X,t.2.2=x∨t.2.2= -1) (h:Tg a b (A++X++C)):Tg a b (A++u++C):=by
 rw [Tg.RB] at h ⊢
 obtain ⟨l,h,e⟩:=h
 refine ⟨l,h.trans ?_,e⟩
 rw [List.filter_append,List.filter_append,List.filter_append,List.filter_append]
 have:X.filter (HV a b)= []:=List.filter_eq_nil_iff.2 fun t ht=>by
  simp only [HV,Bool.or_eq_true,decide_eq_true_eq]
  rcases hX t ht with h|h<;>omega
 rw [this,List.append_nil]
 exact List.Sublist.append_right (List.sublist_append_left _ _) _
theorem Tg.not {a b x:Int} (hab:a≠b) (hb0:0≤b) (ha0:0≤a) (hx:x=a∨x=b) {A X C:List It} (hA:fe x A) (hC:fe x C) (hX:∀t∈X,t.2.2=x∨t.2.2= -1):¬Tg a b (A++X++C):=by
 rintro ⟨l,h,e⟩
 rw [List.append_assoc,List.sublist_append_iff] at h
 obtain ⟨l1,l',rfl,h1,h'⟩:=h
 rw [List.sublist_append_iff] at h'
 obtain ⟨l2,l3,rfl,h2,h3⟩:=h'
 have k1:∀t∈l1,t.2.2≠x:=fun t ht=>hA t (h1.subset ht)
 have k2:∀t∈l2,t.2.2=x∨t.2.2= -1:=fun t ht=>hX t (h2.subset ht)
 have k3:∀t∈l3,t.2.2≠x:=fun t ht=>hC t (h3.subset ht)
 clear h1 h2 h3
 match l1,k1,e with
 |t1::t2::_,k1,e=>
  simp only [List.cons_append,List.map_cons,List.cons.injEq] at e
  rcases hx with h|h
  ·exact k1 t1 (by simp) (by omega)
  ·exact k1 t2 (by simp) (by omega)
 | [t1],k1,e=>
   simp only [List.cons_append,List.nil_append,List.map_cons,List.cons.injEq] at e
   rcases hx with h|h
   ·exact k1 t1 (by simp) (by omega)
   ·match l2,k2,e with
    | [],_,e=>
      match l3,k3,e with
      | [s1,s2,s3],k3,e=>
        simp only [List.nil_append,List.map_cons,List.map_nil,List.cons.injEq,and_true] at e
        exact k3 s1 (by simp) (by omega)
      | [],_,e=>simp at e
      | [_],_,e=>simp at e
      | [_,_],_,e=>simp at e
      |_::_::_::_::_,_,e=>simp at e
    |s1::s2::_,k2,e=>
     simp only [List.cons_append,List.map_cons,List.cons.injEq] at e
     rcases k2 s2 (by simp) with h|h<;>omega
    | [s1],k2,e=>
      match l3,k3,e with
      | [u1,u2],k3,e=>
        simp only [List.cons_append,List.nil_append,List.map_cons,List.map_nil,List.cons.injEq,and_true] at e
        exact k3 u2 (by simp) (by omega)
      | [],_,e=>simp at e
      | [_],_,e=>simp at e
      |_::_::_::_,_,e=>simp at e
 | [],_,e=>
   simp only [List.nil_append] at e
   match l2,k2,e with
   | [],_,e=>
     match l3,k3,e with
     | [],_,e=>simp at e
     | [_],_,e=>simp at e
     |s1::s2::_,k3,e=>
      simp only [List.nil_append,List.map_cons,List.cons.injEq] at e
      rcases hx with h|h
      ·exact k3 s1 (by simp) (by omega)
      ·exact k3 s2 (by simp) (by omega)
   |s1::s2::_,k2,e=>
    simp only [List.cons_append,List.map_cons,List.cons.injEq] at e
    have q1:=k2 s1 (by simp)
    have q2:=k2 s2 (by simp)
    omega
   | [s1],k2,e=>
     match l3,k3,e with
     | [],_,e=>simp at e
     | [_],_,e=>simp at e
     | [_,_],_,e=>simp at e
     |u1::u2::u3::_,k3,e=>
      simp only [List.cons_append,List.nil_append,List.map_cons,List.cons.injEq] at e
      have q1:=k2 s1 (by simp)
      exact k3 u2 (by simp) (by omega)
end Go.Ab
end
section
namespace Go.Ab
open Go.Proofs
set_option maxRecDepth 10000
theorem yb {row:List It} {k:Nat} (h:k<row.length):row.take (k+1)=row.take k++ [row.getD k (0,0,0)]:=by
 rw [List.take_add_one,List.getD_eq_getElem?_getD,List.getElem?_eq_getElem h];rfl
theorem HW {row:List It} {i j:Nat} (h:i≤j):(row.take i).Sublist (row.take j):=by
 rw [show row.take i=(row.take j).take i by rw [List.take_take,Nat.min_eq_left h]]
 exact List.take_sublist _ _
theorem vX {row l:List It} {i j:Nat} (h:l.Sublist (row.take i)) (hij:i≤j) (hj:j<row.length):(l++ [row.getD j (0,0,0)]).Sublist (row.take (j+1)):=by
 rw [yb hj]
 exact List.Sublist.append (h.trans (HW hij)) (List.Sublist.refl _)
def RC (a b:Int):List It→Prop
 | []=>True
 | [t]=>t.2.2=a∨t.2.2=b
 |s::t::l=>(s.2.2=a∨s.2.2=b)∧s.2.2≠t.2.2∧RC a b (t::l)
end Go.Ab
end
section
namespace Go.Ab
open Go.Proofs
attribute [local congr] ACall.congr gd.congr Nx.congr
set_option maxRecDepth 10000
end Go.Ab
end
section
namespace Go.Ab
open Go.Proofs
attribute [local congr] ACall.congr gd.congr Nx.congr
set_option maxRecDepth 10000
def RD (g:Gr) (out:List Int) (x:Nat) (i:Nat):Bool:=(List.range i).all fun j=> !decide (hd g j=(x:Int))||decide (tl g j∈out)
def Ut (g:Gr) (out:List Int) (k:Nat) (f:Bool):Prop:=k≤g.n.toNat∧(if f then 0<k∧wt g out (k - 1)=0∧∀j,j<k - 1→wt g out j≠0 else ∀j,j<k→wt g out j≠0)
def Uu (out:List Int) (k:Nat) (f:Bool):List Int:=if f then out++ [((k - 1:Nat):Int)] else out
end Go.Ab
end
section
namespace Go.Ab
open Go.Proofs
attribute [local congr] ACall.congr gd.congr Nx.congr
set_option maxRecDepth 10000
end Go.Ab
end
section
namespace Go.Ab
open Go.Proofs
set_option maxRecDepth 10000
structure Pl where
 ord:List Int
 outs:List (List Int)
def aq (p:Pl) (k:Nat):Int:=p.ord.getD k 0
def bE (p:Pl) (x:Int):List Int:=p.outs.getD x.toNat []
def bk (g:Gr) (p:Pl):Prop:=p.outs.length=g.n.toNat∧p.ord.Perm (dW g.n.toNat)∧∀x:Nat,x<g.n.toNat→(p.outs.getD x []).Perm (cn g x)
def fK (g:Gr) (p:Pl):Nat→Fr
 |0=>⟨[], []⟩
 |k+1=>(aC g (fK g p k) (aq p k) (bE p (aq p k))).2
def cH (g:Gr) (p:Pl) (k:Nat):List It:=(aC g (fK g p k) (aq p k) (bE p (aq p k))).1.1
def rz (g:Gr) (p:Pl) (k:Nat):Bool:=az g (fK g p k) (aq p k)
def gW (g:Gr) (p:Pl):Nat→List (List It)
 |0=>List.replicate g.n.toNat []
 |k+1=>(gW g p k).set (aq p k).toNat (cH g p k)
def kZ (g:Gr) (p:Pl):Nat→Option Nat
 |0=>none
 |k+1=>match kZ g p k with
  |some i=>some i
  |none=>if rz g p k=true then none else some k
def aN (g:Gr) (p:Pl):Prop:=(bT g).1=0∧bk g p∧∀k,k<g.n.toNat→rz g p k=true
theorem gX {g:Gr} {p:Pl} :∀ {k:Nat},kZ g p k=none↔∀j,j<k→rz g p j=true
 |0=>by simp [kZ]
 |k+1=>by
  rw [kZ]
  cases h:kZ g p k with
  |some i=>
   simp only [reduceCtorEq,false_iff]
   intro h2
   rw [gX.2 fun j hj=>h2 j (by omega)] at h
   cases h
  |none=>
   have ih:=gX.1 h
   simp only
   constructor
   ·intro h2 j hj
    by_cases hjk:j=k
    ·subst hjk
     refine Decidable.byContradiction fun hn=> ?_
     rw [if_neg hn] at h2;cases h2
    ·exact ih j (by omega)
   ·intro h2
    rw [if_pos (h2 k (by omega))]
theorem vY {g:Gr} {p:Pl} {i:Nat} :∀ {k:Nat},kZ g p k=some i↔i<k∧rz g p i=false∧∀j,j<i→rz g p j=true
 |0=>by simp [kZ]
 |k+1=>by
  rw [kZ]
  cases h:kZ g p k with
  |some i'=>
   have ih:=(vY (g:=g) (p:=p)).1 h
   simp only [Option.some.injEq]
   constructor
   ·rintro rfl
    exact ⟨by omega,ih.2⟩
   ·rintro ⟨h1,h2,h3⟩
    rcases Nat.lt_trichotomy i' i with h4|h4|h4
    ·rw [h3 i' h4] at ih;simp at ih
    ·exact h4
    ·rw [ih.2.2 i h4] at h2;cases h2
  |none=>
   have ih:=gX.1 h
   simp only
   constructor
   ·intro h2
    by_cases hk:rz g p k=true
    ·rw [if_pos hk] at h2;cases h2
    ·rw [if_neg hk] at h2
     cases h2
     exact ⟨by omega,by simpa using hk,ih⟩
   ·rintro ⟨h1,h2,h3⟩
    have:i=k:=by
     by_cases h4:i<k
     ·rw [ih i h4] at h2;cases h2
     ·omega
    subst this
    rw [if_neg (by rw [h2];simp)]
theorem jJ {n:Nat} :(dW n).length=n:=by simp [dW]
theorem aM {g:Gr} {p:Pl} (h:bk g p):p.ord.length=g.n.toNat:=by rw [h.2.1.length_eq,jJ]
theorem b8 {g:Gr} {p:Pl} (h:bk g p):p.ord.Nodup:=h.2.1.nodup_iff.2 l9
theorem aH {g:Gr} {p:Pl} (h:bk g p) {k:Nat} (hk:k<g.n.toNat):0≤aq p k∧aq p k<g.n:=by
 have h1:aq p k∈p.ord:=aQ (by rw [aM h];exact hk)
 have:=cm.1 (h.2.1.mem_iff.1 h1)
 omega
theorem cQ {g:Gr} {p:Pl} (h:bk g p) {i j:Nat} (hi:i<g.n.toNat) (hj:j<g.n.toNat) (e:aq p i=aq p j):i=j:=
 jF (b8 h) (by rw [aM h];exact hi) (by rw [aM h];exact hj) e
theorem cz {g:Gr} {p:Pl} (h:bk g p) {x:Int} (h0:0≤x) (h1:x<g.n):∃k,k<g.n.toNat∧aq p k=x:=by
 have:x∈p.ord:=h.2.1.mem_iff.2 (cm.2 (by omega))
 obtain ⟨k,hk,e⟩:=List.mem_iff_getElem.1 this
 refine ⟨k,by rw [← aM h];exact hk, ?_⟩
 rw [aq,List.getD_eq_getElem?_getD,List.getElem?_eq_getElem hk,Option.getD_some,e]
theorem bp {g:Gr} {p:Pl} (h:bk g p) {x:Int} (h0:0≤x) (h1:x<g.n):(bE p x).Perm (cn g x):=by
 have:=h.2.2 x.toNat (by omega)
 rwa [show ((x.toNat:Nat):Int)=x by omega] at this
theorem ue {g:Gr} {p:Pl} (h:bk g p) {x:Int} (h0:0≤x) (h1:x<g.n):(bE p x).length≤g.es.length:=by
 rw [(bp h h0 h1).length_eq];exact HR
theorem bz {g:Gr} (hm:aG g=true) {p:Pl} (h:bk g p):∀ {k:Nat},k≤g.n.toNat→(∀j,j<k→rz g p j=true)→vW g (fK g p k)∧(fK g p k).pl=p.ord.take k∧(fK g p k).row.length≤k*(g.es.length+1)
 |0,_,_=>⟨qC g,by simp [fK],by simp [fK]⟩
 |k+1,hk,hok=>by
  obtain ⟨h1,h2,h3⟩:=bz hm h (k:=k) (by omega) fun j hj=>hok j (by omega)
  obtain ⟨x0,x1⟩:=aH h (k:=k) (by omega)
  have hl:=x8 (g:=g) (f:=fK g p k) (x:=aq p k) (o:=bE p (aq p k))
  have Cd:=ue h x0 x1
  refine ⟨iE hm h1 (hok k (by omega)) (bp h x0 x1), ?_, ?_⟩
  ·show (fK g p k).pl++ [aq p k]=_
   rw [h2,List.take_add_one,List.getElem?_eq_getElem (by rw [aM h];omega),aq,List.getD_eq_getElem?_getD,List.getElem?_eq_getElem (by rw [aM h];omega)]
   rfl
  ·show (aC _ _ _ _).2.row.length≤_
   rw [Nat.add_mul];omega
theorem HX {g:Gr} {p:Pl} (h:bk g p) {k:Nat} (hk:k<g.n.toNat) (hR:rz g p k=true):gu g (fK g p k) (aq p k) (bE p (aq p k))=aC g (fK g p k) (aq p k) (bE p (aq p k)):=by
 have hp:=bp h (aH h hk).1 (aH h hk).2
 unfold gu
 have PJ:az g (fK g p k) (aq p k)=true:=hR
 rw [if_neg (by rw [PJ];simp),if_neg]
 rintro (h|⟨i,h1,h2⟩)
 ·exact h hp.length_eq
 ·exact h2 (hp.mem_iff.2 h1)
theorem HY {g:Gr} {p:Pl} {k:Nat} (hR:rz g p k=false):gu g (fK g p k) (aq p k) (bE p (aq p k))=(([],3),fK g p k):=if_pos hR
theorem qD {g:Gr} {p:Pl} :∀ {k:Nat},(gW g p k).length=g.n.toNat
 |0=>by simp [gW]
 |k+1=>by rw [gW,List.length_set,qD]
theorem oa {α:Type} {l:List α} {i j:Nat} {a d:α} (hi:i<l.length):(l.set i a).getD j d=if j=i then a else l.getD j d:=by
 rw [List.getD_eq_getElem?_getD,List.getElem?_set,List.getD_eq_getElem?_getD]
 by_cases h:i=j
 ·subst h;simp [hi]
 ·rw [if_neg h,if_neg (Ne.symm h)]
theorem uf {g:Gr} {p:Pl} (h:bk g p):∀ {k:Nat},k≤g.n.toNat→∀ {i:Nat},i<k→(gW g p k).getD (aq p i).toNat []=cH g p i
 |0,_,i,hi=>by omega
 |k+1,hk,i,hi=>by
  have hm:=aH h (k:=k) (by omega)
  rw [gW,oa (by rw [qD];omega)]
  by_cases e:i=k
  ·subst e;rw [if_pos rfl]
  ·have JH:=aH h (k:=i) (by omega)
   rw [if_neg (fun h2=>e (cQ h (by omega) (by omega) (by omega)))]
   exact uf h (by omega) (by omega)
theorem qE {l m:List Int} (h:iO l=m):l.Perm m:=by
 rw [← h];exact (List.mergeSort_perm l _).symm
theorem Bl {n:Nat} :(dW n).Pairwise (· ≤ ·):=by
 unfold dW
 refine List.Pairwise.map _ (fun a b (h:a<b)=> ?_) List.pairwise_lt_range
 show (a:Int)≤b
 omega
theorem J3 {g:Gr} (hm:aG g=true) {p:Pl} :(p.outs.length=g.n.toNat∧p.ord.length=g.n.toNat∧(∀i:Nat,i<(iO p.ord).length→(iO p.ord).getD i 0=i)∧∀x:Nat,x<p.outs.length→iO (p.outs.getD x [])=bB (·.1) g x)↔bk g p:=by
 constructor
 ·rintro ⟨h1,h2,h3,h4⟩
  refine ⟨h1,qE ?_,fun x hx=> ?_⟩
  ·refine List.ext_getElem (by rw [fC,h2,jJ]) fun i h5 h6=> ?_
   have:=h3 i h5
   rw [List.getD_eq_getElem?_getD,List.getElem?_eq_getElem h5,Option.getD_some] at this
   rw [this];simp [dW]
  ·have:=h4 x (by omega)
   rw [gT (by omega) (by omega)] at this
   exact qE this
 ·intro h
  refine ⟨h.1,aM h, ?_,fun x hx=> ?_⟩
  ·rw [vV h.2.1 Bl]
   intro i hi
   rw [jJ] at hi
   simp [dW,List.getD_eq_getElem?_getD,List.getElem?_range hi]
  ·rw [gT (by omega) (by have:=h.1;omega)]
   exact vV (h.2.2 x (by rw [← h.1];exact hx)) s6
theorem J4 {g:Gr} (hm:aG g=true) {p:Pl} :(mD p.ord g.n=true∧p.outs.length=g.n.toNat∧(∀x:Nat,x<p.outs.length→∀i∈p.outs.getD x [],i∈cn g x)∧p.outs.flatten.Nodup∧∀i:Nat,i<g.es.length→(i:Int)∈p.outs.flatten)↔bk g p:=by
 have hn:=aA hm
 constructor
 ·rintro ⟨h1,h2,h3,h4,h5⟩
  refine ⟨h2, ?_,fun x hx=> ?_⟩
  ·obtain ⟨e1,e2⟩:=b7.1 h1
   exact qB l9 e2 (by rw [jJ];omega)
  ·have hxl:x<p.outs.length:=by omega
   have hmem:p.outs.getD x []∈p.outs:=aQ hxl
   have bN:(p.outs.getD x []).Nodup:=by
    rw [List.Nodup,List.pairwise_flatten] at h4
    exact h4.1 _ hmem
   refine (List.perm_ext_iff_of_nodup bN cq).2 fun i=>⟨h3 x hxl i,fun hi=> ?_⟩
   obtain ⟨k,rfl,hk,ht⟩:=iD hi
   obtain ⟨l,hl,cB⟩:=List.mem_flatten.1 (h5 k hk)
   obtain ⟨y,hy,rfl⟩:=List.mem_iff_getElem.1 hl
   have e:p.outs.getD y []=p.outs[y]:=by rw [List.getD_eq_getElem?_getD,List.getElem?_eq_getElem hy];rfl
   rw [← e] at cB
   obtain ⟨k',e1,_,e2⟩:=iD (h3 y hy _ cB)
   have:k=k':=by omega
   subst this
   have:x=y:=by omega
   subst this
   exact cB
 ·intro h
  refine ⟨b7.2 ⟨?_,fun x hx=>h.2.1.mem_iff.2 hx⟩,h.1,fun x hx i hi=>(h.2.2 x (by rw [← h.1];exact hx)).mem_iff.1 hi, ?_,fun i hi=> ?_⟩
  ·have:=aM h;omega
  ·rw [List.Nodup,List.pairwise_flatten]
   constructor
   ·intro l hl
    obtain ⟨x,hx,rfl⟩:=List.mem_iff_getElem.1 hl
    have e:p.outs.getD x []=p.outs[x]:=by rw [List.getD_eq_getElem?_getD,List.getElem?_eq_getElem hx];rfl
    rw [← e]
    exact (h.2.2 x (by rw [← h.1];exact hx)).nodup_iff.2 cq
   ·refine List.pairwise_iff_getElem.2 fun x y hx hy hxy a ha b hb e=> ?_
    subst e
    have ex:p.outs.getD x []=p.outs[x]:=by rw [List.getD_eq_getElem?_getD,List.getElem?_eq_getElem hx];rfl
    have ey:p.outs.getD y []=p.outs[y]:=by rw [List.getD_eq_getElem?_getD,List.getElem?_eq_getElem hy];rfl
    rw [← ex] at ha
    rw [← ey] at hb
    obtain ⟨k,e1,_,e2⟩:=iD ((h.2.2 x (by rw [← h.1];exact hx)).mem_iff.1 ha)
    obtain ⟨k',e3,_,e4⟩:=iD ((h.2.2 y (by rw [← h.1];exact hy)).mem_iff.1 hb)
    have:k=k':=by omega
    subst this
    omega
  ·have ht:=(cM hm hi).1
   refine List.mem_flatten.2 ⟨p.outs.getD (tl g i).toNat [],aQ (by rw [h.1];have:0≤tl g i∧tl g i<g.n:=ht;omega), ?_⟩
   have:0≤tl g i∧tl g i<g.n:=ht
   refine (h.2.2 _ (by omega)).mem_iff.2 ?_
   simp only [cn,aK,List.mem_map,List.mem_filter,List.mem_range,decide_eq_true_eq]
   exact ⟨i,⟨hi,by show tl g i=_;omega⟩,rfl⟩
end Go.Ab
end
section
namespace Go.Ab
open Go.Proofs
set_option maxRecDepth 10000
def qF (g:Gr) (p:Pl) (f:Fr) (x:Int):Fr:=(aC g f x (bE p x)).2
def vZ (g:Gr) (p:Pl):Nat→Fr→Prop
 |0,f=>(f.pl.length:Int)=g.n
 |m+1,f=>∃x,az g f x=true∧vZ g p m (qF g p f x)
theorem v7 {g:Gr} {p:Pl} :∀ {m:Nat} {f f':Fr},f.row=f'.row→f.pl.Perm f'.pl→vZ g p m f→vZ g p m f'
 |0,f,f',_,hp,h=>by
  have h:(f.pl.length:Int)=g.n:=h
  show (f'.pl.length:Int)=g.n
  rw [← hp.length_eq];exact h
 |m+1,f,f',hr,hp,⟨x,h1,h2⟩=>by
  refine ⟨x,by rw [← s7 hr hp];exact h1,v7 ?_ ?_ h2⟩
  ·simp only [qF,aC,hr]
  ·exact hp.append_right _
theorem Bm {g:Gr} (hc:(bT g).1=0) {p:Pl} (hp:bk g p):∀ {m:Nat} {f:Fr},vW g f→(f.pl.length:Int)+(m+1:Nat)=g.n→vZ g p (m+1) f→∀ {x:Int},az g f x=true→vZ g p m (qF g p f x)
 |m,f,hi,hl,⟨y,tE,hcan⟩,x,hR=>by
  have hm:=ag hc
  by_cases hxy:x=y
  ·subst hxy;exact hcan
  have py:=bp hp (aD tE).1 (aD tE).2.1
  have px:=bp hp (aD hR).1 (aD hR).2.1
  have i2:=iE hm hi tE py
  match m,hl,hcan with
  |0,hl,hcan=>
   exfalso
   have h1:=gV i2.toeo (by show ((f.pl++ [y]).length:Int)=g.n;simp;omega) (x:=x) ⟨(aD hR).1,(aD hR).2.1⟩
   have h2:x∈f.pl++ [y]:=h1
   simp [(aD hR).2.2,hxy] at h2
  |m+1,hl,hcan=>
   obtain ⟨h4,h5,h6,_⟩:=ya hc hi hxy hR tE px py
   have h3:=Bm hc hp i2 (by show (((f.pl++ [y]).length:Nat):Int)+_=_;simp;omega) hcan h5
   refine ⟨y,h4,v7 h6.symm ?_ h3⟩
   show (f.pl++ [y]++ [x]).Perm (f.pl++ [x]++ [y])
   rw [List.append_assoc,List.append_assoc]
   exact List.Perm.append_left _ (List.Perm.swap ..)
theorem Bn {g:Gr} {p:Pl} (h:aN g p):∀ {d k:Nat},k+d=g.n.toNat→vZ g p d (fK g p k)
 |0,k,hk=>by
  have hn:=aA (ag h.1)
  obtain ⟨_,bZ,_⟩:=bz (ag h.1) h.2.1 (k:=k) (by omega) fun j hj=>h.2.2 j (by omega)
  show ((fK g p k).pl.length:Int)=g.n
  rw [bZ,List.length_take,aM h.2.1];omega
 |d+1,k,hk=>⟨aq p k,h.2.2 k (by omega),Bn h (k:=k+1) (by omega)⟩
def gG (rev:Bool) (l:List It):List It:=if rev=true then l.reverse else l
def dh (g:Gr) (f:Fr) (rev:Bool):Int:=match (gG rev f.row).find? (fun t=>az g f t.2.2) with
 |some t=>t.2.2
 |none=>(dY g f).headD (-1)
def aS (g:Gr) (p:Pl) (rev:Bool):Nat→Fr
 |0=>⟨[], []⟩
 |k+1=>qF g p (aS g p rev k) (dh g (aS g p rev k) rev)
def dL (g:Gr) (p:Pl) (rev:Bool):Nat→List Int
 |0=>List.replicate g.n.toNat 0
 |k+1=>(dL g p rev k).set (dh g (aS g p rev k) rev).toNat (k:Int)
theorem jm {g:Gr} {p:Pl} {rev:Bool} :∀ {k:Nat},(dL g p rev k).length=g.n.toNat
 |0=>by simp [dL]
 |k+1=>by rw [dL,List.length_set,jm]
theorem iF {g:Gr} (hm:aG g=true) {f:Fr} (hi:eo g f) {x:Int} :x∈dY g f↔az g f x=true:=by
 simp only [dY,ku,List.mem_map,List.mem_filter,List.mem_range]
 constructor
 ·rintro ⟨k,⟨h1,h2⟩,rfl⟩
  rw [← iC hm hi];exact h2
 ·intro h
  obtain ⟨h1,h2,_⟩:=aD h
  have e:((x.toNat:Nat):Int)=x:=by omega
  refine ⟨x.toNat,⟨by omega, ?_⟩,e⟩
  rw [e,iC hm hi];exact h
theorem v8 {g:Gr} (hm:aG g=true) {f:Fr} (hi:eo g f) (h:∃x,az g f x=true) (rev:Bool):az g f (dh g f rev)=true:=by
 unfold dh
 cases hf:(gG rev f.row).find? (fun t=>az g f t.2.2) with
 |some t=>
  have h2:=List.find?_some (p:=fun t:It=>az g f t.2.2) hf
  exact h2
 |none=>
  obtain ⟨x,hx⟩:=h
  have hx:=(iF hm hi).2 hx
  match hL:dY g f with
  | []=>rw [hL] at hx;cases hx
  |y::l=>exact (iF hm hi).1 (by rw [hL];simp)
theorem fu {g:Gr} {p:Pl} (h:aN g p) (rev:Bool):∀ {k:Nat},k≤g.n.toNat→vW g (aS g p rev k)∧(aS g p rev k).pl.length=k∧vZ g p (g.n.toNat - k) (aS g p rev k)∧(aS g p rev k).row.length≤k*(g.es.length+1)
 |0,_=>⟨qC g,rfl,Bn h (k:=0) (by omega),by simp [aS]⟩
 |k+1,hk=>by
  have hm:=ag h.1
  have hn:=aA hm
  obtain ⟨h1,h2,h3,h4⟩:=fu h rev (k:=k) (by omega)
  obtain ⟨m,hmm⟩:∃m,g.n.toNat - k=m+1:=⟨g.n.toNat - k - 1,by omega⟩
  rw [hmm] at h3
  have hR:=v8 hm h1.toeo (by obtain ⟨x,hx,_⟩:=h3;exact ⟨x,hx⟩) rev
  have hx:=aD hR
  have hp:=bp h.2.1 hx.1 hx.2.1
  have hl:=x8 (g:=g) (f:=aS g p rev k) (x:=dh g (aS g p rev k) rev) (o:=bE p (dh g (aS g p rev k) rev))
  have Cd:=ue h.2.1 hx.1 hx.2.1
  refine ⟨iE hm h1 hR hp,hl.2.trans (by rw [h2]), ?_, ?_⟩
  ·rw [show g.n.toNat - (k+1)=m by omega]
   exact Bm h.1 h.2.1 h1 (by omega) h3 hR
  ·show (aC _ _ _ _).2.row.length≤_
   rw [Nat.add_mul];omega
theorem mo {g:Gr} {p:Pl} (h:aN g p) (rev:Bool) {k:Nat} (hk:k<g.n.toNat):az g (aS g p rev k) (dh g (aS g p rev k) rev)=true∧dY g (aS g p rev k)≠ []:=by
 have hm:=ag h.1
 obtain ⟨h1,h2,h3,_⟩:=fu h rev (k:=k) (by omega)
 obtain ⟨m,hmm⟩:∃m,g.n.toNat - k=m+1:=⟨g.n.toNat - k - 1,by omega⟩
 rw [hmm] at h3
 have hR:=v8 hm h1.toeo (by obtain ⟨x,hx,_⟩:=h3;exact ⟨x,hx⟩) rev
 exact ⟨hR,fun e=>by
  have:=(iF hm h1.toeo).2 hR
  rw [e] at this;cases this⟩
def fE (g:Gr) (p:Pl) (rev:Bool):List Int:=(List.range g.n.toNat).map fun k=>dh g (aS g p rev k) rev
theorem zN {g:Gr} {p:Pl} (rev:Bool):∀ {k:Nat},(aS g p rev k).pl=(List.range k).map fun j=>dh g (aS g p rev j) rev
 |0=>rfl
 |k+1=>by
  rw [List.range_succ,List.map_append, ← zN rev (k:=k)]
  rfl
theorem oc {g:Gr} {p:Pl} (h:aN g p) (rev:Bool):aN g ⟨fE g p rev,p.outs⟩:=by
 have hm:=ag h.1
 have hn:=aA hm
 obtain ⟨h1,h2,_,_⟩:=fu h rev (k:=g.n.toNat) (Nat.le_refl _)
 have bZ:(aS g p rev g.n.toNat).pl=fE g p rev:=zN rev
 have hQ:bk g ⟨fE g p rev,p.outs⟩:=by
  refine ⟨h.2.1.1, ?_,h.2.1.2.2⟩
  show (fE g p rev).Perm (dW g.n.toNat)
  rw [← bZ]
  refine (qB (ms:=(aS g p rev g.n.toNat).pl) (os:=dW g.n.toNat) h1.pl (fun x hx=>cm.2 (by have:=h1.oM x hx;omega)) (by rw [jJ,h2])).symm
 have lZ:∀k,k<g.n.toNat→aq ⟨fE g p rev,p.outs⟩ k=dh g (aS g p rev k) rev:=fun k hk=>by
  simp [aq,fE,List.getD_eq_getElem?_getD,List.getElem?_range hk]
 have Uv:∀k,k≤g.n.toNat→fK g ⟨fE g p rev,p.outs⟩ k=aS g p rev k:=by
  intro k
  induction k with
  |zero=>intro _;rfl
  |succ k ih=>
   intro hk
   show (aC g (fK g ⟨fE g p rev,p.outs⟩ k) _ _).2=_
   rw [lZ k (by omega),ih (by omega)]
   rfl
 refine ⟨h.1,hQ,fun k hk=> ?_⟩
 unfold rz
 rw [Uv k (by omega),lZ k hk]
 exact (mo h rev hk).1
end Go.Ab
end
section
namespace Go.Ab
open Go.Proofs
set_option maxRecDepth 10000
def jT (f:Fr):Fr:=⟨f.row.reverse,f.pl⟩
def b9 (p:Pl):Pl:=⟨p.ord,p.outs.map List.reverse⟩
theorem Fw {f:Fr} :jT (jT f)=f:=by simp [jT]
theorem zO {g:Gr} {f:Fr} (h:eo g f):eo g (jT f):=⟨fun t ht=>h.it t (List.mem_reverse.1 ht),h.pl,h.oM⟩
theorem fe.rev {x:Int} {l:List It} (h:fe x l):fe x l.reverse:=fun t ht=>h t (List.mem_reverse.1 ht)
theorem Mid.rev {x:Int} {X:List It} (h:Mid x X):Mid x X.reverse:=
 ⟨by obtain ⟨X',q,h1,h2⟩:=h.F5;exact ⟨q,X'.reverse,by simp [h1],h2⟩,by obtain ⟨p,X',h1,h2⟩:=h.fst;exact ⟨X'.reverse,p,by simp [h1],h2⟩,fun t ht=>h.al t (List.mem_reverse.1 ht)⟩
theorem we {g:Gr} (hm:aG g=true) {f:Fr} (hi:eo g f) {x:Int} (hR:az g f x=true):az g (jT f) x=true:=by
 obtain ⟨h0,h1,h2⟩:=aD hR
 by_cases hn:aV g x=0
 ·unfold az
  rw [if_neg (by rintro (h|h|h);omega;omega;exact h2 h),if_pos hn]
 ·obtain ⟨A,X,C,hr,hA,hC,hX,hc⟩:=bM hm hi hR hn
  exact jH hm (zO hi) h0 h1 h2 (A:=C.reverse) (X:=X.reverse) (C:=A.reverse) (by simp [jT,hr]) hC.rev hA.rev hX.rev (by rw [List.countP_reverse,hc])
theorem si {g:Gr} (hm:aG g=true) {f:Fr} (hi:eo g f) (x:Int):az g (jT f) x=az g f x:=by
 rw [Bool.eq_iff_iff]
 refine ⟨fun h=> ?_,we hm hi⟩
 have:=we hm (zO hi) h
 rwa [Fw] at this
theorem yc {g:Gr} {x:Int} {o:List Int} :aL g x o.reverse=(aL g x o).reverse:=by
 unfold aL
 by_cases h:o= []
 ·rw [if_pos h,if_pos (by rw [h];rfl)];rfl
 ·rw [if_neg h,if_neg (by simpa using h),List.map_reverse]
theorem wg {g:Gr} (hc:(bT g).1=0) {f:Fr} (hi:vW g f) {x:Int} (hR:az g f x=true) (o:List Int):
 aC g (jT f) x o.reverse=(((aC g f x o).1.1.reverse,0),jT (aC g f x o).2):=by
 have hm:=ag hc
 obtain ⟨h0,h1,h2⟩:=aD hR
 by_cases hn:aV g x=0
 ·have hrow:f.row= []:=by
   rcases hi.src with ⟨_,h⟩|⟨s,hs,hz⟩
   ·exact h
   ·have:=eV hc (x:=s) (y:=x) (hi.oM s hs) ⟨h0,h1⟩ hz hn
    exact absurd (this ▸ hs) h2
  have hno:fe x f.row:=by rw [hrow];intro t ht;cases ht
  have RE:fe x (jT f).row:=hno.rev
  rw [dK _ hno,dK _ RE]
  simp [jT,hrow,yc]
 ·obtain ⟨A,X,C,hr,hA,hC,hX,_⟩:=bM hm hi.toeo hR hn
  rw [eS o hr hA hC hX,eS (f:=jT f) (A:=C.reverse) (X:=X.reverse) (C:=A.reverse) o.reverse (by simp [jT,hr]) hC.rev hA.rev hX.rev]
  simp [jT,yc]
theorem mq {p:Pl} {x:Int} :bE (b9 p) x=(bE p x).reverse:=by
 unfold bE b9
 simp only [List.getD_eq_getElem?_getD,List.getElem?_map]
 cases p.outs[x.toNat]? <;>simp
theorem CO {g:Gr} {p:Pl} (h:bk g p):bk g (b9 p):=by
 refine ⟨by simpa [b9] using h.1,h.2.1,fun x hx=> ?_⟩
 have e:(b9 p).outs.getD x []=(p.outs.getD x []).reverse:=by
  have:=mq (p:=p) (x:=(x:Int))
  unfold bE at this
  simpa using this
 rw [e]
 exact (List.reverse_perm _).trans (h.2.2 x hx)
theorem CP {g:Gr} {p:Pl} (h:aN g p):∀ {k:Nat},k≤g.n.toNat→fK g (b9 p) k=jT (fK g p k)∧∀j,j<k→rz g (b9 p) j=true
 |0,_=>⟨rfl,fun j hj=>by omega⟩
 |k+1,hk=>by
  have hm:=ag h.1
  obtain ⟨h1,h2⟩:=CP h (k:=k) (by omega)
  obtain ⟨hi,_,_⟩:=bz hm h.2.1 (k:=k) (by omega) fun j hj=>h.2.2 j (by omega)
  have hR:az g (fK g p k) (aq p k)=true:=h.2.2 k (by omega)
  have ho:aq (b9 p) k=aq p k:=rfl
  have hok:rz g (b9 p) k=true:=by
   show az g (fK g (b9 p) k) (aq (b9 p) k)=true
   rw [h1,ho,si hm hi.toeo,hR]
  refine ⟨?_,fun j hj=> ?_⟩
  ·show (aC g (fK g (b9 p) k) (aq (b9 p) k) (bE (b9 p) (aq (b9 p) k))).2=_
   rw [h1,ho,mq,wg h.1 hi hR]
   rfl
  ·by_cases e:j=k
   ·subst e;exact hok
   ·exact h2 j (by omega)
theorem qG {g:Gr} {p:Pl} (h:aN g p):aN g (b9 p):=
 ⟨h.1,CO h.2.1,fun k hk=>(CP h (k:=k+1) (by omega)).2 k (by omega)⟩
theorem HZ {g:Gr} {p:Pl} (h:aN g p) {k:Nat} (hk:k<g.n.toNat):cH g (b9 p) k=(cH g p k).reverse:=by
 have hm:=ag h.1
 obtain ⟨hi,_,_⟩:=bz hm h.2.1 (k:=k) (by omega) fun j hj=>h.2.2 j (by omega)
 have ho:aq (b9 p) k=aq p k:=rfl
 show (aC g (fK g (b9 p) k) (aq (b9 p) k) (bE (b9 p) (aq (b9 p) k))).1.1=_
 rw [(CP h (by omega)).1,ho,mq,wg h.1 hi (h.2.2 k hk)]
 rfl
theorem Bo {g:Gr} (hm:aG g=true) {f:Fr} (hi:eo g f) (rev:Bool):dh g (jT f) (!rev)=dh g f rev:=by
 unfold dh
 have e1:gG (!rev) (jT f).row=gG rev f.row:=by cases rev<;>simp [gG,jT]
 have e2:(fun t:It=>az g (jT f) t.2.2)=fun t:It=>az g f t.2.2:=by funext t;exact si hm hi _
 have e3:dY g (jT f)=dY g f:=by
  unfold dY ku
  have:(fun x:Nat=>eD g (jT f) (x:Int))=fun x:Nat=>eD g f (x:Int):=by
   funext x;rw [iC hm (zO hi),iC hm hi,si hm hi]
  rw [this]
 rw [e1,e2,e3]
theorem Bp {g:Gr} {p:Pl} (h:aN g p) (rev:Bool):∀ {k:Nat},k≤g.n.toNat→aS g (b9 p) (!rev) k=jT (aS g p rev k)
 |0,_=>rfl
 |k+1,hk=>by
  have hm:=ag h.1
  obtain ⟨hi,_,_,_⟩:=fu h rev (k:=k) (by omega)
  have ih:=Bp h rev (k:=k) (by omega)
  show (aC g (aS g (b9 p) (!rev) k) (dh g (aS g (b9 p) (!rev) k) (!rev)) (bE (b9 p) _)).2=_
  rw [ih,Bo hm hi.toeo,mq,wg h.1 hi (mo h rev (by omega)).1]
  rfl
theorem wh {g:Gr} {p:Pl} (h:aN g p) (rev:Bool):∀ {k:Nat},k≤g.n.toNat→dL g (b9 p) (!rev) k=dL g p rev k
 |0,_=>rfl
 |k+1,hk=>by
  have hm:=ag h.1
  obtain ⟨hi,_,_,_⟩:=fu h rev (k:=k) (by omega)
  show (dL g (b9 p) (!rev) k).set (dh g (aS g (b9 p) (!rev) k) (!rev)).toNat (k:Int)=_
  rw [wh h rev (by omega),Bp h rev (by omega),Bo hm hi.toeo]
  rfl
theorem J5 {g:Gr} {p:Pl} {rev:Bool} {k:Nat} (hk:k<g.n.toNat):(fE g p rev).getD k 0=dh g (aS g p rev k) rev:=by
 simp [fE,List.getD_eq_getElem?_getD,List.getElem?_range hk]
theorem Bq {g:Gr} {p:Pl} {rev:Bool} :(fE g p rev).length=g.n.toNat:=by simp [fE]
theorem Fx {g:Gr} {p:Pl} (h:aN g p) (rev:Bool):(fE g p rev).Perm (dW g.n.toNat):=(oc h rev).2.1.2.1
theorem DL {g:Gr} {p:Pl} (h:aN g p) (rev:Bool):∀ {k:Nat},k≤g.n.toNat→∀j,j<k→(dL g p rev k).getD ((fE g p rev).getD j 0).toNat 0=(j:Int)
 |0,_,j,hj=>by omega
 |k+1,hk,j,hj=>by
  have hQ:=(oc h rev).2.1
  have yO:=aH hQ (k:=k) (by omega)
  have RF:=aH hQ (k:=j) (by omega)
  have ek:aq ⟨fE g p rev,p.outs⟩ k=(fE g p rev).getD k 0:=rfl
  have ej:aq ⟨fE g p rev,p.outs⟩ j=(fE g p rev).getD j 0:=rfl
  rw [dL, ← J5 (by omega),oa (by rw [jm];omega)]
  by_cases e:j=k
  ·subst e;rw [if_pos rfl]
  ·rw [if_neg,DL h rev (by omega) j (by omega)]
   intro e2
   exact e (cQ hQ (by omega) (by omega) (by omega))
end Go.Ab
end
