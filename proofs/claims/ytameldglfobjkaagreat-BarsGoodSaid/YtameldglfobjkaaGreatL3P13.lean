/- A part of the proof. -/
import Derived.Test.YtameldglfobjkaaGreatL3P12
set_option linter.unusedSimpArgs false
set_option linter.unusedVariables false
section
namespace Go.Ab
def Ord (g:Gr) (out:List Int):Prop:=∀p,p<out.length→∀i,i<g.es.length→hd g i=out.getD p 0→tl g i∈out.take p
theorem gK {l r:List Int} {p:Nat} (h:p<l.length):(l++r).getD p 0=l.getD p 0:=by
 rw [List.getD_eq_getElem?_getD,List.getD_eq_getElem?_getD,List.getElem?_append_left h]
theorem Ord.next {g:Gr} {out:List Int} (h:Ord g out) {x:Nat} (hb:∀i,i<g.es.length→hd g i=x→tl g i∈out):Ord g (out++ [(x:Int)]):=by
 intro p hp i hi hh
 rw [List.length_append,List.length_singleton] at hp
 by_cases fD:p<out.length
 ·rw [gK fD] at hh
  have:=h p fD i hi hh
  rw [List.take_append_of_le_length (by omega)]
  exact this
 ·have hpe:p=out.length:=by omega
  subst hpe
  rw [List.getD_eq_getElem?_getD,List.getElem?_append_right (by omega)] at hh
  simp at hh
  rw [List.take_append_of_le_length (by omega),List.take_of_length_le (by omega)]
  exact hb i hi hh
theorem uL {g:Gr} (hm:aO g=true):∀f out,fA g out→Ord g out→left g out≤f→fA g (vM g f out)∧Ord g (vM g f out)∧ee (c9 g (vM g f out)) 0<0
 |f,out,hP,hO,hl=>by
  rcases Nn (g:=g) out with hx|⟨x,hx,DO,hw⟩
  ·rw [zW (by omega)];exact ⟨hP,hO,by omega⟩
  ·obtain ⟨LS,_,hb⟩:=hP.next hm DO hw
   have hn:=wq hP LS
   cases f with
   |zero=>omega
   |succ f=>
    have:=uL hm f (out++ [(x:Int)]) LS (hO.next hb) (by omega)
    simp only [vM,hx]
    rw [if_neg (by omega)]
    exact this
theorem eV {g:Gr} (hm:aO g=true):fA g (aN g)∧Ord g (aN g)∧ee (c9 g (aN g)) 0<0:=
 uL hm _ _ (fA.nil g) (fun p hp=>by simp at hp) (by rw [qx];exact Nat.le_refl _)
theorem rD {g:Gr} (hm:aO g=true) {y:Nat} (hy:y<g.n.toNat):0<wt g (aN g) y↔(y:Int)∉aN g:=by
 obtain ⟨_,_,hi⟩:=eV hm
 constructor
 ·intro h hin;simp [wt,hin] at h
 ·intro h
  have h0:wt g (aN g) y≠0:=by
   intro e
   rcases fO (f:=fun y:Int=>decide (0=y)) (l:=c9 g (aN g)) 0 with ⟨_,h2⟩|⟨k,h1,_⟩
   ·have:=h2 _ (List.mem_of_getElem? (lH hy))
    rw [e] at this;simp at this
   ·have:ee (c9 g (aN g)) 0=k:=h1
    omega
  have:0≤wt g (aN g) y:=by simp only [wt,h,if_false];omega
  omega
theorem uM {g:Gr} {l:List Bool} {j y:Nat} (h:y<g.n.toNat):(fG g l j).getD y false=(List.range j).any fun i=>decide (hd g i=(y:Int))&&(l.getD (tl g i).toNat false&&l.getD (hd g i).toNat false):=by
 simp [fG,List.getD_eq_getElem?_getD,List.getElem?_range h]
theorem uN {g:Gr} (hm:aO g=true):∀k y,y<g.n.toNat→(y:Int)∉aN g→(gm g k).getD y false=true
 |0,y,hy,_=>by simp [gm,mW,List.getD_eq_getElem?_getD,List.getElem?_range hy];omega
 |k+1,y,hy,h=>by
  have hw:=(rD hm hy).2 h
  simp only [wt,h,if_false] at hw
  obtain ⟨i,hi,hp⟩:=List.countP_pos_iff.1 (Int.natCast_pos.1 hw)
  simp only [Bool.and_eq_true,decide_eq_true_eq,Bool.not_eq_true',decide_eq_false_iff_not] at hp
  have hil:=List.mem_range.1 hi
  obtain ⟨⟨h1,h2⟩,_⟩:=eH hm hil
  have ht:(g.es.getD i (0,0)).1=tl g i:=rfl
  rw [ht] at h1 h2
  have e:((tl g i).toNat:Int)=tl g i:=by omega
  have g1:=uN hm k (tl g i).toNat (by omega) (by rw [e];exact hp.2)
  have g2:=uN hm k y hy h
  show (fG g (gm g k) g.es.length).getD y false=true
  rw [uM hy,List.any_eq_true]
  refine ⟨i,hi, ?_⟩
  rw [hp.1,Int.toNat_natCast,g1,g2];simp
theorem CD {g:Gr} (hm:aO g=true):∀k p,p<k→p<(aN g).length→(gm g k).getD ((aN g).getD p 0).toNat false=false
 |0,p,h,_=>by omega
 |k+1,p,h,hp=>by
  obtain ⟨hP,hO,_⟩:=eV hm
  have hr:=hP.lo _ (iF hp)
  obtain ⟨y,hy⟩:∃y:Nat,(aN g).getD p 0=y:=⟨((aN g).getD p 0).toNat,by omega⟩
  have TP:y<g.n.toNat:=by omega
  rw [hy,Int.toNat_natCast]
  show (fG g (gm g k) g.es.length).getD y false=false
  rw [uM TP,List.any_eq_false]
  intro i hi
  have hil:=List.mem_range.1 hi
  simp only [Bool.and_eq_true,decide_eq_true_eq]
  rintro ⟨h1,h2,_⟩
  have ht:=hO p hp i hil (by rw [h1,hy])
  rw [List.mem_iff_getElem?] at ht
  obtain ⟨q,hq⟩:=ht
  rw [List.getElem?_take] at hq
  split at hq
  ·rename_i TQ
   have:=CD hm k q (by omega) (by omega)
   rw [List.getD_eq_getElem?_getD (l:=aN g),hq] at this
   rw [Option.getD_some,h2] at this
   cases this
  ·cases hq
theorem Gp {g:Gr} (hm:aO g=true) {y:Nat} (hy:y<g.n.toNat):(yg g).getD y false=true↔(y:Int)∉aN g:=by
 constructor
 ·intro h hin
  obtain ⟨hP,_,_⟩:=eV hm
  obtain ⟨p,hp,e⟩:=List.getElem_of_mem hin
  have hl:=hP.fuel
  have:=CD hm g.n.toNat p (by omega) hp
  rw [List.getD_eq_getElem?_getD (l:=aN g),List.getElem?_eq_getElem hp,Option.getD_some,e,Int.toNat_natCast] at this
  have h2:(gm g g.n.toNat).getD y false=true:=h
  rw [this] at h2;cases h2
 ·intro h;exact uN hm _ y hy h
theorem Gq {g:Gr} (hm:aO g=true) {y:Nat} (hy:y<g.n.toNat):(yg g).getD y false=decide (0<(c9 g (aN g)).getD y 0):=by
 rw [mR hy,Bool.eq_iff_iff,Gp hm hy,decide_eq_true_eq,rD hm hy]
theorem start_eq {g:Gr} (hm:aO g=true):(cz (fun n=>decide (0<n)) (c9 g (aN g))= -1∧Ie g=g.n)∨∃a:Nat,a<g.n.toNat∧cz (fun n=>decide (0<n)) (c9 g (aN g))=a∧Ie g=a∧(a:Int)∉aN g:=by
 have hlf:(yg g).length=g.n.toNat:=leftK_length
 rcases fO (f:=fun n:Int=>decide (0<n)) (l:=c9 g (aN g)) 0 with ⟨h1,h2⟩|⟨k,h1,h2,h3,h4⟩
 ·refine .inl ⟨h1, ?_⟩
  have:cz (fun b:Bool=>b) (yg g)= -1:=dc false fun j hj=>by
   rw [hlf] at hj
   rw [Gq hm hj]
   exact h2 _ (by rw [List.getD_eq_getElem?_getD,lH hj];exact List.mem_of_getElem? (lH hj))
  unfold Ie;rw [this,if_pos (by omega)]
 ·rw [wts_length] at h2
  refine .inr ⟨k,h2,h1, ?_, ?_⟩
  ·have:cz (fun b:Bool=>b) (yg g)=k:=eD (d:=false) (by omega) (fun j hj=>by
    rw [Gq hm (by omega)];exact h4 j hj) (by rw [Gq hm h2];exact h3)
   unfold Ie;rw [this,if_neg (by omega)]
  ·rw [← rD hm h2]
   rw [mR h2] at h3
   exact of_decide_eq_true h3
def Q (g:Gr) (a:Nat) (t:Int):Prop:=∃i,i<g.es.length∧hd g i=(a:Int)∧tl g i=t∧t∉aN g
theorem bL {g:Gr} (hm:aO g=true) {i:Nat} (hi:i<g.es.length):0≤tl g i∧tl g i<g.n:=(eH hm hi).1
theorem bQ {g:Gr} (hm:aO g=true) {i:Nat} (hi:i<g.es.length):0≤hd g i∧hd g i<g.n:=(eH hm hi).2
theorem DX {g:Gr} (hm:aO g=true) {i:Nat} (hi:i<g.es.length):0<(c9 g (aN g)).getD (tl g i).toNat 0↔tl g i∉aN g:=by
 have h:=bL hm hi
 have e:((tl g i).toNat:Int)=tl g i:=by omega
 rw [mR (by omega),rD hm (by omega),e]
theorem sM {g:Gr} (hm:aO g=true):∀(l:List Int) (b:Int),(∀e∈l,∃i:Nat,e=i∧i<g.es.length)→
 (b= -1∨0≤b)→(l.foldl (gl g (c9 g (aN g))) b=b∨∃i:Nat,(i:Int)∈l∧tl g i∉aN g∧l.foldl (gl g (c9 g (aN g))) b=tl g i)∧(0≤b→l.foldl (gl g (c9 g (aN g))) b≤b)∧
   (∀i:Nat,(i:Int)∈l→tl g i∉aN g→0≤l.foldl (gl g (c9 g (aN g))) b∧l.foldl (gl g (c9 g (aN g))) b≤tl g i)
 | [],b,_,_=>⟨.inl rfl,fun _=>Int.le_refl _,by simp⟩
 |e::l,b,he,hb=>by
  obtain ⟨i,rfl,hi⟩:=he e List.mem_cons_self
  have htr:=bL hm hi
  have hw:=DX hm hi
  have hstep:gl g (c9 g (aN g)) b (i:Int)=if tl g i∉aN g∧(b<0∨tl g i<b) then tl g i else b:=by
   simp only [gl,Int.toNat_natCast,hw]
  have hb':gl g (c9 g (aN g)) b (i:Int)= -1∨0≤gl g (c9 g (aN g)) b (i:Int):=by
   rw [hstep];split
   ·exact .inr htr.1
   ·exact hb
  obtain ⟨h1,h2,h3⟩:=sM hm l (gl g (c9 g (aN g)) b (i:Int)) (fun e h=>he e (List.mem_cons_of_mem _ h)) hb'
  simp only [List.foldl_cons]
  generalize hr:l.foldl (gl g (c9 g (aN g))) (gl g (c9 g (aN g)) b (i:Int))=r at h1 h2 h3 ⊢
  refine ⟨?_, ?_, ?_⟩
  ·rcases h1 with h1|⟨j,hj,h4,h5⟩
   ·rw [hstep] at h1
    split at h1
    ·rename_i hc
     exact .inr ⟨i,by simp,hc.1,h1⟩
    ·exact .inl h1
   ·exact .inr ⟨j,by simp [hj],h4,h5⟩
  ·intro h0
   rw [hstep] at h2
   split at h2
   ·rename_i hc;have:=h2 htr.1;omega
   ·exact h2 h0
  ·intro j hj hjn
   rcases List.mem_cons.1 hj with hj|hj
   ·have:j=i:=Int.ofNat.inj hj
    subst this
    rw [hstep] at h1 h2
    split at h1
    ·rename_i hc
     rw [if_pos hc] at h2
     have:=h2 htr.1
     rcases h1 with h1|⟨q,hq,h4,h5⟩
     ·omega
     ·obtain ⟨i',e',hi'⟩:=he q (List.mem_cons_of_mem _ hq)
      have:q=i':=Int.ofNat.inj e'
      subst this
      have:=bL hm hi';omega
    ·rename_i hc
     rw [if_neg hc] at h2
     have IL:¬(b<0∨tl g j<b):=fun h=>hc ⟨hjn,h⟩
     have:=h2 (by omega)
     rcases h1 with h1|⟨q,hq,h4,h5⟩
     ·omega
     ·obtain ⟨i',e',hi'⟩:=he q (List.mem_cons_of_mem _ hq)
      have:q=i':=Int.ofNat.inj e'
      subst this
      have:=bL hm hi';omega
   ·exact h3 j hj hjn
theorem uO {g:Gr} (hm:aO g=true) {a:Nat} (h:∃t,Q g a t):Q g a (jM g (c9 g (aN g)) a)∧∀t,Q g a t→jM g (c9 g (aN g)) a≤t:=by
 have hin:∀i,i<g.es.length→hd g i=(a:Int)→(i:Int)∈rC g a:=by
  intro i hi hh
  simp only [rC,fF,List.mem_map,List.mem_filter,List.mem_range,decide_eq_true_eq]
  exact ⟨i,⟨hi,hh⟩,rfl⟩
 obtain ⟨h1,_,h3⟩:=sM hm (rC g a) (-1) Gj (.inl rfl)
 have hG:jM g (c9 g (aN g)) a=(rC g a).foldl (gl g (c9 g (aN g))) (-1):=by simp [jM,wN]
 rw [← hG] at h1 h3
 have hle:∀t,Q g a t→0≤jM g (c9 g (aN g)) a∧jM g (c9 g (aN g)) a≤t:=by
  rintro t ⟨i,h4,h5,rfl,h6⟩
  exact h3 i (hin i h4 h5) h6
 obtain ⟨t,ht⟩:=h
 have h0:=(hle t ht).1
 refine ⟨?_,fun t ht=>(hle t ht).2⟩
 rcases h1 with h1|⟨i,hi,h4,h5⟩
 ·omega
 ·obtain ⟨i',e',hi',hh⟩:=yf hi
  have:i=i':=Int.ofNat.inj e'
  subst this
  exact ⟨i,hi',hh,h5.symm,by rw [h5];exact h4⟩
theorem uP {g:Gr} (hm:aO g=true) {a:Nat} :∀k,k≤g.es.length→(eS g a k=g.n∨Q g a (eS g a k))∧eS g a k≤g.n∧∀i,i<k→hd g i=(a:Int)→tl g i∉aN g→eS g a k≤tl g i
 |0,_=>⟨.inl rfl,Int.le_refl _,by simp⟩
 |k+1,hk=>by
  obtain ⟨h1,h2,h3⟩:=uP hm (a:=a) k (by omega)
  have htr:=bL hm (i:=k) (by omega)
  have e:((tl g k).toNat:Int)=tl g k:=by omega
  have hlf:=Gp hm (y:=(tl g k).toNat) (by omega)
  rw [e] at hlf
  rw [pq]
  unfold yh
  split
  ·rename_i hc0
   have hc:hd g k=(a:Int)∧tl g k∉aN g:=⟨hc0.1,hlf.1 hc0.2⟩
   refine ⟨?_,by omega, ?_⟩
   ·by_cases hle:eS g a k≤tl g k
    ·rw [Int.min_eq_left hle];exact h1
    ·rw [Int.min_eq_right (by omega)];exact .inr ⟨k,by omega,hc.1,rfl,hc.2⟩
   ·intro i hi hh hn
    by_cases hik:i=k
    ·subst hik;omega
    ·have:=h3 i (by omega) hh hn;omega
  ·rename_i hc
   refine ⟨h1,h2, ?_⟩
   intro i hi hh hn
   by_cases hik:i=k
   ·subst hik;exact absurd ⟨hh,hlf.2 hn⟩ hc
   ·exact h3 i (by omega) hh hn
theorem back_eq {g:Gr} (hm:aO g=true) {a:Nat} (h:∃t,Q g a t):jM g (c9 g (aN g)) a=eS g a g.es.length∧Q g a (eS g a g.es.length):=by
 obtain ⟨h1,h2⟩:=uO hm h
 obtain ⟨h3,h4,h5⟩:=uP hm (a:=a) g.es.length (Nat.le_refl _)
 have hb:eS g a g.es.length≤jM g (c9 g (aN g)) a:=by
  obtain ⟨i,h6,h7,h8,h9⟩:=h1
  rw [← h8] at h9 ⊢
  exact h5 i h6 h7 h9
 have hlt:jM g (c9 g (aN g)) a<g.n:=by
  obtain ⟨i,h6,h7,h8,h9⟩:=h1
  rw [← h8];exact (bL hm h6).2
 rcases h3 with h3|h3
 ·omega
 ·exact ⟨by have:=h2 _ h3;omega,h3⟩
theorem KU {g:Gr} (hm:aO g=true) {a:Nat} (ha:a<g.n.toNat) (h:(a:Int)∉aN g):∃t,Q g a t:=by
 have hw:=(rD hm ha).2 h
 simp only [wt,h,if_false] at hw
 obtain ⟨i,hi,hp⟩:=List.countP_pos_iff.1 (Int.natCast_pos.1 hw)
 simp only [Bool.and_eq_true,decide_eq_true_eq,Bool.not_eq_true',decide_eq_false_iff_not] at hp
 exact ⟨tl g i,i,List.mem_range.1 hi,hp.1,rfl,hp.2⟩
theorem Gs {g:Gr} (hm:aO g=true):∀(f f':Nat) (way:List Int) (a:Nat),way.Nodup→a<g.n.toNat→(a:Int)∉aN g→left g way≤f→left g way≤f'→
 lJ g (c9 g (aN g)) f way a=pn g f' way a∧(0≤(pn g f' way a).2∧(pn g f' way a).2∈(pn g f' way a).1∧(pn g f' way a).1.Nodup)
 |f,f',way,a,hd,ha,hn,h1,h2=>by
  by_cases hmem:(a:Int)∈way
  ·rw [kD (.inr hmem),zY hmem]
   exact ⟨rfl,by simp only;omega,hmem,hd⟩
  ·have hla:=jt ha hmem
   cases f with
   |zero=>omega
   |succ f=>
    cases f' with
    |zero=>omega
    |succ f'=>
     obtain ⟨hb,hq⟩:=back_eq hm (KU hm ha hn)
     obtain ⟨i,hi,_,ht,Np⟩:=hq
     have htr:=bL hm hi
     rw [ht] at htr
     obtain ⟨b,Nq⟩:∃b:Nat,eS g a g.es.length=b:=⟨(eS g a g.es.length).toNat,by omega⟩
     rw [Nq] at hb Np htr
     have hd':(way++ [(a:Int)]).Nodup:=by
      rw [List.nodup_append]
      refine ⟨hd,by simp, ?_⟩
      intro x hx y hy e
      simp at hy
      rw [← hy, ← e] at hmem;exact hmem hx
     have ih:=Gs hm f f' (way++ [(a:Int)]) b hd' (by omega) Np (by omega) (by omega)
     have e1:lJ g (c9 g (aN g)) (f+1) way a=lJ g (c9 g (aN g)) f (way++ [(a:Int)]) b:=by
      simp only [lJ];rw [if_neg (by intro h;rcases h with h|h;omega;exact hmem h),hb]
     have e2:pn g (f'+1) way a=pn g f' (way++ [(a:Int)]) b:=by
      simp only [pn];rw [if_neg hmem,Nq]
     rw [e1,e2];exact ih
theorem ym {g:Gr} {way:List Int} :left g way≤g.n.toNat:=by
 unfold left
 have:=List.countP_le_length (p:=fun y:Nat=> !decide ((y:Int)∈way)) (l:=List.range g.n.toNat)
 simpa using this
theorem uQ {l:List Int} (h:l.Nodup) {i j:Nat} (hi:i<l.length) (hj:j<l.length) (e:l.getD i 0=l.getD j 0):i=j:=by
 rw [List.getD_eq_getElem?_getD,List.getD_eq_getElem?_getD,List.getElem?_eq_getElem hi,List.getElem?_eq_getElem hj] at e
 exact (List.getElem_inj h).1 e
theorem Gt {l:List Int} {i:Nat} (hi:i<l.length):l.reverse.getD i 0=l.getD (l.length - 1 - i) 0:=by
 rw [List.getD_eq_getElem?_getD,List.getD_eq_getElem?_getD,List.getElem?_reverse hi]
theorem I2 {l:List Int} (hd:l.Nodup) (h0:0<l.length):me l.reverse=wR l:=by
 obtain ⟨m,q8,hm2,QJ⟩:=dW (jv h0)
 have OF:0<l.reverse.length:=by simpa using h0
 obtain ⟨k,Bc,hk2,Nr⟩:=dW (jv OF)
 have hmin:ja l.reverse=ja l:=by
  have h1:=yj (List.mem_reverse.2 (jv h0))
  have h2:=yj (List.mem_reverse.1 (jv OF))
  omega
 rw [List.length_reverse] at hk2
 have hk:l.length - 1 - k=m:=uQ hd (by omega) hm2 (by rw [← Gt hk2,Nr,QJ,hmin])
 have e1:me l.reverse=l.reverse.drop k++l.reverse.take k:=by
  simp only [me,Bc,Int.toNat_natCast]
 have e2:wR l=s6 l m l.length:=by simp only [wR,q8,Int.toNat_natCast]
 rw [e1,e2]
 refine List.ext_getElem? fun i=> ?_
 by_cases hi:i<l.length
 ·have hr:(s6 l m l.length)[i]? =some (l.getD ((m+l.length - i) % l.length) 0):=by
   simp [s6,List.getElem?_range hi]
  rw [hr]
  by_cases hik:i<l.length - k
  ·rw [List.getElem?_append_left (by simp;omega),List.getElem?_drop,List.getElem?_reverse (by omega)]
   have:(m+l.length - i) % l.length=m - i:=by
    rw [show m+l.length - i=(m - i)+l.length from by omega,Nat.add_mod_right,Nat.mod_eq_of_lt (by omega)]
   rw [this,show l.length - 1 - (k+i)=m - i from by omega,List.getD_eq_getElem?_getD,List.getElem?_eq_getElem (by omega)];rfl
  ·rw [List.getElem?_append_right (by simp;omega),List.length_drop,List.length_reverse,List.getElem?_take,if_pos (by omega),List.getElem?_reverse (by omega)]
   have:(m+l.length - i) % l.length=m+l.length - i:=Nat.mod_eq_of_lt (by omega)
   rw [this,show l.length - 1 - (i - (l.length - k))=m+l.length - i from by omega,List.getD_eq_getElem?_getD,List.getElem?_eq_getElem (by omega)];rfl
 ·rw [List.getElem?_eq_none (by simp;omega),List.getElem?_eq_none (by simp [s6];omega)]
theorem KW {g:Gr} (hm:aO g=true):kC g=mX g:=by
 have hn:=aM hm
 rcases start_eq hm with ⟨h1,h2⟩|⟨a,ha,h1,h2,h3⟩
 ·have:kB g=([], -1):=by
   unfold kB;rw [h1];exact kD (.inl (by omega)) _
  simp only [kC,mX,this]
  rw [if_pos (by omega),if_pos h2]
 ·obtain ⟨he,h4,h5,h6⟩:=Gs hm g.n.toNat (g.n.toNat+1) [] a (by simp) ha h3 ym (Nat.le_succ_of_le ym)
  have hw:kB g=qy g:=by
   unfold kB qy;rw [h1,h2];exact he
  have hr:pn g (g.n.toNat+1) [] a=qy g:=by unfold qy;rw [h2]
  rw [hr] at h4 h5 h6
  simp only [kC,mX,hw]
  rw [if_neg (by omega),if_neg (by omega)]
  obtain ⟨k,Bc,hk2,_⟩:=dW h5
  rw [Bc,Int.toNat_natCast]
  exact I2 (List.Pairwise.drop h6) (by simp;omega)
theorem KX (g:Gr):bF g=gU g:=by
 unfold bF gU
 cases hm:aO g with
 |false=>simp [iE,hm]
 |true=>rw [KW hm]
end Go.Ab
end
section
namespace Go.Ab
end Go.Ab
end
section
namespace Go.Ab
open Go.Proofs
attribute [local congr] ACall.congr gd.congr Nx.congr
set_option maxRecDepth 10000
def g0:Gr:=⟨3, [(0,1),(1,2),(2,1)]⟩
end Go.Ab
end
section
namespace Go.Ab
open Go.Proofs
attribute [local congr] ACall.congr gd.congr Nx.congr
set_option maxRecDepth 10000
def oK (g:Gr):Bool:=decide (g.n≤((aN g).length:Int))
def bT (g:Gr):List Int:=if oK g then aN g else []
theorem BA (g:Gr) (hm:aO g=true):Spec Tryz.prog 147 (Args [.d (vw g)]) [] (.tup [.d (sI (bT g)),eB (oK g)]) []:=by
 (refine Spec.hd (C:=T.cfg [] []) (rs:= [.t 2, .t 3]) (T.ah _ _) Tryz.func147 rfl rfl Tryz.ntmps147 Tryz.results147 (by simp [AObj.isNest]) (by simp [AObj.isNest]) (by kernel_rfl) T.mixed fun X hX hP hC aI bU=> ?_)
 cases hok:oK g with
 |true=>
  have hlt:decide (((aN g).length:Int)<g.n)=false:=decide_eq_false (by have:=of_decide_eq_true hok;omega)
  repeat' (first|refine Rn.p ?_|(with_reducible apply And.intro)|((first|(refine hK _ ?_;clear hK K)|with_reducible intro K hK|refine Rs.p ?_|((with_reducible first|apply oP|apply oQ);exact rfl)|refine aa hX hC hP (iD g hm) rfl rfl rfl (by simp only [go_sem,simprocAttr,hlt]) rfl ?_);try simp only [go_sem,simprocAttr,hlt])|((with_reducible refine oD ?_ ?_);kernel_rfl)|((with_reducible intro h);try simp only [go_sem,simprocAttr,hlt] at h)|omega|intro h)
  simp [bT,hok]
 |false=>
  have hlt:decide (((aN g).length:Int)<g.n)=true:=decide_eq_true (by have:=of_decide_eq_false hok;omega)
  repeat' (first|refine Rn.p ?_|(with_reducible apply And.intro)|((first|(refine hK _ ?_;clear hK K)|with_reducible intro K hK|refine Rs.p ?_|((with_reducible first|apply oP|apply oQ);exact rfl)|refine aa hX hC hP (iD g hm) rfl rfl rfl (by simp only [go_sem,simprocAttr,hlt]) rfl ?_);try simp only [go_sem,simprocAttr,hlt])|((with_reducible refine oD ?_ ?_);kernel_rfl)|((with_reducible intro h);try simp only [go_sem,simprocAttr,hlt] at h)|omega|intro h)
  simp [bT,hok]
def gL (l:List Int) (n:Int):Bool:=decide ((l.length:Int)=n)&&(List.range n.toNat).all fun x:Nat=>decide ((x:Int)∈l)
theorem iG {l:List Int} {x:Int} :decide (ee l x<0)= !decide (x∈l):=by
 rw [Bool.eq_iff_iff]
 simp only [decide_eq_true_eq,Bool.not_eq_true',decide_eq_false_iff_not]
 constructor
 ·intro h hm
  obtain ⟨k,hk,_⟩:=dW hm
  omega
 ·intro h
  rcases fO (f:=fun y:Int=>decide (x=y)) (l:=l) 0 with ⟨h1,_⟩|⟨q,_,h2,h3,_⟩
  ·unfold ee;omega
  ·exact absurd (by rw [of_decide_eq_true h3];exact iF h2) h
theorem cQ (l:List Int) (n:Int) (hl:l.length≤9223372036854775807):Spec Tryz.prog 184 (Args [.d (sI l),eN n]) [] (eB (gL l n)) []:=by
 (refine Spec.hd (C:=T.cfg [] []) (rs:= [.t 4]) (T.ah _ _) Tryz.func184 rfl rfl Tryz.ntmps184 Tryz.results184 (by simp [AObj.isNest]) (by simp [AObj.isNest]) (by kernel_rfl) T.mixed fun X hX hP hC aI bU=> ?_)
 repeat' (first|refine Rn.p ?_|(with_reducible apply And.intro)|((first|(refine hK _ ?_;clear hK K)|with_reducible intro K hK|refine Rs.p ?_|((with_reducible first|apply oP|apply oQ);exact rfl)|refine aa hX hC hP (bz l (k:Int) hl) rfl rfl rfl (by simp only [go_sem,simprocAttr,iG]) rfl ?_);try simp only [go_sem,simprocAttr,iG])|((with_reducible refine oD ?_ ?_);kernel_rfl)|((with_reducible intro h);try simp only [go_sem,simprocAttr,iG] at h)|omega|intro h)
 ·have hne:¬(l.length:Int)=n:=by assumption
  simp [gL,hne]
 have I1:(l.length:Int)=n:=by assumption
 refine ag (fun k:Nat=>(k:Int)≤n∧∀j,j<k→(j:Int)∈l) (fun k=>⟨[(0, .d (sI l)),(1,eN n),(5,eN k)], []⟩) (fun k=>n.toNat - k) 0 (by simp;omega) ?_ ?_
 ·(refine ⟨bY ?_,fun _ _ h=>h⟩;simp [go_sem,simprocAttr,iG])
 rintro k ⟨hk,hin⟩
 repeat' (first|refine Rn.p ?_|(with_reducible apply And.intro)|((first|(refine hK _ ?_;clear hK K)|with_reducible intro K hK|refine Rs.p ?_|((with_reducible first|apply oP|apply oQ);exact rfl)|refine aa hX hC hP (bz l (k:Int) hl) rfl rfl rfl (by simp only [go_sem,simprocAttr,iG]) rfl ?_);try simp only [go_sem,simprocAttr,iG])|((with_reducible refine oD ?_ ?_);kernel_rfl)|((with_reducible intro h);try simp only [go_sem,simprocAttr,iG] at h)|omega|intro h)
 ·have hlt:(k:Int)<n:=by assumption
  have hm:(List.range n.toNat).all (fun x:Nat=>decide ((x:Int)∈l))=false:=by
   rw [List.all_eq_false]
   exact ⟨k,List.mem_range.2 (by omega),by simpa using h⟩
  simp only [gL,hm,Bool.and_false]
 ·refine ⟨k+1,⟨by omega,fun j hj=> ?_⟩, ?_,by omega⟩
  ·by_cases hjk:j=k
   ·subst hjk;exact h
   ·exact hin j (by omega)
  ·(refine ⟨bY ?_,fun _ _ h=>h⟩;simp [go_sem,simprocAttr,iG])
 ·have hm:(List.range n.toNat).all (fun x:Nat=>decide ((x:Int)∈l))=true:=by
   rw [List.all_eq_true]
   intro x hx
   exact decide_eq_true (hin x (by have:=List.mem_range.1 hx;omega))
  simp only [gL,hm,Bool.and_true]
  exact (decide_eq_true I1).symm
end Go.Ab
end
section
namespace Go.Ab
open Go.Proofs
attribute [local congr] ACall.congr gd.congr Nx.congr
set_option maxRecDepth 10000
theorem count_le:∀(xs l:List Int),xs.Nodup→(∀x∈xs,x∈l)→xs.length≤l.countP (fun y=>decide (y∈xs))
 | [],_,_,_=>Nat.zero_le _
 |a::r,l,hd,h=>by
  obtain ⟨h1,h2⟩:=List.nodup_cons.1 hd
  have ih:=count_le r l h2 fun x hx=>h x (List.mem_cons_of_mem _ hx)
  have hp:=lI (p:=fun y=>decide (y∈a::r)) (q:=fun y=>decide (y∈r)) (r:=fun y=>decide (y=a)) (l:=l) (fun y _=>by
   by_cases hy:y=a
   ·subst hy;simp [h1]
   ·simp [hy])
  have ha:0<l.countP (fun y=>decide (y=a)):=List.countP_pos_iff.2 ⟨a,h a List.mem_cons_self,by simp⟩
  rw [hp,List.length_cons];omega
def ff (n:Nat):List Int:=(List.range n).map Int.ofNat
theorem dX {n:Nat} {x:Int} :x∈ff n↔0≤x∧x<n:=by
 simp only [ff,List.mem_map,List.mem_range]
 constructor
 ·rintro ⟨a,h,rfl⟩;simp;omega
 ·intro h;exact ⟨x.toNat,by omega,by simp;omega⟩
theorem ig {n:Nat} :(ff n).Nodup:=by
 unfold ff
 exact List.Pairwise.map _ (fun a b h e=>h (Int.ofNat.inj e)) List.nodup_range
theorem cD {l:List Int} {n:Int} :gL l n=true↔(l.length:Int)=n∧∀x∈ff n.toNat,x∈l:=by
 simp only [gL,Bool.and_eq_true,decide_eq_true_eq,List.all_eq_true,List.mem_range]
 constructor
 ·rintro ⟨h1,h2⟩
  refine ⟨h1,fun x hx=> ?_⟩
  obtain ⟨a,b⟩:=dX.1 hx
  have:=h2 x.toNat (by omega)
  rwa [show ((x.toNat:Nat):Int)=x from by omega] at this
 ·rintro ⟨h1,h2⟩
  exact ⟨h1,fun x hx=>h2 _ (dX.2 (by omega))⟩
theorem mY {l:List Int} {n:Int} (h:gL l n=true):∀x∈l,0≤x∧x<n:=by
 obtain ⟨h1,h2⟩:=cD.1 h
 have hc:=count_le (ff n.toNat) l ig h2
 have hlen:(ff n.toNat).length=n.toNat:=by simp [ff]
 have he:l.countP (fun y=>decide (y∈ff n.toNat))=l.length:=by
  have:=List.countP_le_length (p:=fun y=>decide (y∈ff n.toNat)) (l:=l)
  omega
 intro x hx
 have:=List.countP_eq_length.1 he x hx
 have:=dX.1 (of_decide_eq_true this)
 omega
def z1 (n:Nat) (l:List Int):Nat→List Int
 |0=>List.replicate n 0
 |k+1=>(z1 n l k).set (l.getD k 0).toNat k
theorem atK_length {n:Nat} {l:List Int} :∀ {k:Nat},(z1 n l k).length=n
 |0=>by simp [z1]
 |k+1=>by simp [z1,atK_length (k:=k)]
def Gu (g:Gr) (l:List Int) (j:Nat):Bool:=(List.range j).all fun i=>decide ((z1 g.n.toNat l l.length).getD (tl g i).toNat 0<(z1 g.n.toNat l l.length).getD (hd g i).toNat 0)
def yo (g:Gr) (l:List Int):Bool:=gL l g.n&&Gu g l g.es.length
attribute [go_sem] atK_length
end Go.Ab
end
section
namespace Go.Ab
def Vm (g:Gr) (out:List Int):Prop:=∀p,p<out.length→out.getD p 0=ee (c9 g (out.take p)) 0∧0≤out.getD p 0
theorem qz {g:Gr} (hm:aO g=true) (h:oK g=true):gL (aN g) g.n=true:=by
 obtain ⟨hP,_,_⟩:=eV hm
 have hn:=aM hm
 have hf:=hP.fuel
 have hok:=of_decide_eq_true h
 refine cD.2 ⟨by omega,fun x hx=> ?_⟩
 obtain ⟨h1,h2⟩:=dX.1 hx
 have h0:(List.range g.n.toNat).countP (fun y:Nat=> !decide ((y:Int)∈aN g))=0:=by omega
 have:=List.countP_eq_zero.1 h0 x.toNat (List.mem_range.2 (by omega))
 rw [show ((x.toNat:Nat):Int)=x from by omega] at this
 simpa using this
theorem CE {g:Gr} (hm:aO g=true) (h:oK g=false):∃y:Nat,y<g.n.toNat∧(y:Int)∉aN g:=by
 obtain ⟨hP,_,_⟩:=eV hm
 have hn:=aM hm
 have hf:=hP.fuel
 have hok:=of_decide_eq_false h
 have h0:0<(List.range g.n.toNat).countP (fun y:Nat=> !decide ((y:Int)∈aN g)):=by omega
 obtain ⟨y,hy,hp⟩:=List.countP_pos_iff.1 h0
 exact ⟨y,List.mem_range.1 hy,by simpa using hp⟩
theorem Gv {g:Gr} {l:List Int} (h:yo g l=true) {i:Nat} (hi:i<g.es.length):(z1 g.n.toNat l l.length).getD (tl g i).toNat 0<(z1 g.n.toNat l l.length).getD (hd g i).toNat 0:=by
 simp only [yo,Bool.and_eq_true] at h
 have:=List.all_eq_true.1 h.2 i (List.mem_range.2 hi)
 exact of_decide_eq_true this
theorem uR {n:Nat} {l:List Int} :∀ {k:Nat} {y:Nat},0≤(z1 n l k).getD y 0
 |0,y=>by
  simp only [z1,List.getD_eq_getElem?_getD,List.getElem?_replicate]
  split<;>simp
 |k+1,y=>by
  have ih:=uR (n:=n) (l:=l) (k:=k) (y:=y)
  simp only [z1,List.getD_eq_getElem?_getD,List.getElem?_set] at ih ⊢
  split
  ·split<;>simp
  ·exact ih
theorem yp {l:List Int} {i j:Nat} (hij:i<j) (hj:j<l.length) (e:l.getD i 0=l.getD j 0):∀x∈l,x∈l.eraseIdx i:=by
 intro x hx
 obtain ⟨k,hk,rfl⟩:=List.getElem_of_mem hx
 rw [List.mem_iff_getElem?]
 rcases Nat.lt_trichotomy k i with h|h|h
 ·exact ⟨k,by rw [List.getElem?_eraseIdx,if_pos h,List.getElem?_eq_getElem hk]⟩
 ·subst h
  refine ⟨j - 1, ?_⟩
  rw [List.getElem?_eraseIdx,if_neg (by omega),show j - 1+1=j from by omega,List.getElem?_eq_getElem hj]
  rw [List.getD_eq_getElem?_getD,List.getD_eq_getElem?_getD,List.getElem?_eq_getElem hk,List.getElem?_eq_getElem hj] at e
  exact congrArg some e.symm
 ·exact ⟨k - 1,by rw [List.getElem?_eraseIdx,if_neg (by omega),show k - 1+1=k from by omega,List.getElem?_eq_getElem hk]⟩
theorem jy {l:List Int} {n:Int} (h:gL l n=true) {i j:Nat} (hi:i<l.length) (hj:j<l.length) (e:l.getD i 0=l.getD j 0):i=j:=by
 obtain ⟨h1,h2⟩:=cD.1 h
 have key:∀i j,i<j→j<l.length→l.getD i 0=l.getD j 0→False:=by
  intro i j hij hj e
  have hc:=count_le (ff n.toNat) (l.eraseIdx i) ig fun x hx=>yp hij hj e x (h2 x hx)
  have hlen:(ff n.toNat).length=n.toNat:=by simp [ff]
  have hle:=List.countP_le_length (p:=fun y=>decide (y∈ff n.toNat)) (l:=l.eraseIdx i)
  rw [List.length_eraseIdx_of_lt (by omega)] at hle
  omega
 rcases Nat.lt_trichotomy i j with h|h|h
 ·exact (key i j h hj e).elim
 ·exact h
 ·exact (key j i h hi e.symm).elim
theorem yq {l:List Int} {n:Int} (h:gL l n=true) {p:Nat} :∀ {k:Nat},p<k→k≤l.length→(z1 n.toNat l k).getD (l.getD p 0).toNat 0=p
 |0,hp,_=>by omega
 |k+1,hp,hk=>by
  have hlo:=mY h
  have hp1:=hlo _ (iF (l:=l) (m:=p) (by omega))
  have Bc:=hlo _ (iF (l:=l) (m:=k) (by omega))
  simp only [z1,List.getD_eq_getElem?_getD (l:=(z1 n.toNat l k).set _ _),List.getElem?_set,atK_length]
  by_cases hpk:p=k
  ·subst hpk
   rw [if_pos rfl,if_pos (by omega)];rfl
  ·have hne:¬(l.getD k 0).toNat=(l.getD p 0).toNat:=fun e=>hpk (jy h (i:=p) (j:=k) (by omega) (by omega) (by omega))
   rw [if_neg hne, ← List.getD_eq_getElem?_getD]
   exact yq h (by omega) (by omega)
theorem DY {g:Gr} (hm:aO g=true) (h:oK g=true):yo g (aN g)=true:=by
 have he:=qz hm h
 obtain ⟨hP,hO,_⟩:=eV hm
 have hall:=(cD.1 he).2
 simp only [yo,he,Bool.true_and,Gu,List.all_eq_true,List.mem_range,decide_eq_true_eq]
 intro i hi
 have hh:=bQ hm hi
 obtain ⟨p,hp,e⟩:=List.getElem_of_mem (hall (hd g i) (dX.2 (by omega)))
 have e':(aN g).getD p 0=hd g i:=by rw [List.getD_eq_getElem?_getD,List.getElem?_eq_getElem hp];exact e
 have ht:=hO p hp i hi e'.symm
 rw [List.mem_iff_getElem?] at ht
 obtain ⟨q,hq⟩:=ht
 rw [List.getElem?_take] at hq
 split at hq
 ·rename_i TQ
  have e2:(aN g).getD q 0=tl g i:=by rw [List.getD_eq_getElem?_getD,hq];rfl
  rw [← e', ← e2,yq he hp (Nat.le_refl _),yq he (by omega) (Nat.le_refl _)]
  omega
 ·cases hq
end Go.Ab
end
section
namespace Go.Ab
open Go.Proofs
attribute [local congr] ACall.congr gd.congr Nx.congr
set_option maxRecDepth 10000
end Go.Ab
end
section
namespace Go.Ab
open Go.Proofs
attribute [local congr] ACall.congr gd.congr Nx.congr
set_option maxRecDepth 10000
def gz:Gr:=⟨0, []⟩
def vz:D:= .pt [.sc (.int .i64 0), .sl 2 [], .sl 1 [], .sl 1 []]
def bD (f:Edge→Int) (g:Gr) (x:Int):List Int:=if 0≤x∧x<g.n then aJ f g.es g.es.length x else []
theorem uS (f:Edge→Int) (g:Gr) (hm:aO g=true) (x:Int):Spec Tryz.prog 128 (Args [.d (vw g), .d (.sl 1 (Ic f g)),eN x]) [] (.d (sI (bD f g x))) []:=by
 rw [aq]
 have hn:=aM hm
 have hl':(aJ f g.es g.es.length x).length≤1000000:=by have:=fe (f:=f) (es:=g.es) (k:=g.es.length) (x:=x);omega
 (refine Spec.hd (C:=T.cfg [] []) (rs:= [.t 6]) (T.ah _ _) Tryz.func128 rfl rfl Tryz.ntmps128 Tryz.results128 (by simp [AObj.isNest]) (by simp [AObj.isNest]) (by kernel_rfl) T.mixed fun X hX hP hC aI bU=> ?_)
 by_cases hx:0≤x∧x<g.n
 ·have hv:=mT (f:=f) (g:=g) (x:=x.toNat) (by omega)
  have he:fF f g.es g.es.length x.toNat=aJ f g.es g.es.length x:=by rw [kG,show ((x.toNat:Nat):Int)=x from by omega]
  rw [he] at hv
  have au:decide (x<0)=false:=decide_eq_false (by omega)
  have az:decide (g.n≤x)=false:=decide_eq_false (by omega)
  have ht:bD f g x=aJ f g.es g.es.length x:=if_pos hx
  repeat' (first|refine Rn.p ?_|(with_reducible apply And.intro)|((first|(refine hK _ ?_;clear hK K)|with_reducible intro K hK|refine Rs.p ?_|((with_reducible first|apply oP|apply oQ);exact rfl)|refine aa hX hC hP (mQ (aJ f g.es g.es.length x) hl') rfl rfl rfl (by simp only [go_sem,simprocAttr,hv,au,az]) rfl ?_);try simp only [go_sem,simprocAttr,hv,au,az])|((with_reducible refine oD ?_ ?_);kernel_rfl)|((with_reducible intro h);try simp only [go_sem,simprocAttr,hv,au,az] at h)|omega|intro h)
  simp [ht]
 ·have ht:bD f g x= []:=if_neg hx
  repeat' (first|refine Rn.p ?_|(with_reducible apply And.intro)|((first|(refine hK _ ?_;clear hK K)|with_reducible intro K hK|refine Rs.p ?_|((with_reducible first|apply oP|apply oQ);exact rfl)|refine aa hX hC hP (mQ (aJ f g.es g.es.length x) hl') rfl rfl rfl (by simp only [go_sem,simprocAttr,ht]) rfl ?_);try simp only [go_sem,simprocAttr,ht])|((with_reducible refine oD ?_ ?_);kernel_rfl)|((with_reducible intro h);try simp only [go_sem,simprocAttr,ht] at h)|omega|intro h)
theorem ji (g:Gr) (hm:aO g=true) (x:Int):Spec Tryz.prog 73 (Args [.d (vw g),eN x]) [] (.d (sI (bD (·.1) g x))) []:=by
 (refine Spec.hd (C:=T.cfg [] []) (rs:= [.t 4]) (T.ah _ _) Tryz.func73 rfl rfl Tryz.ntmps73 Tryz.results73 (by simp [AObj.isNest]) (by simp [AObj.isNest]) (by kernel_rfl) T.mixed fun X hX hP hC aI bU=> ?_)
 repeat' (first|refine Rn.p ?_|(with_reducible apply And.intro)|((first|(refine hK _ ?_;clear hK K)|with_reducible intro K hK|refine Rs.p ?_|((with_reducible first|apply oP|apply oQ);exact rfl)|refine aa hX hC hP (uS (·.1) g hm x) rfl rfl rfl (by simp only [go_sem,simprocAttr,aq]) rfl ?_);try simp only [go_sem,simprocAttr,aq])|((with_reducible refine oD ?_ ?_);kernel_rfl)|((with_reducible intro h);try simp only [go_sem,simprocAttr,aq] at h)|omega|intro h)
theorem jA (g:Gr) (hm:aO g=true) (x:Int):Spec Tryz.prog 100 (Args [.d (vw g),eN x]) [] (.d (sI (bD (·.2) g x))) []:=by
 (refine Spec.hd (C:=T.cfg [] []) (rs:= [.t 4]) (T.ah _ _) Tryz.func100 rfl rfl Tryz.ntmps100 Tryz.results100 (by simp [AObj.isNest]) (by simp [AObj.isNest]) (by kernel_rfl) T.mixed fun X hX hP hC aI bU=> ?_)
 repeat' (first|refine Rn.p ?_|(with_reducible apply And.intro)|((first|(refine hK _ ?_;clear hK K)|with_reducible intro K hK|refine Rs.p ?_|((with_reducible first|apply oP|apply oQ);exact rfl)|refine aa hX hC hP (uS (·.2) g hm x) rfl rfl rfl (by simp only [go_sem,simprocAttr,aq]) rfl ?_);try simp only [go_sem,simprocAttr,aq])|((with_reducible refine oD ?_ ?_);kernel_rfl)|((with_reducible intro h);try simp only [go_sem,simprocAttr,aq] at h)|omega|intro h)
end Go.Ab
end
section
namespace Go.Ab
open Go.Proofs
attribute [local congr] ACall.congr gd.congr Nx.congr
set_option maxRecDepth 10000
end Go.Ab
end
section
namespace Go.Ab
open Go.Proofs
attribute [local congr] ACall.congr gd.congr Nx.congr
set_option maxRecDepth 10000
def QK (g:Gr) (out:List Int) (x:Nat) (i:Nat):Bool:=(List.range i).all fun j=> !decide (hd g j=(x:Int))||decide (tl g j∈out)
def TR (g:Gr) (out:List Int) (k:Nat) (f:Bool):Prop:=k≤g.n.toNat∧(if f then 0<k∧wt g out (k - 1)=0∧∀j,j<k - 1→wt g out j≠0 else ∀j,j<k→wt g out j≠0)
def TS (out:List Int) (k:Nat) (f:Bool):List Int:=if f then out++ [((k - 1:Nat):Int)] else out
end Go.Ab
end
section
namespace Go.Ab
open Go.Proofs
attribute [local congr] ACall.congr gd.congr Nx.congr
set_option maxRecDepth 10000
theorem yu {g:Gr} (hm:aO g=true):(bT g).length≤64:=by
 unfold bT
 have hf:=(eV hm).1.fuel
 have:=aM hm
 split<;>simp<;>omega
end Go.Ab
end
