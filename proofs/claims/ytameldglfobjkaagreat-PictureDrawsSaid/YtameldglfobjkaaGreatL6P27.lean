/- A part of the proof. -/
import Derived.Shelf.SlicesG.Cmp
import Derived.Deep.QuietTactic
import Derived.Deep.RegionHeld3
import Derived.WalkKit
import Derived.LoopNIn
import Derived.LoopIn
import Derived.Sort.WalkA
import Derived.Sort.Grow
import Derived.Shelf.SlSortCmp.NoneTotal
import Derived.Test.YtameldglfobjkaaGreatL6P26
set_option linter.unusedSimpArgs false
set_option linter.unusedVariables false
set_option linter.unusedSectionVars false
section
set_option maxRecDepth 10000
set_option maxHeartbeats 4000000
namespace Go.Ab
open Go.Proofs Go.RowKit Go.Shelf Go.Lib Go.Sort
theorem Jr(x y:Int)(W:World):Calls Tryz.prog 79 #[.int .i64 x, .int .i64 y] W fun e w'=>e= .returned (.int .i64 (compareInt x y))/\w'=W:=
 AnyG.cmp_Compare_int Tryz.Um x y W
theorem Nf(W:World)(b:Nat)(c0 c1:Int)(h0:W.cell? ⟨b,0,none⟩=some (.int .i64 c0))(h1:W.cell? ⟨b,1,none⟩=some (.int .i64 c1)):
 Calls Tryz.prog 78 #[.slice (some ⟨b,0,none⟩) 2 2] W fun e w'=>e= .returned (.int .i64 (if c0=0 then c1 else c0))/\w'=W:=by
 by_cases hc:c0=0
 ·subst hc
  rw[ac9 rfl]
  by_cases hd:c1=0
  ·subst hd
   go_enter Tryz.func78,Tryz.ntmps78
   go_wp2
   go_loopw [8] (fun i wr=>∃k:Nat,k<=2/\i= .int .i64 k/\wr=W) (fun i _=>2 - (Go.Proofs.intOf i).toNat)
   case atStart=>exact⟨0,by omega,rfl,rfl⟩
   case round=>
    obtain⟨k,hk,rfl,rfl⟩:=hrel
    match k,hk with
    |0,_=>
     go_wp2
     exact⟨⟨1,by omega,rfl,trivial⟩,by decide⟩
    |1,_=>
     go_wp2
     exact⟨⟨2,by omega,rfl,trivial⟩,by decide⟩
    |2,_=>
     go_wp2
     go_ret
     exact⟨rfl,rfl⟩
  ·go_enter Tryz.func78,Tryz.ntmps78
   go_wp2
   go_loopw [8] (fun i wr=>∃k:Nat,k<=1/\i= .int .i64 k/\wr=W) (fun i _=>2 - (Go.Proofs.intOf i).toNat)
   case atStart=>exact⟨0,by omega,rfl,rfl⟩
   case round=>
    obtain⟨k,hk,rfl,rfl⟩:=hrel
    match k,hk with
    |0,_=>
     go_wp2
     exact⟨⟨1,by omega,rfl,trivial⟩,by decide⟩
    |1,_=>
     go_wp2
     go_ret
     exact⟨rfl,rfl⟩
 ·rw[ac7 hc]
  go_enter Tryz.func78,Tryz.ntmps78
  go_wp2
  go_loopw [8] (fun i wr=>i= .int .i64 0/\wr=W) (fun i _=>0)
  case atStart=>exact⟨rfl,rfl⟩
  case round=>
   obtain⟨rfl,rfl⟩:=hrel
   go_wp2
   go_ret
   exact⟨rfl,rfl⟩
def Hh(p:Pt):Value:= .agg #[.int .i64 p.1, .int .i64 p.2]
theorem u7(p:Pt)(hp:bC p)(W:World):Calls Tryz.prog 166 #[Hh p] W fun e w'=>e= .returned (.bool false)/\∃os',w'=grow W os':=by
 unfold Hh
 have h1:max p.1 p.2<=262144:=by unfold bC at hp;omega
 have h2: -262144<=min p.1 p.2:=by unfold bC at hp;omega
 clear hp
 go_enter Tryz.func166,Tryz.ntmps166
 go_wp2
 go_ret
 refine⟨?_,_,alloc_eq_grow _ _⟩
 show Ending.returned (.bool (decide (262144<max p.1 p.2)||decide (min p.1 p.2< -262144)))=_
 rw[ac5 (by omega),ac5 (by omega)];rfl
theorem Ng(a b c:Pt)(ha:bC a)(hb:bC b)(hc:bC c)(W:World)(blk:Nat)(h0:∀os,(grow W os).cell? ⟨blk,0,none⟩=some (.int .i64 a.1))(h1:∀os,(grow W os).cell? ⟨blk,1,none⟩=some (.int .i64 a.2))(h2:∀os,(grow W os).cell? ⟨blk,2,none⟩=some (.int .i64 b.1))(h3:∀os,(grow W os).cell? ⟨blk,3,none⟩=some (.int .i64 b.2))(h4:∀os,(grow W os).cell? ⟨blk,4,none⟩=some (.int .i64 c.1))(h5:∀os,(grow W os).cell? ⟨blk,5,none⟩=some (.int .i64 c.2)):
 Calls Tryz.prog 172 #[.slice (some ⟨blk,0,none⟩) 3 3, .func (.func 166) #[] #[]] W fun e w'=>e= .returned (.int .i64 (-1))/\∃os',w'=grow W os':=by
 have ca:=u7 a ha
 have cb:=u7 b hb
 have cc:=u7 c hc
 unfold Hh at ca cb cc
 go_enter Tryz.func172,Tryz.ntmps172
 go_wp2
 go_loopw [8] (fun i wr=>∃k:Nat,k<=3/\i= .int .i64 k/\∃os,wr=grow W os) (fun i _=>3 - (Go.Proofs.intOf i).toNat)
 case atStart=>exact⟨0,by omega,rfl, #[],(grow_empty W).symm⟩
 case round=>
  obtain⟨k,hk,rfl,os,rfl⟩:=hrel
  have g0:=h0 os
  have g1:=h1 os
  have g2:=h2 os
  have g3:=h3 os
  have g4:=h4 os
  have g5:=h5 os
  clear h0 h1 h2 h3 h4 h5
  have q1:max a.1 a.2<=262144/\ -262144<=min a.1 a.2:=by unfold bC at ha;omega
  have q2:max b.1 b.2<=262144/\ -262144<=min b.1 b.2:=by unfold bC at hb;omega
  have q3:max c.1 c.2<=262144/\ -262144<=min c.1 c.2:=by unfold bC at hc;omega
  clear ha hb hc ca cb cc
  match k,hk with
  |0,_=>
   go_wp2
   all_goals first
    |(exfalso;omega)
    |exact⟨⟨1,by omega,rfl,_,by rw[alloc_eq_grow,grow_grow]⟩,by decide⟩
  |1,_=>
   go_wp2
   all_goals first
    |(exfalso;omega)
    |exact⟨⟨2,by omega,rfl,_,by rw[alloc_eq_grow,grow_grow]⟩,by decide⟩
  |2,_=>
   go_wp2
   all_goals first
    |(exfalso;omega)
    |exact⟨⟨3,by omega,rfl,_,by rw[alloc_eq_grow,grow_grow]⟩,by decide⟩
  |3,_=>
   go_wp2
   go_ret
   exact⟨rfl,os,rfl⟩
theorem dy(W:World)(os:Array Obj)(a:Addr)(h:a.block<W.heap.size):(grow W os).cell? a=W.cell? a:=by
 simp only[grow,World.cell?,aes h]
theorem gF(w:World)(cs:Array Value)(e k i:Nat)(hk:k=w.heap.size):(w.alloc (.cells cs e)).cell? ⟨k,i,none⟩=cs[i]? :=by
 subst hk
 rw[alloc_eq_grow]
 simp only[grow,World.cell?]
 rw[Array.getElem?_append_right (adg _),ags]
 rfl
theorem Nh(a b c:Pt)(ha:bC a)(hb:bC b)(hc:bC c)(W:World)(blk:Nat)(hl:blk<W.heap.size)(h0:W.cell? ⟨blk,0,none⟩=some (.int .i64 a.1))(h1:W.cell? ⟨blk,1,none⟩=some (.int .i64 a.2))(h2:W.cell? ⟨blk,2,none⟩=some (.int .i64 b.1))(h3:W.cell? ⟨blk,3,none⟩=some (.int .i64 b.2))(h4:W.cell? ⟨blk,4,none⟩=some (.int .i64 c.1))(h5:W.cell? ⟨blk,5,none⟩=some (.int .i64 c.2)):
 Calls Tryz.prog 115 #[.slice (some ⟨blk,0,none⟩) 3 3] W fun e w'=>e= .returned (.bool true)/\∃os',w'=grow W os':=by
 have hI:=Ng a b c ha hb hc W blk (fun os=>(dy W os _ hl).trans h0) (fun os=>(dy W os _ hl).trans h1) (fun os=>(dy W os _ hl).trans h2) (fun os=>(dy W os _ hl).trans h3) (fun os=>(dy W os _ hl).trans h4) (fun os=>(dy W os _ hl).trans h5)
 have hC:Calls Tryz.prog 127 #[.slice (some ⟨blk,0,none⟩) 3 3, .func (.func 166) #[] #[]] W fun e w'=>e= .returned (.bool false)/\∃os',w'=grow W os':=by
  go_enter Tryz.func127,Tryz.ntmps127
  go_wp2_with (go_at_call 172;refine hI.mono ?_;rintro e w' ⟨rfl,os',rfl⟩)
  go_ret
  exact⟨rfl,os',rfl⟩
 clear hI h0 h1 h2 h3 h4 h5
 go_enter Tryz.func115,Tryz.ntmps115
 go_wp2_with (go_at_call 127;refine hC.mono ?_;rintro e w' ⟨rfl,os',rfl⟩)
 go_ret
 exact⟨rfl,os',rfl⟩
theorem Hj(a b c:Pt)(ha:bC a)(hb:bC b)(hc:bC c)(W:World):Calls Tryz.prog 131 #[Hh a,Hh b,Hh c] W fun e w'=>e= .returned (.int .i64 (sd a b c))/\∃os',w'=grow W os':=by
 have hT:∀W,Calls Tryz.prog 183 #[Hh a,Hh b,Hh a,Hh c] W fun e w'=>e= .returned (.int .i64 (tm a b a c))/\∃os',w'=grow W os':=fun W=>by
  unfold Hh tm
  obtain⟨a1,a2⟩:=a
  obtain⟨b1,b2⟩:=b
  obtain⟨c1,c2⟩:=c
  simp only[bC]at ha hb hc
  simp only
  have m1:=qu (x:=b1 - a1) (y:=c2 - a2) (m:=524288) (n:=524288) (by omega) (by omega)
  have m2:=qu (x:=b2 - a2) (y:=c1 - a1) (m:=524288) (n:=524288) (by omega) (by omega)
  go_enter Tryz.func183,Tryz.ntmps183
  go_wp2
  go_ret
  refine⟨rfl, ?_⟩
  simp only[alloc_eq_grow,grow_grow]
  exact⟨_,rfl⟩
 have hK:∀(x y:Int) (W:World),Calls Tryz.prog 79 #[.int .i64 x, .int .i64 y] W fun e w'=>e= .returned (.int .i64 (compareInt x y))/\w'=W:=fun x y W=>AnyG.cmp_Compare_int Tryz.Um x y W
 have hs:sd a b c=compareInt (tm a b a c) 0:=by
  unfold sd jh compareInt
  repeat' split
  all_goals(first|rfl|omega)
 rw[hs]
 have hK:=hK (tm a b a c) 0
 generalize tm a b a c=t at*
 generalize compareInt t 0=r at*
 unfold Hh at*
 go_enter Tryz.func131,Tryz.ntmps131
 go_wp2_with (first|(go_at_call 183;refine(hT _).mono ?_;rintro e w' ⟨rfl,os',rfl⟩)|(go_at_call 79;refine(hK _).mono ?_;rintro e w' ⟨rfl,rfl⟩))
 go_ret
 refine⟨rfl, ?_⟩
 simp only[alloc_eq_grow,grow_grow]
 exact⟨_,rfl⟩
theorem s8(w:World)(o:Obj)(a:Addr)(h:a.block<w.heap.size):(w.alloc o).cell? a=w.cell? a:=by
 rw[alloc_eq_grow];exact dy _ _ _ h
def Zo(p:Pt):Obj:= .cells #[.int .i64 p.1, .int .i64 p.2] 54
theorem Js(a b c:Pt)(ha:bC a)(hb:bC b)(hc:bC c)(W:World):Calls Tryz.prog 76 #[Hh a,Hh b,Hh c] W fun e w'=>e= .returned (.int .i64 (sd a b c))/\∃os',w'=grow W os':=by
 obtain⟨W3,VS⟩:∃W3,((W.alloc (Zo a)).alloc (Zo b)).alloc (Zo c)=W3:=⟨_,rfl⟩
 obtain⟨W4,Ni⟩:∃W4,W3.alloc (.cells #[.int .i64 a.1, .int .i64 a.2, .int .i64 b.1, .int .i64 b.2, .int .i64 c.1, .int .i64 c.2] 54)=W4:=⟨_,rfl⟩
 have z3:W3.heap.size=W.heap.size+1+1+1:=by rw[<- VS];simp only[World.size_alloc]
 have z4:W4.heap.size=W.heap.size+1+1+1+1:=by rw[<- Ni,World.size_alloc,z3]
 have h1:=Nh a b c ha hb hc W4 (W.heap.size+1+1+1) (by omega) (by rw[<- Ni,gF _ _ _ _ _ z3.symm];rfl) (by rw[<- Ni,gF _ _ _ _ _ z3.symm];rfl) (by rw[<- Ni,gF _ _ _ _ _ z3.symm];rfl) (by rw[<- Ni,gF _ _ _ _ _ z3.symm];rfl) (by rw[<- Ni,gF _ _ _ _ _ z3.symm];rfl) (by rw[<- Ni,gF _ _ _ _ _ z3.symm];rfl)
 have c0:∀i,W4.cell? ⟨W.heap.size,i,none⟩= #[Value.int .i64 a.1, .int .i64 a.2][i]? :=fun i=>by
  rw[<- Ni,s8 _ _ _ (by show W.heap.size<_;omega), <- VS,s8 _ _ _ (by simp only[World.size_alloc];omega),s8 _ _ _ (by simp only[World.size_alloc];omega)]
  exact gF _ _ _ _ _ rfl
 have c1:∀i,W4.cell? ⟨W.heap.size+1,i,none⟩= #[Value.int .i64 b.1, .int .i64 b.2][i]? :=fun i=>by
  rw[<- Ni,s8 _ _ _ (by show W.heap.size+1<_;omega), <- VS,s8 _ _ _ (by simp only[World.size_alloc];omega)]
  exact gF _ _ _ _ _ (by simp only[World.size_alloc])
 have c2:∀i,W4.cell? ⟨W.heap.size+1+1,i,none⟩= #[Value.int .i64 c.1, .int .i64 c.2][i]? :=fun i=>by
  rw[<- Ni,s8 _ _ _ (by show W.heap.size+1+1<_;omega), <- VS]
  exact gF _ _ _ _ _ (by simp only[World.size_alloc])
 have hW:∃os,W4=grow W os:=by
  rw[<- Ni, <- VS]
  simp only[alloc_eq_grow,grow_grow]
  exact⟨_,rfl⟩
 have CO:Calls Tryz.prog 115 #[.slice (some ⟨W.heap.size+1+1+1,0,none⟩) 3 3] W4 fun e w'=>e= .returned (.bool true)/\(∃os',grow W os'=w')/\w'.cell? ⟨W.heap.size,0,none⟩=some (.int .i64 a.1)/\w'.cell? ⟨W.heap.size,1,none⟩=some (.int .i64 a.2)/\w'.cell? ⟨W.heap.size+1,0,none⟩=some (.int .i64 b.1)/\w'.cell? ⟨W.heap.size+1,1,none⟩=some (.int .i64 b.2)/\w'.cell? ⟨W.heap.size+1+1,0,none⟩=some (.int .i64 c.1)/\w'.cell? ⟨W.heap.size+1+1,1,none⟩=some (.int .i64 c.2):=by
  refine h1.mono ?_
  rintro e w' ⟨he,os',rfl⟩
  obtain⟨os,ho⟩:=hW
  refine⟨he,⟨os++os',by rw[ho,grow_grow]⟩, ?_, ?_, ?_, ?_, ?_, ?_⟩
  ·rw[dy _ _ _ (by show W.heap.size<_;omega),c0];rfl
  ·rw[dy _ _ _ (by show W.heap.size<_;omega),c0];rfl
  ·rw[dy _ _ _ (by show W.heap.size+1<_;omega),c1];rfl
  ·rw[dy _ _ _ (by show W.heap.size+1<_;omega),c1];rfl
  ·rw[dy _ _ _ (by show W.heap.size+1+1<_;omega),c2];rfl
  ·rw[dy _ _ _ (by show W.heap.size+1+1<_;omega),c2];rfl
 rw[<- Ni, <- VS]at CO
 clear h1 c0 c1 c2 hW z3 z4 Ni VS W4 W3
 have h2:=fun W=>Hj a b c ha hb hc W
 generalize sd a b c=r at*
 clear ha hb hc
 unfold Zo at*
 unfold Hh at*
 go_enter Tryz.func76,Tryz.ntmps76
 go_wp2_with (first|(go_at_call 115;refine CO.mono ?_;rintro e w' ⟨rfl,⟨os',hw⟩,q0,q1,q2,q3,q4,q5⟩)|(go_at_call 131;refine(h2 _).mono ?_;rintro e w2 ⟨rfl,os2,Zp⟩))
 go_ret
 refine⟨rfl, ?_⟩
 rw[<- hw,grow_grow]
 exact⟨_,rfl⟩
theorem Dw{W:World}{os:Array Obj}{a:Addr}{v:Value}(h:W.cell? a=some v):(grow W.drew os).cell? a=some v:=by
 by_cases hl:a.block<W.heap.size
 ·exact(dy W.drew os a hl).trans h
 ·unfold World.cell? at h
  rw[aeg (agn hl)]at h
  cases h
theorem QK(r:Int)(h: -1<=r/\r<=1):IntKind.i64.wrap (-r)= -r:=by
 have:r= -1\/r=0\/r=1:=by omega
 rcases this with rfl|rfl|rfl<;>decide
theorem QL(a b c:Pt): -1<=sd a b c/\sd a b c<=1:=by
 unfold sd jh
 split
 ·decide
 ·split<;>decide
theorem VT(W:World)(B Xb bp op lp cp bl ol ll cl x i k bi oi li ci bk ok lk ck:Nat)(P Li Lk:Pt)(hP:bC P)(hLi:bC Li)(Yl:bC Lk)
 (XY:W.cell? ⟨B,0,none⟩=some (.slice (some ⟨bp,op,none⟩) lp cp)) (hB1:W.cell? ⟨B,1,none⟩=some (.slice (some ⟨bl,ol,none⟩) ll cl)) (hX:W.cell? ⟨Xb,0,none⟩=some (.int .i64 x))
 (hx:x<lp) (hi:i<ll) (hk:k<ll) (hi1:1<li) (Ao:1<lk)
 (p0:W.cell? ⟨bp,op+x*2,none⟩=some (.int .i64 P.1)) (p1:W.cell? ⟨bp,op+x*2+1,none⟩=some (.int .i64 P.2))
 (si:W.cell? ⟨bl,ol+i,none⟩=some (.slice (some ⟨bi,oi,none⟩) li ci)) (sk:W.cell? ⟨bl,ol+k,none⟩=some (.slice (some ⟨bk,ok,none⟩) lk ck))
 (i0:W.cell? ⟨bi,oi+2,none⟩=some (.int .i64 Li.1)) (i1:W.cell? ⟨bi,oi+2+1,none⟩=some (.int .i64 Li.2)) (k0:W.cell? ⟨bk,ok+2,none⟩=some (.int .i64 Lk.1)) (k1:W.cell? ⟨bk,ok+2+1,none⟩=some (.int .i64 Lk.2)):
 Calls Tryz.prog 75 #[.int .i64 i, .int .i64 k, .pointer (some ⟨B,0,none⟩), .pointer (some ⟨Xb,0,none⟩)] W fun e w'=>e= .returned (.int .i64 (-(sd P Lk Li)))/\∃q os',w'=grow (W.drewN q) os':=by
 have h2:=fun W=>Js P Lk Li hP Yl hLi W
 have hn:=QK _ (QL P Lk Li)
 generalize sd P Lk Li=r at*
 clear hP hLi Yl
 have a1:(1:Int)<(li:Int):=by omega
 have a2:(1:Int)<(lk:Int):=by omega
 have a3:(1:Int)<=(li:Int):=by omega
 have a4:(1:Int)<=(lk:Int):=by omega
 have b1:(x:Int)<(lp:Int):=by omega
 have b2:(i:Int)<(ll:Int):=by omega
 have b3:(k:Int)<(ll:Int):=by omega
 unfold Hh at h2
 go_enter Tryz.func75,Tryz.ntmps75
 go_wp2
 go_region_held3 (fun w'=>w'.cell? ⟨B,0,none⟩=some (.slice (some ⟨bp,op,none⟩) lp cp)/\w'.cell? ⟨B,1,none⟩=some (.slice (some ⟨bl,ol,none⟩) ll cl)/\w'.cell? ⟨Xb,0,none⟩=some (.int .i64 x)/\w'.cell? ⟨bp,op+x*2,none⟩=some (.int .i64 P.1)/\w'.cell? ⟨bp,op+x*2+1,none⟩=some (.int .i64 P.2)/\w'.cell? ⟨bl,ol+i,none⟩=some (.slice (some ⟨bi,oi,none⟩) li ci)/\w'.cell? ⟨bl,ol+k,none⟩=some (.slice (some ⟨bk,ok,none⟩) lk ck)/\w'.cell? ⟨bi,oi+2,none⟩=some (.int .i64 Li.1)/\w'.cell? ⟨bi,oi+2+1,none⟩=some (.int .i64 Li.2)/\w'.cell? ⟨bk,ok+2,none⟩=some (.int .i64 Lk.1)/\w'.cell? ⟨bk,ok+2+1,none⟩=some (.int .i64 Lk.2)) (first|(go_keep;done)|(repeat' (first|(refine And.intro ?_ ?_)|(exact Dw (by assumption))|(show W.cell? _=_;assumption))))
  (first|(go_at_call 76;refine(h2 _).mono ?_;rintro e w' ⟨rfl,os',rfl⟩))
 go_wp2
 go_ret
 exact⟨rfl,1,_,rfl⟩
theorem VU(W:World)(B bp op lp cp i k:Nat)(Pi Pk:Pt)
 (XY:W.cell? ⟨B,0,none⟩=some (.slice (some ⟨bp,op,none⟩) lp cp)) (hi:i<lp) (hk:k<lp)
 (i0:W.cell? ⟨bp,op+i*2,none⟩=some (.int .i64 Pi.1)) (i1:W.cell? ⟨bp,op+i*2+1,none⟩=some (.int .i64 Pi.2)) (k0:W.cell? ⟨bp,op+k*2,none⟩=some (.int .i64 Pk.1)) (k1:W.cell? ⟨bp,op+k*2+1,none⟩=some (.int .i64 Pk.2)):
 Calls Tryz.prog 77 #[.int .i64 i, .int .i64 k, .pointer (some ⟨B,0,none⟩)] W fun e w'=>e= .returned (.int .i64 (if compareInt Pi.2 Pk.2=0 then compareInt Pi.1 Pk.1 else compareInt Pi.2 Pk.2))/\∃q os',w'=grow (W.drewN q) os':=by
 have b2:(i:Int)<(lp:Int):=by omega
 have b3:(k:Int)<(lp:Int):=by omega
 generalize Pi.1=f1 at*
 generalize Pi.2=y1 at*
 generalize Pk.1=f2 at*
 generalize Pk.2=y2 at*
 have h3:=fun W b=>Nf W b (compareInt y1 y2) (compareInt f1 f2)
 generalize (if compareInt y1 y2=0 then compareInt f1 f2 else compareInt y1 y2)=r at h3 ⊢
 go_enter Tryz.func77,Tryz.ntmps77
 go_wp2
 go_region_held3 (fun w'=>w'.cell? ⟨B,0,none⟩=some (.slice (some ⟨bp,op,none⟩) lp cp)/\w'.cell? ⟨bp,op+i*2,none⟩=some (.int .i64 f1)/\w'.cell? ⟨bp,op+i*2+1,none⟩=some (.int .i64 y1)/\w'.cell? ⟨bp,op+k*2,none⟩=some (.int .i64 f2)/\w'.cell? ⟨bp,op+k*2+1,none⟩=some (.int .i64 y2)) (first|(go_keep;done)|(repeat' (first|(refine And.intro ?_ ?_)|(exact Dw (by assumption))|(show W.cell? _=_;assumption))))
  (first|(go_at_call 79;refine(Jr _ _ _).mono ?_;rintro e w' ⟨rfl,rfl⟩)|(go_at_call 78;refine(h3 _ _ (by simp) (by simp)).mono ?_;rintro e w' ⟨rfl,rfl⟩))
 go_wp2
 go_ret
 exact⟨rfl,1,_,by rw[alloc_eq_grow];rfl⟩
end Go.Ab
end
section
set_option maxRecDepth 10000
namespace Go.Ab
open Go.Proofs Go.RowKit Go.Shelf Go.Sort
theorem Jt{α:Type}{R:α->α->Prop}{l m:List α}(hp:l.Perm m)(ha:∀a b,a∈l->b∈l->R a b->R b a->a=b)(h1:l.Pairwise R)(h2:m.Pairwise R):l=m:=by
 induction l generalizing m with
 |nil=>exact hp.symm.eq_nil.symm
 |cons a l ih=>
  cases m with
  |nil=>exact absurd hp.length_eq (by simp)
  |cons b m=>
   obtain⟨a1,a2⟩:=aeV.1 h1
   obtain⟨b1,b2⟩:=aeV.1 h2
   have hab:a=b:=by
    refine ae9 fun hne=> ?_
    have ma:a∈b::m:=hp.mem_iff.1 (by simp)
    have mb:b∈a::l:=hp.mem_iff.2 (by simp)
    have ma:a∈m:=(adv.1 ma).elim (fun e=>absurd e hne) id
    have mb':b∈l:=(adv.1 mb).elim (fun e=>absurd e.symm hne) id
    exact hne (ha a b (by simp) mb (a1 b mb') (b1 a ma))
   subst hab
   rw[ih ((List.perm_cons a).1 hp) (fun c d hc hd=>ha c d (by simp[hc]) (by simp[hd])) a2 b2]
structure N5 (cf:Int->Int->Int) (l l':List Int):Prop where
 perm:l.Perm l'
 nd:l.Nodup
 ord:l'.Pairwise fun x y=>cf x y<0/\¬cf y x<0
 Zq:∀x∈l,¬cf x x<0
section
variable {cf:Int->Int->Int} {l l':List Int} (S:N5 cf l l')
include S
theorem N5.idx{x:Int}(h:x∈l):∃i,i<l'.length/\l'.getD i 0=x:=by
 obtain⟨i,hi,e⟩:=adr.1 (S.perm.mem_iff.1 h)
 exact⟨i,hi,by rw[aas,acF hi];exact e⟩
theorem N5.lt{i j:Nat}(hi:i<l'.length)(hj:j<l'.length):cf (l'.getD i 0) (l'.getD j 0)<0↔i<j:=by
 rw[aas,acF hi,aas,acF hj,Option.getD_some,Option.getD_some]
 rcases aew i j with h|h|h
 ·have:=aeh.1 S.ord i j hi hj h
  exact⟨fun _=>h,fun _=>this.1⟩
 ·subst h
  have:=S.Zq (l'[i]) (S.perm.mem_iff.2 (ad2 hi))
  exact⟨fun h=>absurd h this,fun h=>by omega⟩
 ·have:=aeh.1 S.ord j i hj hi h
  exact⟨fun h=>absurd h this.2,fun h=>by omega⟩
theorem N5.swo:SWO (ltOf fun x y: {x // x∈l} =>cf x.1 y.1) where
 irrefl x:=ac5 (S.Zq x.1 x.2)
 trans x y z h1 h2:=by
  obtain⟨i,hi,ei⟩:=S.idx x.2
  obtain⟨j,hj,ej⟩:=S.idx y.2
  obtain⟨k,hk,ek⟩:=S.idx z.2
  simp only[ltOf,adb, <- ei, <- ej, <- ek,S.lt hi hj,S.lt hj hk,S.lt hi hk]at h1 h2 ⊢
  omega
 ntrans x y z h1 h2:=by
  obtain⟨i,hi,ei⟩:=S.idx x.2
  obtain⟨j,hj,ej⟩:=S.idx y.2
  obtain⟨k,hk,ek⟩:=S.idx z.2
  simp only[ltOf,adL, <- ei, <- ej, <- ek,S.lt hi hj,S.lt hj hk,S.lt hi hk]at h1 h2 ⊢
  omega
theorem N5.eq{d d':Array {x // x∈l}}[Inhabited {x // x∈l}](hd:d.toList=l.attach)(hp:PermIn 0 d.size d d')(hs:SortedIn (ltOf fun x y: {x // x∈l} =>cf x.1 y.1) 0 d.size d'):d'.toList.map (·.1)=l':=by
 obtain⟨h1,_,h3⟩:=hp
 have e1:d'.extract 0 d.size=d':=by rw[<- h1];exact Array.extract_size
 have e2:d.extract 0 d.size=d:=Array.extract_size
 rw[e1,e2,hd]at h3
 have h4:(d'.toList.map (·.1)).Perm l:=by
  have:=h3.map (fun x: {x // x∈l} =>x.1)
  rwa [List.attach_map_subtype_val]at this
 refine Jt (R:=fun x y=>¬cf y x<0) (h4.trans S.perm) (fun a b ha hb r1 r2=> ?_) ?_ (S.ord.imp fun h=>h.2)
 ·obtain⟨i,hi,ei⟩:=S.idx (h4.mem_iff.1 ha)
  obtain⟨j,hj,ej⟩:=S.idx (h4.mem_iff.1 hb)
  rw[<- ei, <- ej,S.lt hj hi]at r1
  rw[<- ei, <- ej,S.lt hi hj]at r2
  rw[<- ei, <- ej,show i=j by omega]
 ·rw[aeI,aeh]
  intro i j hi hj hij
  have:=hs i j (by omega) hij (by simpa[h1]using hj)
  rw[getElem!_pos d' j (by simpa using hj),getElem!_pos d' i (by simpa using hi)]at this
  simpa[ltOf]using this
end
def QM(P:Program)(g:Nat)(cb:Array Value)(cf:Int->Int->Int)(l:List Int)(blk:Nat)(w:World):Prop:=
 ∀W:World,w.heap.size<=W.heap.size->(∀b,b<w.heap.size->b≠blk->W.heap[b]? =w.heap[b]?)->∀x,x∈l->∀y,y∈l->
  Calls P g (#[.int .i64 x, .int .i64 y]++cb) W fun e w'=>e= .returned (.int .i64 (cf x y))/\∃q os',w'=grow (W.drewN q) os'
theorem rD{α:Type}[Inhabited α](enc:α->Value)(w:World)(blk m:Nat)(dk:Array α)(os:Array Obj){b:Nat}(hb:b<w.heap.size)(hne:b≠blk):(sortWorld enc w blk 0 m dk os).heap[b]? =w.heap[b]? :=by
 show((w.heap.modify blk _)++os)[b]? =_
 rw[aes (by simpa using hb),aeG,ac7 (by omega)]
theorem rH{α:Type}[Inhabited α](enc:α->Value)(w:World)(blk m:Nat)(dk:Array α)(os:Array Obj):w.heap.size<=(sortWorld enc w blk 0 m dk os).heap.size:=by
 show _<=((w.heap.modify blk _)++os).size
 simp
theorem CJ{α:Type}[Inhabited α](enc:α->Value)(w:World)(blk m:Nat)(dk:Array α)(os:Array Obj){cur:Array Value}{e:TypeId}{fr:Nat × Nat}(hb:w.heap[blk]? =some (.cells cur e fr)):
 (sortWorld enc w blk 0 m dk os).heap[blk]? =some (.cells (putCells enc 0 dk cur) e fr):=by
 have hlt:blk<w.heap.size:=(adq.1 hb).1
 show((w.heap.modify blk _)++os)[blk]? =_
 rw[aes (by simpa using hlt),aeG,ac9 rfl,hb]
 rfl
theorem zi(g:Nat)(cb:Array Value){cf:Int->Int->Int}{l l':List Int}(S:N5 cf l l')(hlen:l.length<=1000000)(eg:∀args w,(callFunc g args).run Tryz.prog w= .ok (.enter g args) w)
 (blk cap:Nat) (w:World) {cur:Array Value} {e:TypeId} (hb:w.heap[blk]? =some (.cells cur e (0,0))) (hc:∀i,i<l.length->cur[i]? =some (.int .i64 (l.getD i 0))) (hne:l≠ [])
 (hcmp:QM Tryz.prog g cb cf l blk w):
 Calls Tryz.prog 74 #[.slice (some ⟨blk,0,none⟩) l.length cap, .func (.func g) #[] cb] w fun en w'=>en= .returned (.tuple #[])/\
  w'.os=w.os/\w'.tape=w.tape/\w'.output=w.output/\w.heap.size<=w'.heap.size/\(∀b,b<w.heap.size->b≠blk->w'.heap[b]? =w.heap[b]?)/\
  ∃cur',w'.heap[blk]? =some (.cells cur' e (0,0))/\cur'.size=cur.size/\∀i,i<l'.length->cur'[i]? =some (.int .i64 (l'.getD i 0)):=by
 have hlt:blk<w.heap.size:=(adq.1 hb).1
 obtain⟨a0,ha0⟩:∃a,a∈l:=by
  cases l with
  |nil=>exact absurd rfl hne
  |cons a l=>exact⟨a,by simp⟩
 letI:Inhabited {x // x∈l} :=⟨⟨a0,ha0⟩⟩
 have hsz:(l.attach.toArray).size=l.length:=by simp
 have qy:∀j (hj:j<l.length),((l.attach.toArray)[j]!).1=l.getD j 0:=fun j hj=>by
  rw[getElem!_pos _ j (by simpa using hj),aas,acF hj]
  simp
 have hH:Holds (fun x: {x // x∈l} =>Value.int .i64 x.1) w blk 0 l.attach.toArray:=fun j hj=>by
  rw[hsz]at hj
  refine⟨?_, ?_⟩
  ·show _=some (Value.int .i64 ((l.attach.toArray)[j]!).1)
   rw[adT,qy j hj, <- hc j hj]
   simp[World.cell?,hb]
  ·simp[World.frozen?,hb]
 have UN:CmpLays1 Tryz.prog g cb (fun x: {x // x∈l} =>Value.int .i64 x.1) (fun x y=>cf x.1 y.1) blk 0 (l.attach.toArray).size w:=fun m os dk _ x y=>
  hcmp _ (rH ..) (fun b h1 h2=>rD _ _ _ _ _ _ h1 h2) x.1 x.2 y.1 y.2
 have Ym:=Any.slices_SortFunc Tryz.QJ (fun x: {x // x∈l} =>Value.int .i64 x.1) (fun _=>rfl) (fun x y=>cf x.1 y.1) S.swo g cb blk 0 cap l.attach.toArray w eg UN hH hlt (by rw[hsz];omega)
 rw[hsz]at Ym
 refine Calls.mono Ym ?_
 rintro en w' ⟨rfl,d',n,os,hp,hs,rfl⟩
 rw[<- hsz]at hp hs
 have he:=S.eq (d:=l.attach.toArray) (by simp) hp hs
 have hds:d'.size=l.length:=by rw[hp.1,hsz]
 refine⟨rfl,rfl,rfl,rfl,rH ..,fun b h1 h2=>rD _ _ _ _ _ _ h1 h2,_,CJ _ _ _ _ _ _ hb,by simp[putCells],fun i hi=> ?_⟩
 have hi2:i<l.length:=by rw[S.perm.length_eq];exact hi
 have hic:i<cur.size:=(adq.1 (hc i hi2)).1
 simp only[putCells,Array.getElem?_mapIdx,adX hic,Option.map_some]
 rw[ac9 ⟨by omega,by omega⟩,Nat.sub_zero,getElem!_pos d' i (by omega)]
 have:l'.getD i 0=(d'[i]'(by omega)).1:=by
  rw[<- he,aas,adm,ael,adX (by omega)]
  rfl
 rw[this]
theorem kS(p:Option Addr)(cap:Nat)(fv:Value)(w:World):Calls Tryz.prog 74 #[.slice p 0 cap,fv] w fun e w'=>e= .returned (.tuple #[])/\w'=w:=
 AnyF.slices_SortFunc_none {Tryz.QJ with} p cap fv w
theorem abc{a b:AObj}(ha:a.isNest=false)(hb:b.isNest=false){q:Nat}{o:AObj}(h:bM [(10000,a),(10001,b)] q=some o):(q=10000/\o=a)\/(q=10001/\o=b):=by
 have hl:look [(10000,a),(10001,b)] q=some o:=(fG (fun p hp=>by
  simp only[adv,aen,or_false]at hp
  rcases hp with rfl|rfl
  ·exact ha
  ·exact hb) h).1
 simp only[look]at hl
 split at hl
 ·rename_i e;cases hl;exact .inl ⟨e.symm,rfl⟩
 ·split at hl
  ·rename_i e;cases hl;exact .inr ⟨e.symm,rfl⟩
  ·cases hl
theorem Ju{g:Nat}{cells:List AV}{cf:Int->Int->Int}{l l':List Int}(S:N5 cf l l')(hlen:l.length<=1000000)(eg:∀args w,(callFunc g args).run Tryz.prog w= .ok (.enter g args) w)(zw:AV.idss cells= [])
 (hcmp:∀(w:World) (E:Env) (B blk:Nat) (vs:List Value) (e:TypeId),w.heap[B]? =some (.cells vs.toArray e (0,0))->AVrs w E cells vs->B≠blk->E.z blk=0->QM Tryz.prog g #[.pointer (some ⟨B,0,none⟩)] cf l blk w):
 Spec Tryz.prog 74 (Args [.ref 10000, .fn g [] [.ptr 10001 0]]) [(10000, .own 3 1 (l.map rI)),(10001, .box cells)] (.tup []) [(10000, .own 3 1 (l'.map rI)),(10001, .box cells)]:=by
 refine⟨⟨Tryz.f74,_,Tryz.func74,by kernel_rfl,rfl⟩,fun E w vals hg hA=> ?_⟩
 obtain⟨v,vs,rfl,h0,h3⟩:=hA
 obtain⟨v2,vs2,rfl,h1,h4⟩:=h3
 simp only[AVrs]at h4
 subst h4
 obtain⟨us,us',rfl,h5,h6⟩:=h1
 obtain⟨u,Sl,rfl,h7,h8⟩:=h6
 simp only[AVrs]at h5 h8
 subst h5 h8
 obtain⟨rfl,_⟩:=h0
 have o1:=hg.gw 10000 (.own 3 1 (l.map rI)) rfl
 obtain⟨B,cs,e,g1,g2,g3,g4,g5⟩:=hg.gw 10001 (.box cells) rfl
 obtain⟨B',hB,rfl⟩:=h7
 rw[g1]at hB
 cases hB
 obtain⟨_,_,o2⟩:=o1
 have iF:l.length=l'.length:=S.perm.length_eq
 have hkeep:∀ {w':World},(∀b,0<E.z b->w'.heap[b]? =w.heap[b]?)->aK w E.z w' E.z:=fun h b=>⟨adg _,fun o ho=>by
  simp only[World.cell?,h b (by omega)]⟩
 rcases o2 with ⟨r0,r1,p,r2⟩|⟨b,cur,cap,r0,r1,r2,r3,r4,r5,r6,r7⟩
 ·have hl0:l= []:=aeF.1 r1
  subst hl0
  have Jv:l'= []:=S.perm.symm.eq_nil
  subst Jv
  rw[r2]
  refine(kS p 0 _ w).mono ?_
  rintro en w' ⟨rfl,rfl⟩
  exact⟨_,E,rfl,Ob.refl _ _ _,hg,fun q o b hq hro hb=> .inr ⟨q,o,hq,hro,hb⟩,⟨[],rfl,rfl⟩⟩
 ·rw[adn]at r2 r3
  rw[r2]
  by_cases hl0:l= []
  ·subst hl0
   have Jv:l'= []:=S.perm.symm.eq_nil
   subst Jv
   refine(kS _ cap _ w).mono ?_
   rintro en w' ⟨rfl,rfl⟩
   exact⟨_,E,rfl,Ob.refl _ _ _,hg,fun q o b hq hro hb=> .inr ⟨q,o,hq,hro,hb⟩,⟨[],rfl,rfl⟩⟩
  have hne:B≠b:=fun e=>by
   subst e
   have:=hg.inj 10000 10001 B (by simp[bJ,look]) (by simp[bJ,look]) r0 g1
   omega
  have Ct:b<w.heap.size:=(adq.1 r1).1
  have Jw:∀i,i<l.length->cur[i]? =some (.int .i64 (l.getD i 0)):=fun i hi=>by
   obtain⟨v,h1,h2⟩:=r7 i 0 (rI l[i]) (.sc (.int .i64 l[i])) (by simp[acF hi]) rfl
   rw[mq h2]at h1
   simpa[aas,acF hi]using h1
  refine(zi g #[.pointer (some ⟨B,0,none⟩)] S hlen eg b cap w r1 Jw hl0 (hcmp w E B b cs e g2 g4 hne r6)).mono ?_
  rintro en w' ⟨rfl,k1,k2,k3,k4,k5,cur',k6,k7,k8⟩
  have hst:aK w E.z w' E.z:=hkeep fun q hq=>by
   by_cases Yn:q<w.heap.size
   ·exact k5 q Yn fun e=>by subst e;omega
   ·have:=hg.fresh q (by omega);omega
  have hs2:∀ {q o},bM [(10000, .own 3 1 (l'.map rI)),(10001, .box cells)] q=some o->(q=10000/\o= .own 3 1 (l'.map rI))\/(q=10001/\o= .box cells):=fun h=>abc rfl rfl h
  have Yo:∀ {q:Nat},bM [(10000, .own 3 1 (l'.map rI)),(10001, .box cells)] q≠none->bM [(10000, .own 3 1 (l.map rI)),(10001, .box cells)] q≠none:=fun {q} h=>by
   obtain⟨o,ho⟩:=ade.1 h
   rcases hs2 ho with ⟨rfl,_⟩|⟨rfl,_⟩
   ·simp[bJ,look]
   ·simp[bJ,look]
  refine⟨_,E,rfl,⟨k1,k2,k3,k4,hst,fun q hq hnm=>⟨k5 q hq fun e=> ?_,rfl⟩,fun _ _=>⟨rfl,rfl⟩⟩,⟨fun q hq=> ?_,fun q q' c hq oW=>hg.inj q q' c (Yo hq) (Yo oW),fun q o hq=> ?_,fun q hq=>hg.fresh q (by omega)⟩,fun q o c hq hro hc=> ?_,⟨[],rfl,rfl⟩⟩
  ·subst e
   exact hnm ⟨10000,_,rfl,rfl,r0⟩
  ·simp only[look]at hq
   split at hq
   ·omega
   ·split at hq
    ·omega
    ·exact absurd rfl hq
  ·rcases hs2 hq with ⟨rfl,rfl⟩|⟨rfl,rfl⟩
   ·refine⟨fun r hr=> ?_,by decide, .inr ⟨b,cur',cap,r0,k6, ?_, ?_,by rw[k7];exact r4,r5,r6,fun i j r x h1 h2=> ?_⟩⟩
    ·obtain⟨v,_,rfl⟩:=ada.1 hr
     rfl
    ·rw[adn, <- iF];exact r2
    ·rw[adn, <- iF];exact r3
    ·rw[adm]at h1
     obtain⟨v,h3,rfl⟩:=ad9.1 h1
     cases j with
     |succ j=>simp[rI]at h2
     |zero=>
      simp only[rI,List.getElem?_cons_zero,ady]at h2
      subst h2
      have hi:i<l'.length:=(adh.1 h3).1
      refine⟨_,by simpa using k8 i hi, ?_⟩
      rw[h3]
      exact .sc _ rfl
   ·have RW:B<w.heap.size:=(adq.1 g2).1
    exact⟨B,cs,e,g1,(k5 B RW hne).trans g2,g3,AVrs.mono ⟨hst,fun _ _=>rfl,fun _ _=>rfl⟩ (fun _ _=>trivial) (live:=fun _=>True) g4,g5⟩
  ·refine .inr ?_
   rcases hs2 hq with ⟨rfl,rfl⟩|⟨rfl,rfl⟩
   ·exact⟨10000,_,rfl,rfl,hc⟩
   ·exact⟨10001,_,rfl,rfl,hc⟩
theorem abd{a b c:AObj}(ha:a.isNest=false)(hb:b.isNest=false)(hc:c.isNest=false){q:Nat}{o:AObj}(h:bM [(10000,a),(10001,b),(10002,c)] q=some o):(q=10000/\o=a)\/(q=10001/\o=b)\/(q=10002/\o=c):=by
 have hl:look [(10000,a),(10001,b),(10002,c)] q=some o:=(fG (fun p hp=>by
  simp only[adv,aen,or_false]at hp
  rcases hp with rfl|rfl|rfl
  ·exact ha
  ·exact hb
  ·exact hc) h).1
 simp only[look]at hl
 split at hl
 ·rename_i e;cases hl;exact .inl ⟨e.symm,rfl⟩
 ·split at hl
  ·rename_i e;cases hl;exact .inr (.inl ⟨e.symm,rfl⟩)
  ·split at hl
   ·rename_i e;cases hl;exact .inr (.inr ⟨e.symm,rfl⟩)
   ·cases hl
theorem Hl{g:Nat}{c1 c2:List AV}{cf:Int->Int->Int}{l l':List Int}(S:N5 cf l l')(hlen:l.length<=1000000)(eg:∀args w,(callFunc g args).run Tryz.prog w= .ok (.enter g args) w)
 (hcmp:∀(w:World) (E:Env) (B1 B2 blk:Nat) (v1 v2:List Value) (e1 e2:TypeId),w.heap[B1]? =some (.cells v1.toArray e1 (0,0))->w.heap[B2]? =some (.cells v2.toArray e2 (0,0))->AVrs w E c1 v1->AVrs w E c2 v2->B1≠blk->B2≠blk->E.z blk=0->QM Tryz.prog g #[.pointer (some ⟨B1,0,none⟩), .pointer (some ⟨B2,0,none⟩)] cf l blk w):
 Spec Tryz.prog 74 (Args [.ref 10000, .fn g [] [.ptr 10001 0, .ptr 10002 0]]) [(10000, .own 3 1 (l.map rI)),(10001, .box c1),(10002, .box c2)] (.tup []) [(10000, .own 3 1 (l'.map rI)),(10001, .box c1),(10002, .box c2)]:=by
 refine⟨⟨Tryz.f74,_,Tryz.func74,by kernel_rfl,rfl⟩,fun E w vals hg hA=> ?_⟩
 obtain⟨v,vs,rfl,h0,h3⟩:=hA
 obtain⟨v2,vs2,rfl,h1,h4⟩:=h3
 simp only[AVrs]at h4
 subst h4
 obtain⟨us,us',rfl,h5,h6⟩:=h1
 obtain⟨u,Sl,rfl,h7,h8⟩:=h6
 obtain⟨u2,us3,rfl,h9,XZ⟩:=h8
 simp only[AVrs]at h5 XZ
 subst h5 XZ
 obtain⟨rfl,_⟩:=h0
 have o1:=hg.gw 10000 (.own 3 1 (l.map rI)) rfl
 obtain⟨B,cs,e,g1,g2,g3,g4,g5⟩:=hg.gw 10001 (.box c1) rfl
 obtain⟨D,ds,e',RI,Xd,UK,k4',k5'⟩:=hg.gw 10002 (.box c2) rfl
 obtain⟨B',hB,rfl⟩:=h7
 rw[g1]at hB
 cases hB
 obtain⟨D',hD,rfl⟩:=h9
 rw[RI]at hD
 cases hD
 obtain⟨_,_,o2⟩:=o1
 have iF:l.length=l'.length:=S.perm.length_eq
 have hkeep:∀ {w':World},(∀b,0<E.z b->w'.heap[b]? =w.heap[b]?)->aK w E.z w' E.z:=fun h b=>⟨adg _,fun o ho=>by
  simp only[World.cell?,h b (by omega)]⟩
 rcases o2 with ⟨r0,r1,p,r2⟩|⟨b,cur,cap,r0,r1,r2,r3,r4,r5,r6,r7⟩
 ·have hl0:l= []:=aeF.1 r1
  subst hl0
  have Jv:l'= []:=S.perm.symm.eq_nil
  subst Jv
  rw[r2]
  refine(kS p 0 _ w).mono ?_
  rintro en w' ⟨rfl,rfl⟩
  exact⟨_,E,rfl,Ob.refl _ _ _,hg,fun q o b hq hro hb=> .inr ⟨q,o,hq,hro,hb⟩,⟨[],rfl,rfl⟩⟩
 ·rw[adn]at r2 r3
  rw[r2]
  by_cases hl0:l= []
  ·subst hl0
   have Jv:l'= []:=S.perm.symm.eq_nil
   subst Jv
   refine(kS _ cap _ w).mono ?_
   rintro en w' ⟨rfl,rfl⟩
   exact⟨_,E,rfl,Ob.refl _ _ _,hg,fun q o b hq hro hb=> .inr ⟨q,o,hq,hro,hb⟩,⟨[],rfl,rfl⟩⟩
  have hne:B≠b:=fun e=>by
   subst e
   have:=hg.inj 10000 10001 B (by simp[bJ,look]) (by simp[bJ,look]) r0 g1
   omega
  have ER:D≠b:=fun e=>by
   subst e
   have:=hg.inj 10000 10002 D (by simp[bJ,look]) (by simp[bJ,look]) r0 RI
   omega
  have Ct:b<w.heap.size:=(adq.1 r1).1
  have Jw:∀i,i<l.length->cur[i]? =some (.int .i64 (l.getD i 0)):=fun i hi=>by
   obtain⟨v,h1,h2⟩:=r7 i 0 (rI l[i]) (.sc (.int .i64 l[i])) (by simp[acF hi]) rfl
   rw[mq h2]at h1
   simpa[aas,acF hi]using h1
  refine(zi g #[.pointer (some ⟨B,0,none⟩), .pointer (some ⟨D,0,none⟩)] S hlen eg b cap w r1 Jw hl0 (hcmp w E B D b cs ds e e' g2 Xd g4 k4' hne ER r6)).mono ?_
  rintro en w' ⟨rfl,k1,k2,k3,k4,k5,cur',k6,k7,k8⟩
  have hst:aK w E.z w' E.z:=hkeep fun q hq=>by
   by_cases Yn:q<w.heap.size
   ·exact k5 q Yn fun e=>by subst e;omega
   ·have:=hg.fresh q (by omega);omega
  have hs2:∀ {q o},bM [(10000, .own 3 1 (l'.map rI)),(10001, .box c1),(10002, .box c2)] q=some o->(q=10000/\o= .own 3 1 (l'.map rI))\/(q=10001/\o= .box c1)\/(q=10002/\o= .box c2):=fun h=>abd rfl rfl rfl h
  have Yo:∀ {q:Nat},bM [(10000, .own 3 1 (l'.map rI)),(10001, .box c1),(10002, .box c2)] q≠none->bM [(10000, .own 3 1 (l.map rI)),(10001, .box c1),(10002, .box c2)] q≠none:=fun {q} h=>by
   obtain⟨o,ho⟩:=ade.1 h
   rcases hs2 ho with ⟨rfl,_⟩|⟨rfl,_⟩|⟨rfl,_⟩
   ·simp[bJ,look]
   ·simp[bJ,look]
   ·simp[bJ,look]
  refine⟨_,E,rfl,⟨k1,k2,k3,k4,hst,fun q hq hnm=>⟨k5 q hq fun e=> ?_,rfl⟩,fun _ _=>⟨rfl,rfl⟩⟩,⟨fun q hq=> ?_,fun q q' c hq oW=>hg.inj q q' c (Yo hq) (Yo oW),fun q o hq=> ?_,fun q hq=>hg.fresh q (by omega)⟩,fun q o c hq hro hc=> ?_,⟨[],rfl,rfl⟩⟩
  ·subst e
   exact hnm ⟨10000,_,rfl,rfl,r0⟩
  ·simp only[look]at hq
   split at hq
   ·omega
   ·split at hq
    ·omega
    ·split at hq
     ·omega
     ·exact absurd rfl hq
  ·rcases hs2 hq with ⟨rfl,rfl⟩|⟨rfl,rfl⟩|⟨rfl,rfl⟩
   ·refine⟨fun r hr=> ?_,by decide, .inr ⟨b,cur',cap,r0,k6, ?_, ?_,by rw[k7];exact r4,r5,r6,fun i j r x h1 h2=> ?_⟩⟩
    ·obtain⟨v,_,rfl⟩:=ada.1 hr
     rfl
    ·rw[adn, <- iF];exact r2
    ·rw[adn, <- iF];exact r3
    ·rw[adm]at h1
     obtain⟨v,h3,rfl⟩:=ad9.1 h1
     cases j with
     |succ j=>simp[rI]at h2
     |zero=>
      simp only[rI,List.getElem?_cons_zero,ady]at h2
      subst h2
      have hi:i<l'.length:=(adh.1 h3).1
      refine⟨_,by simpa using k8 i hi, ?_⟩
      rw[h3]
      exact .sc _ rfl
   ·have RW:B<w.heap.size:=(adq.1 g2).1
    exact⟨B,cs,e,g1,(k5 B RW hne).trans g2,g3,AVrs.mono ⟨hst,fun _ _=>rfl,fun _ _=>rfl⟩ (fun _ _=>trivial) (live:=fun _=>True) g4,g5⟩
   ·have hDl:D<w.heap.size:=(adq.1 Xd).1
    exact⟨D,ds,e',RI,(k5 D hDl ER).trans Xd,UK,AVrs.mono ⟨hst,fun _ _=>rfl,fun _ _=>rfl⟩ (fun _ _=>trivial) (live:=fun _=>True) k4',k5'⟩
  ·refine .inr ?_
   rcases hs2 hq with ⟨rfl,rfl⟩|⟨rfl,rfl⟩|⟨rfl,rfl⟩
   ·exact⟨10000,_,rfl,rfl,hc⟩
   ·exact⟨10001,_,rfl,rfl,hc⟩
   ·exact⟨10002,_,rfl,rfl,hc⟩
end Go.Ab
end
section
set_option maxRecDepth 10000
namespace Go.Ab
open Go.Proofs
structure nL (g:Gr) (p:Pl) (k:Nat) (e:Int):Prop where
 e0:0<=e
 e1:e<g.es.length
 low:bt g e∈p.ord.take k
 top:bA g e∉p.ord.take k
structure Ho (g:Gr) (p:Pl) (L:Nat->Int->Int->Prop):Prop where
 up:∀e:Int,0<=e->e<g.es.length->∀k,k<g.n.toNat->aq p k=bA g e->bt g e∈p.ord.take k
 btw:∀k,k<g.n.toNat->∀a b c:Int,nL g p k a->nL g p k b->nL g p k c->bA g a=aq p k->bA g c=aq p k->L k a b->L k b c->bA g b=aq p k
 keep:∀k,k<g.n.toNat->∀a b:Int,nL g p k a->nL g p k b->bA g a≠aq p k->bA g b≠aq p k->L k a b->L (k+1) a b
 left:∀k,k<g.n.toNat->∀a b c:Int,nL g p k a->nL g p k b->bA g a≠aq p k->bA g b=aq p k->c∈bE p (aq p k)->L k a b->L (k+1) a c
 right:∀k,k<g.n.toNat->∀a b c:Int,nL g p k a->nL g p k b->bA g a≠aq p k->bA g b=aq p k->c∈bE p (aq p k)->L k b a->L (k+1) c a
 outs:∀k,k<g.n.toNat->(bE p (aq p k)).Pairwise (L (k+1))
theorem Dx{α:Type}(P:α->Prop)[DecidablePred P]:∀l:List α,∃X v,l=X++v/\(∀t∈X,P t)/\(v= []\/∃b v',v=b::v'/\¬P b)
 | []=>⟨[], [],rfl,by simp, .inl rfl⟩
 |a::l=>by
  by_cases h:P a
  ·obtain⟨X,v,e,h1,h2⟩:=Dx P l
   exact⟨a::X,v,by simp[e],fun t ht=>(adv.1 ht).elim (fun e=>e ▸ h) (h1 t),h2⟩
  ·exact⟨[],a::l,rfl,by simp, .inr ⟨a,l,rfl,h⟩⟩
theorem Dy{α:Type}{P:α->Prop}[DecidablePred P]{R:α->α->Prop} :∀ {l:List α},l.Pairwise R->(∀a b c,a∈l->b∈l->c∈l->P a->P c->R a b->R b c->P b)->(∃a∈l,P a)->
 ∃u X v,l=u++X++v/\(∀t∈u,¬P t)/\(∀t∈X,P t)/\X≠ []/\∀t∈v,¬P t
 | [],_,_,⟨a,ha,_⟩=>by cases ha
 |t::l,hp,hb,hex=>by
  obtain⟨hp1,hp2⟩:=aeV.1 hp
  by_cases h:P t
  ·obtain⟨X,v,e,h1,h2⟩:=Dx P l
   refine⟨[],t::X,v,by simp[e],by simp,fun s hs=>(adv.1 hs).elim (fun e=>e ▸ h) (h1 s),by simp,fun c hc hPc=> ?_⟩
   rcases h2 with rfl|⟨b,v',rfl,hnb⟩
   ·cases hc
   ·have hb1:b∈l:=by rw[e];simp
    rcases adv.1 hc with rfl|zq
    ·exact hnb hPc
    ·have hbc:R b c:=by
      rw[e]at hp2
      have:=(aef.1 hp2).2.1
      exact(aeV.1 this).1 c zq
     exact hnb (hb t b c (by simp) (by simp[hb1]) (by rw[e];simp[zq]) h hPc (hp1 b hb1) hbc)
  ·obtain⟨a,ha,hPa⟩:=hex
   have TZ:a∈l:=(adv.1 ha).elim (fun e=>absurd (e ▸ hPa) h) id
   obtain⟨u,X,v,e,h1,h2,h3,h4⟩:=Dy hp2 (fun a b c ha hb' hc=>hb a b c (by simp[ha]) (by simp[hb']) (by simp[hc])) ⟨a,TZ,hPa⟩
   exact⟨t::u,X,v,by simp[e],fun s hs=>(adv.1 hs).elim (fun e=>e ▸ h) (h1 s),h2,h3,h4⟩
theorem lG{p:Pl}{k:Nat}{y:Int}(h:y∈p.ord.take k):∃j,j<k/\j<p.ord.length/\aq p j=y:=by
 obtain⟨j,hj,e⟩:=adr.1 h
 simp only[adG]at hj
 refine⟨j,by omega,by omega, ?_⟩
 rw[aq,aas,acF (by omega),Option.getD_some, <- e,af9]
theorem yA{p:Pl}{k j:Nat}(h1:j<k)(h2:j<p.ord.length):aq p j∈p.ord.take k:=by
 rw[aq,aas,acF h2,Option.getD_some]
 exact adr.2 ⟨j,by simp;omega,by simp⟩
theorem yC{g:Gr}{p:Pl}(hp:bq g p){k:Nat}(hk:k<g.n.toNat):aq p k∉p.ord.take k:=fun h=>by
 obtain⟨j,h1,h2,h3⟩:=lG h
 have:=dS hp (i:=j) (j:=k) (by omega) hk h3
 omega
theorem jU{g:Gr}{p:Pl}(hp:bq g p){k:Nat}(hk:k<g.n.toNat):p.ord.take (k+1)=p.ord.take k++ [aq p k]:=by
 rw[ad1,acF (by rw[aI hp];exact hk),aq,aas,acF (by rw[aI hp];exact hk)]
 rfl
section
variable {g:Gr} {p:Pl}
theorem nk(hm:aM g=true){f:Fr}(hi:Bx g f){k:Nat}(dI:f.pl=p.ord.take k){t:It}(ht:t∈ef f.row):nL g p k t.1/\bt g t.1=t.2.1/\bA g t.1=t.2.2:=by
 obtain⟨h1,h2⟩:=eX.1 ht
 rcases hi.it t h1 with h|⟨_,g2,g3,g4⟩
 ·omega
 ·refine⟨⟨h2,g2, ?_, ?_⟩,g3.symm,g4.symm⟩
  ·rw[<- dI];unfold bt;rw[<- g3];exact hi.tail t h1 h2
  ·rw[<- dI];unfold bA;rw[<- g4];exact hi.head t h1 h2
theorem BZ(hc:(bX g).1=0)(hp:bq g p){L:Nat->Int->Int->Prop}(hL:Ho g p L):∀ {k:Nat},k<=g.n.toNat->
 (∀j,j<k->xP g p j=true)/\((ef (fK g p k).row).Pairwise fun s t=>L k s.1 t.1)/\∀e,nL g p k e->∃t∈(fK g p k).row,t.1=e
 |0,_=>⟨fun j hj=>by omega,by simp[fK,ef],fun e he=>by have:=he.low;simp at this⟩
 |k+1,hk=>by
  have hm:=ah hc
  obtain⟨ih1,ih2,ih3⟩:=BZ hc hp hL (k:=k) (by omega)
  obtain⟨hi,dI,_⟩:=bz hm hp (k:=k) (by omega) ih1
  obtain⟨x0,x1⟩:=aD hp (k:=k) (by omega)
  have hnew:=yC hp (k:=k) (by omega)
  have hnext:=jU hp (k:=k) (by omega)
  have hpx:=aW hp x0 x1
  have hout:∀i∈bE p (aq p k),(0<=i/\i<g.es.length)/\bt g i=aq p k:=fun i hi=>aX.1 (hpx.mem_iff.1 hi)
  have Kl:=hL.outs k (by omega)
  have Hp:fK g p (k+1)=(aC g (fK g p k) (aq p k) (bE p (aq p k))).2:=rfl
  have hab:=jT (g:=g) (x:=aq p k) (o:=bE p (aq p k)) fun i hi=>(hout i hi).1.1
  have fin:∀a X c:List It,xP g p k=true->ef (fK g p k).row=a++X++c->gv (aq p k) a->gv (aq p k) c->zD (aq p k) X->(X≠ []\/a++c= [])->ef (fK g p (k+1)).row=a++ef (aQ g (aq p k) (bE p (aq p k)))++c->
   (∀j,j<k+1->xP g p j=true)/\((ef (fK g p (k+1)).row).Pairwise fun s t=>L (k+1) s.1 t.1)/\∀e,nL g p (k+1) e->∃t∈(fK g p (k+1)).row,t.1=e:=by
   intro a X c hR e ha zq hX Nj hs
   refine⟨fun j hj=> ?_, ?_,fun q hq=> ?_⟩
   ·by_cases h:j=k
    ·subst h;exact hR
    ·exact ih1 j (by omega)
   ·have hma:∀t∈a,t∈ef (fK g p k).row:=fun t ht=>by rw[e];simp[ht]
    have Zr:∀t∈X,t∈ef (fK g p k).row:=fun t ht=>by rw[e];simp[ht]
    have RU:∀t∈c,t∈ef (fK g p k).row:=fun t ht=>by rw[e];simp[ht]
    have yy:=fun t ht=>nk (p:=p) hm hi dI (t:=t) ht
    rw[e,aef,aef]at ih2
    obtain⟨⟨pa,pX,paX⟩,pc,Yp⟩:=ih2
    have hne:∀t,t∈a\/t∈c->bA g t.1≠aq p k:=fun t ht=>by
     rcases ht with ht|ht
     ·rw[(yy t (hma t ht)).2.2];exact ha t ht
     ·rw[(yy t (RU t ht)).2.2];exact zq t ht
    rw[hs,hab,aef,aef]
    refine⟨⟨?_, ?_, ?_⟩, ?_, ?_⟩
    ·exact pa.imp_of_mem fun {s t} hs' ht' h=>hL.keep k (by omega) _ _ (yy s (hma s hs')).1 (yy t (hma t ht')).1 (hne s (.inl hs')) (hne t (.inl ht')) h
    ·rw[aeI];exact Kl
    ·intro s hs' t ht'
     obtain⟨i,hi',rfl⟩:=ada.1 ht'
     rcases Nj with Nj|h0
     ·obtain⟨y,Y,rfl⟩:∃y Y,X=y::Y:=by
       cases X with
       |nil=>exact absurd rfl Nj
       |cons y Y=>exact⟨y,Y,rfl⟩
      exact hL.left k (by omega) s.1 y.1 i (yy s (hma s hs')).1 (yy y (Zr y (by simp))).1 (hne s (.inl hs')) (by rw[(yy y (Zr y (by simp))).2.2];exact hX y (by simp)) hi' (paX s hs' y (by simp))
     ·rw[(ag3.1 h0).1]at hs';cases hs'
    ·exact pc.imp_of_mem fun {s t} hs' ht' h=>hL.keep k (by omega) _ _ (yy s (RU s hs')).1 (yy t (RU t ht')).1 (hne s (.inr hs')) (hne t (.inr ht')) h
    ·intro s hs' t ht'
     rcases ac8.1 hs' with hs1|hs1
     ·exact hL.keep k (by omega) _ _ (yy s (hma s hs1)).1 (yy t (RU t ht')).1 (hne s (.inl hs1)) (hne t (.inr ht')) (Yp s (by simp[hs1]) t ht')
     ·obtain⟨i,hi',rfl⟩:=ada.1 hs1
      rcases Nj with Nj|h0
      ·obtain⟨y,Y,rfl⟩:∃y Y,X=y::Y:=by
        cases X with
        |nil=>exact absurd rfl Nj
        |cons y Y=>exact⟨y,Y,rfl⟩
       exact hL.right k (by omega) t.1 y.1 i (yy t (RU t ht')).1 (yy y (Zr y (by simp))).1 (hne t (.inr ht')) (by rw[(yy y (Zr y (by simp))).2.2];exact hX y (by simp)) hi' (Yp y (by simp) t ht')
      ·rw[(ag3.1 h0).2]at ht';cases ht'
   ·have Mb:∃t∈ef (fK g p (k+1)).row,t.1=q:=by
     have hl:=hq.low
     rw[hnext,ac8,adu]at hl
     have ht:=hq.top
     rw[hnext,ac8,adu]at ht
     rw[hs]
     rcases hl with hl|hl
     ·obtain⟨t,ht1,ht2⟩:=ih3 q ⟨hq.e0,hq.e1,hl,fun h=>ht (.inl h)⟩
      have hte:t∈ef (fK g p k).row:=eX.2 ⟨ht1,by rw[ht2];exact hq.e0⟩
      have hh:=(nk (p:=p) hm hi dI hte).2.2
      have j7:=hte
      rw[e,ac8,ac8]at j7
      rcases j7 with (h1|h1)|h1
      ·exact⟨t,by simp[h1],ht2⟩
      ·exact absurd (by rw[<- ht2,hh];exact hX t h1) fun h=>ht (.inr h)
      ·exact⟨t,by simp[h1],ht2⟩
     ·refine⟨gM g (aq p k) q, ?_,rfl⟩
      rw[hab,ac8,ac8]
      exact .inl (.inr (ada.2 ⟨q,hpx.mem_iff.2 (aX.2 ⟨⟨hq.e0,hq.e1⟩,hl⟩),rfl⟩))
    obtain⟨t,h1,h2⟩:=Mb
    exact⟨t,(eX.1 h1).1,h2⟩
  by_cases hn:aV g (aq p k)=0
  ·have hno:=dO hm hi.tofL x0 hn
   have hR:xP g p k=true:=by
    show au g (fK g p k) (aq p k)=true
    unfold au
    rw[ac7 (by rintro(h|h|h);omega;omega;exact hnew (dI ▸ h)),ac9 hn]
   have hrow:(fK g p k).row= []:=by
    rcases hi.src with h|⟨s,hs,hs0⟩
    ·exact h.2
    ·have:=gB hc (hi.lg s hs) ⟨x0,x1⟩ hs0 hn
     exact absurd (by rw[<- dI, <- this];exact hs) hnew
   refine fin [] [] [] hR (by rw[hrow];rfl) (fun t ht=>by cases ht) (fun t ht=>by cases ht) (fun t ht=>by cases ht) (.inr rfl) ?_
   rw[Hp,cH _ hno,hrow]
   simp
  ·have hex:∃e,e∈aJ (·.2) g.es g.es.length (aq p k):=by
    cases h:aJ (·.2) g.es g.es.length (aq p k) with
    |nil=>exact absurd (by unfold aV;rw[h];rfl) hn
    |cons e l=>exact⟨e,by simp⟩
   have Yq:∀e,e∈aJ (·.2) g.es g.es.length (aq p k)->∃t∈ef (fK g p k).row,t.1=e/\t.2.2=aq p k:=fun e he=>by
    obtain⟨⟨e0,e1⟩,e2⟩:=aX.1 he
    obtain⟨t,ht1,ht2⟩:=ih3 e ⟨e0,e1,hL.up e e0 e1 k (by omega) e2.symm,by rw[show bA g e=aq p k from e2];exact hnew⟩
    have hte:t∈ef (fK g p k).row:=eX.2 ⟨ht1,by rw[ht2];exact e0⟩
    exact⟨t,hte,ht2,by rw[<- (nk (p:=p) hm hi dI hte).2.2,ht2];exact e2⟩
   obtain⟨e,he⟩:=hex
   obtain⟨t0,QN,_,abe⟩:=Yq e he
   obtain⟨a,X,c,hE,ha,hX,nX,zq⟩:=Dy (P:=fun t:It=>t.2.2=aq p k) ih2 (fun a b c ma mb mc ea ec r1 r2=>by
    have ca:=nk (p:=p) hm hi dI ma
    have cb:=nk (p:=p) hm hi dI mb
    have cc:=nk (p:=p) hm hi dI mc
    rw[<- cb.2.2]
    exact hL.btw k (by omega) a.1 b.1 c.1 ca.1 cb.1 cc.1 (by rw[ca.2.2];exact ea) (by rw[cc.2.2];exact ec) r1 r2) ⟨t0,QN,abe⟩
   have hlen:X.length=aV g (aq p k):=by
    have bR:((ef (fK g p k).row).map (·.1)).Nodup:=by
     rw[List.Nodup,aeI]
     exact(hi.once.filter _).imp_of_mem fun {s t} hs ht h=>h (eX.1 hs).2
    have abf:(X.map (·.1)).Nodup:=by
     rw[hE,ads,ads]at bR
     exact(adt.1 (adt.1 bR).1).2.1
    have KN:(X.map (·.1)).Perm (aJ (·.2) g.es g.es.length (aq p k)):=by
     refine(aeb abf b7).2 fun e=>⟨fun h=> ?_,fun h=> ?_⟩
     ·obtain⟨t,ht,rfl⟩:=ada.1 h
      have hte:t∈ef (fK g p k).row:=by rw[hE];simp[ht]
      have ct:=nk (p:=p) hm hi dI hte
      exact aX.2 ⟨⟨ct.1.e0,ct.1.e1⟩,(show bA g t.1=_ by rw[ct.2.2];exact hX t ht)⟩
     ·obtain⟨t,ht,h1,h2⟩:=Yq e h
      rw[hE,ac8,ac8]at ht
      rcases ht with (h3|h3)|h3
      ·exact absurd h2 (ha t h3)
      ·exact ada.2 ⟨t,h3,h1⟩
      ·exact absurd h2 (zq t h3)
    have:=KN.length_eq
    rw[adn]at this
    exact this
   have hR:xP g p k=true:=BU hm hi.tofL x0 x1 (by rw[dI];exact hnew) hE ha zq hX nX hlen
   exact fin a X c hR hE ha zq hX (.inl nX) (by rw[Hp];exact E6 hm hi.tofL hR hn hE ha zq hX nX _)
theorem Dz(hc:(bX g).1=0)(hp:bq g p){L:Nat->Int->Int->Prop}(hL:Ho g p L):aG g p:=
 ⟨hc,hp,fun k hk=>(BZ hc hp hL (k:=k+1) (by omega)).1 k (by omega)⟩
end
end Go.Ab
end
section
set_option maxHeartbeats 8000000
set_option maxRecDepth 20000
namespace Go.Ab
attribute [local congr] ACall.congr gd.congr Ny.congr vcOps.congr
open Go.Proofs
def Zs(g:Gr)(st:List Int)(x:Nat)(l:List Int):Nat->List Int
 |0=>st
 |j+1=>(Zs g st x l j).set x (max ((Zs g st x l j).getD x 0) ((Zs g st x l j).getD (bt g (l.getD j 0)).toNat 0+1))
def lvK(g:Gr):Nat->List Int
 |0=>List.replicate g.n.toNat 0
 |k+1=>Zs g (lvK g k) ((SM g).getD k 0).toNat (aJ (fun e=>e.2) g.es g.es.length ((SM g).getD k 0)) (aJ (fun e=>e.2) g.es g.es.length ((SM g).getD k 0)).length
def lvL(g:Gr):List Int:=lvK g (SM g).length
end Go.Ab
end
section
set_option maxRecDepth 10000
namespace Go.Ab
open Go.Proofs
structure acS (g:Gr) (st:List Int) (D:List Int):Prop where
 out:∀v:Nat,(v:Int)∉D->st.getD v 0=0
 up:∀i,i<g.es.length->hd g i∈D->st.getD (tl g i).toNat 0+1<=st.getD (hd g i).toNat 0
 why:∀v:Nat,(v:Int)∈D->st.getD v 0=0\/∃i,i<g.es.length/\hd g i=v/\st.getD v 0=st.getD (tl g i).toNat 0+1
end Go.Ab
end
section
namespace Go.Ab
set_option maxRecDepth 10000
set_option linter.unusedSectionVars false
variable {P:PS}
structure PS.Hi (P:PS) (R:Int->Int) (f0 f1:Int) (hi:Int->Int):Prop where
 mid:∀ {x u a b v},P.ins x=u++a::b::v->hi (R a)=x
 h0:hi f0=P.VE
 h1:hi f1=P.VE
def PS.Inn(P:PS)(a:Int):Prop:=∃x u b v,P.outs x=u++a::b::v
section
variable (h:P.Ok) {L R:Int->Int} {f0 f1:Int} {low:Int->Int} (F:P.fM L R f0 f1 low)
include h F
theorem PS.Hi.Di{hi:Int->Int}(H:P.Hi R f0 f1 hi):P.Di.Hi L f1 f0 hi:=
 {mid:=fun {x u a b v} e=>by
   have e:=lC (show(P.ins x).reverse=_ from e)
   rw[<- F.uV e];exact H.mid e
  h0:=H.h1
  h1:=H.h0}
variable {L' R':Int->Int} {f0' f1':Int} {low':Int->Int} (F':P.fM L' R' f0' f1' low')
include F'
end
section
variable (h:P.Ok) {L R:Int->Int} {f0 f1:Int} {low:Int->Int} (F:P.fM L R f0 f1 low)
include h F
theorem B0{e:Int}(he:P.E e):P.hd e∈(P.st P.m).D:=by
 have hi:=P.inv h P.m (adg _)
 obtain⟨j,hj,e2⟩:=j0 h he
 have h1:e∈P.xQ P.m:=PS.wZ.2 ⟨j,hj,e2⟩
 rcases((hi.sh e).1 h1).2 with h2|h2
 ·rw[Qi h]at h2;cases h2
 ·exact h2
theorem s9{x:Int}(hx:x≠P.src):∀ {j:Nat},j<=P.m->x∈(P.st j).D->∃i A' B,i<j/\x∉(P.st i).D/\P.hd (P.sh i)=x/\(P.st i).B=P.sh i::B/\(P.st i).A++ [P.sh i]=A'++P.ins x/\P.ins x≠ []/\P.st (i+1)=⟨A',P.outs x++B,(P.st i).D++ [x]⟩
 |0,_,hm=>by
  have:x∈ [P.src]:=hm
  simp at this;exact absurd this hx
 |j+1,hj,hm=>by
  by_cases hp:x∈(P.st j).D
  ·obtain⟨i,A',B,h1,h2⟩:=s9 hx (j:=j) (by omega) hp
   exact⟨i,A',B,by omega,h2⟩
  ·obtain⟨B,hB,hc⟩:=mX h (show j<P.m by omega)
   rcases hc with ⟨A',h1,h2,h3⟩|⟨h1,h3⟩
   ·rw[h3]at hm
    rcases ac8.1 hm with hm|hm
    ·exact absurd hm hp
    ·rw[adu]at hm
     subst hm
     exact⟨j,A',B,by omega,hp,rfl,hB,h1,h2,h3⟩
   ·rw[h3]at hm;exact absurd hm hp
theorem S7:(P.st P.m).B= []:=by
 cases hB:(P.st P.m).B with
 |nil=>rfl
 |cons e B=>
  exfalso
  obtain⟨k,hr⟩:=pV h (adg P.m)
  have hm:=(h.eW hr e).1 (by rw[hB];simp)
  exact hm.2.2 (B0 h F hm.1)
variable {hi:Int->Int} (H:P.Hi R f0 f1 hi)
include H
end
def abg(t h:Int->Int)(l:List Int)(x:Int):Int:=match l.find? (fun i=>decide (t i=x)) with
 |some i=>h i
 |none=>x
def abh(t h:Int->Int)(l:List Int)(x:Int):Nat->Int
 |0=>x
 |k+1=>abg t h l (abh t h l x k)
section
variable (h:P.Ok) {L R:Int->Int} {f0 f1:Int} {low:Int->Int} (F:P.fM L R f0 f1 low) {hi:Int->Int} (H:P.Hi R f0 f1 hi)
include h F H
end
end Go.Ab
end
section
set_option maxRecDepth 10000
namespace Go.Ab
open Go.Proofs
section
variable (g:Gr) (p:Pl)
def cK:Nat->Nat
 |0=>1
 |k+1=>cK k+((bE p (aq p k)).length - 1)
def VV(e:Int):Nat:=(bE p (bt g e)).findIdx (fun i=>decide (i=e))
def xy(x:Int):Int:=(dP g p x).headD 0
def DA(x:Int):Int:=(dP g p x).getLastD 0
def LK:Nat->Int->Int
 |0,_=>0
 |k+1,e=>if bt g e=aq p k then(if VV g p e=0 then(if k=0 then 0 else LK k (xy g p (aq p k))) else(cK p k:Int)+VV g p e - 1) else LK k e
def RK(r:Int):Nat->Int->Int
 |0,_=>0
 |k+1,e=>if bt g e=aq p k then(if VV g p e+1<(bE p (aq p k)).length then(cK p k:Int)+VV g p e else(if k=0 then r else RK r k (DA g p (aq p k)))) else RK r k e
def xz:Nat->List Int
 |0=> [aq p 0]
 |k+1=>xz k++List.replicate ((bE p (aq p k)).length - 1) (aq p k)
end
section
variable {g:Gr} {p:Pl}
theorem rJ:∀ {k:Nat},(xz p k).length=cK p k
 |0=>rfl
 |k+1=>by rw[xz,adi,agd,rJ,cK]
theorem Jy:∀ {k:Nat},0<cK p k
 |0=>by simp[cK]
 |k+1=>by rw[cK];have:= @Jy k;omega
theorem z6{k:Nat} :∀ {d:Nat},cK p k<=cK p (k+d)
 |0=>adg _
 |d+1=>by
  have:= @z6 k d
  show _<=cK p (k+d+1)
  rw[cK];omega
theorem DB{k:Nat}{f:Nat}(hf:f<cK p k):∀ {d:Nat},(xz p (k+d)).getD f 0=(xz p k).getD f 0
 |0=>rfl
 |d+1=>by
  show(xz p (k+d+1)).getD f 0=_
  have:=z6 (p:=p) (k:=k) (d:=d)
  rw[xz,aas,adx (by rw[rJ];omega), <- List.getD_eq_getElem?_getD,DB hf]
theorem QO{k f:Nat}(h1:cK p k<=f)(h2:f<cK p (k+1)):(xz p (k+1)).getD f 0=aq p k:=by
 rw[xz,aas,adw (by rw[rJ];exact h1),afg,rJ,ac9 (by rw[cK]at h2;omega)]
 rfl
variable (h:aG g p)
include h
theorem B4{k:Nat}(hk:k<g.n.toNat){u v:List Int}{e:Int}(he:bE p (aq p k)=u++e::v):bt g e=aq p k/\VV g p e=u.length:=by
 have hx:=aD h.2.1 hk
 have px:=aW h.2.1 hx.1 hx.2
 have h1:=(aX.1 (px.mem_iff.1 (show e∈bE p (aq p k) by rw[he];simp))).2
 have h1:bt g e=aq p k:=h1
 refine⟨h1, ?_⟩
 have bR:(bE p (aq p k)).Nodup:=px.nodup_iff.2 b7
 unfold VV
 rw[h1,he]
 rw[he,adt]at bR
 rw[List.findIdx_append]
 have h2:u.findIdx (fun i=>decide (i=e))=u.length:=by
  rw[List.findIdx_eq_length]
  intro i hi
  exact ac5 fun e2=>bR.2.2 i hi e (by simp) e2
 rw[h2,ac7 (by omega)]
 simp[List.findIdx_cons]
theorem K9{e:Int}{k:Nat}(hk:k<g.n.toNat)(he:bt g e=aq p k):∀ {d:Nat},k+1+d<=g.n.toNat->LK g p (k+1+d) e=LK g p (k+1) e
 |0,_=>rfl
 |d+1,hd=>by
  show LK g p (k+1+d+1) e=_
  rw[LK,ac7 (fun e2=>by have:=dS h.2.1 hk (show k+1+d<g.n.toNat by omega) (he.symm.trans e2);omega),K9 hk he (by omega)]
theorem La{r:Int}{e:Int}{k:Nat}(hk:k<g.n.toNat)(he:bt g e=aq p k):∀ {d:Nat},k+1+d<=g.n.toNat->RK g p r (k+1+d) e=RK g p r (k+1) e
 |0,_=>rfl
 |d+1,hd=>by
  show RK g p r (k+1+d+1) e=_
  rw[RK,ac7 (fun e2=>by have:=dS h.2.1 hk (show k+1+d<g.n.toNat by omega) (he.symm.trans e2);omega),La hk he (by omega)]
theorem rK{e:Int}{k:Nat}(hk:k<g.n.toNat)(he:bt g e=aq p k){j:Nat}(h1:k+1<=j)(h2:j<=g.n.toNat):LK g p j e=LK g p (k+1) e:=by
 obtain⟨d,rfl⟩:=afz h1
 exact K9 h hk he h2
theorem rL{r:Int}{e:Int}{k:Nat}(hk:k<g.n.toNat)(he:bt g e=aq p k){j:Nat}(h1:k+1<=j)(h2:j<=g.n.toNat):RK g p r j e=RK g p r (k+1) e:=by
 obtain⟨d,rfl⟩:=afz h1
 exact La h hk he h2
theorem E9{k:Nat}(hk:k<g.n.toNat){v:List Int}{e:Int}(he:bE p (aq p k)=e::v){j:Nat}(h1:k+1<=j)(h2:j<=g.n.toNat):LK g p j e=if k=0 then 0 else LK g p k (xy g p (aq p k)):=by
 obtain⟨a,b⟩:=B4 h hk (u:= []) he
 rw[rK h hk a h1 h2,LK,ac9 a,ac9 (show VV g p e=0 from b)]
theorem Lb{k:Nat}(hk:k<g.n.toNat){u v:List Int}{e:Int}(he:bE p (aq p k)=u++e::v)(hu:u≠ []){j:Nat}(h1:k+1<=j)(h2:j<=g.n.toNat):LK g p j e=(cK p k:Int)+u.length - 1:=by
 obtain⟨a,b⟩:=B4 h hk he
 have:=ae6.2 hu
 rw[rK h hk a h1 h2,LK,ac9 a,ac7 (by omega),b]
theorem Jz{r:Int}{k:Nat}(hk:k<g.n.toNat){u:List Int}{e:Int}(he:bE p (aq p k)=u++ [e]){j:Nat}(h1:k+1<=j)(h2:j<=g.n.toNat):RK g p r j e=if k=0 then r else RK g p r k (DA g p (aq p k)):=by
 obtain⟨a,b⟩:=B4 h hk he
 rw[rL h hk a h1 h2,RK,ac9 a,ac7 (by rw[b,he];simp)]
theorem td{r:Int}{k:Nat}(hk:k<g.n.toNat){u v:List Int}{e c:Int}(he:bE p (aq p k)=u++e::c::v){j:Nat}(h1:k+1<=j)(h2:j<=g.n.toNat):RK g p r j e=(cK p k:Int)+u.length:=by
 obtain⟨a,b⟩:=B4 h hk he
 rw[rL h hk a h1 h2,RK,ac9 a,ac9 (by rw[b,he];simp),b]
theorem DC{x:Int}{a:Int}{u:List Int}(hu:dP g p x=a::u):xy g p x=a:=by unfold xy;rw[hu];rfl
theorem Hq{x:Int}{a:Int}{u:List Int}(hu:dP g p x=u++ [a]):DA g p x=a:=by unfold DA;rw[hu];simp
theorem QS{k:Nat}(hk:k<g.n.toNat)(hI:dP g p (aq p k)≠ []):k≠0:=fun h0=>by
 subst h0
 have:=jt h (aD h.2.1 hk)
 rw[gE h]at this
 exact hI (adE this)
theorem B5{k:Nat}(hk:k<g.n.toNat){a:Int}(ha:a∈dP g p (aq p k)):∃j,j<k/\bt g a=aq p j:=by
 obtain⟨h1,h2⟩:=((er h (aD h.2.1 hk)).2 a).1 ha
 obtain⟨j,h3,h4⟩:=E7 h h1 hk h2
 exact⟨j,h3,h4.symm⟩
def WK(g:Gr)(p:Pl)(k:Nat):List Int:=(ef (fK g p k).row).map (·.1)
theorem QT(hn:0<g.n.toNat):WK g p 1=bE p (aq p 0):=by
 have hx:=aD h.2.1 hn
 have px:=aW h.2.1 hx.1 hx.2
 have hno:gv (aq p 0) (fK g p 0).row:=fun t ht=>by cases ht
 have hf:(fK g p 1).row=aQ g (aq p 0) (bE p (aq p 0)):=by
  show(aC g (fK g p 0) (aq p 0) _).2.row=_
  rw[cH _ hno]
  show _++ []=_
  simp
 unfold WK
 rw[hf,jT (fun i hi=>(aX.1 (px.mem_iff.1 hi)).1.1),aeE]
 have e7:((fun t:It=>t.1) ∘ gM g (aq p 0))=id:=rfl
 rw[e7,agE]
theorem Lc{k:Nat}(h0:k≠0)(hk:k<g.n.toNat):∃A C,WK g p k=A++dP g p (aq p k)++C/\dP g p (aq p k)≠ []/\WK g p (k+1)=A++bE p (aq p k)++C:=by
 have hm:=ah h.1
 obtain⟨hi,dI,_⟩:=bz hm h.2.1 (k:=k) (by omega) fun j hj=>h.2.2 j (by omega)
 have hR:=h.2.2 k hk
 have hx:=aD h.2.1 hk
 have px:=aW h.2.1 hx.1 hx.2
 have hn:aV g (aq p k)≠0:=fun hz=>by
  have h00:=aD h.2.1 (show 0<g.n.toNat by omega)
  have:=gB h.1 hx h00 hz (gE h)
  exact h0 (dS h.2.1 hk (by omega) this)
 obtain⟨a,c,e1,_,_,_,hl,e2⟩:=xq hm hi.tofL hR hn (bE p (aq p k))
 refine⟨a.map (·.1),c.map (·.1), ?_, ?_, ?_⟩
 ·rw[ni h hk];unfold WK;rw[e1,ads,ads];rfl
 ·intro h1
  have:=jt h hx
  rw[h1]at this
  exact hn this.symm
 ·unfold WK
  show(ef (aC g (fK g p k) (aq p k) _).2.row).map (·.1)=_
  rw[e2,ads,ads,jT (fun i hi=>(aX.1 (px.mem_iff.1 hi)).1.1),aeE]
  have e7:((fun t:It=>t.1) ∘ gM g (aq p k))=id:=rfl
  rw[e7,agE]
theorem Ld{k:Nat}(hk:k<=g.n.toNat){a:Int}(ha:a∈WK g p k):∃j,j<k/\bt g a=aq p j:=by
 have hm:=ah h.1
 obtain⟨hi,dI,_⟩:=bz hm h.2.1 (k:=k) (by omega) fun j hj=>h.2.2 j (by omega)
 obtain⟨t,ht,rfl⟩:=ada.1 ha
 obtain⟨h1,h2,_⟩:=xu hm hi.tofL ht
 obtain⟨h4,h5⟩:=eX.1 ht
 have:=hi.tail t h4 h5
 rw[dI,h2]at this
 obtain⟨j,hj,e⟩:=take_at (by rw[aI h.2.1];omega) this
 exact⟨j,hj,e.symm⟩
theorem Lg{r:Int}{k:Nat}(hk:k<g.n.toNat){j:Nat}(h1:k+1<=j)(h2:j<=g.n.toNat):ja (LK g p j) (RK g p r j) (if k=0 then 0 else LK g p k (xy g p (aq p k))) (bE p (aq p k)):=by
 refine w5 (fun u a b v e=> ?_) fun a u e=>E9 h hk e h1 h2
 rw[td h hk e h1 h2,Lb h hk (u:=u++ [a]) (v:=v) (e:=b) (by rw[e];simp) (by simp) h1 h2]
 simp;omega
theorem Lh{r:Int}{k:Nat}(hk:k<g.n.toNat){j:Nat}(h1:k+1<=j)(h2:j<=g.n.toNat)(hO:bE p (aq p k)≠ [])(f:Int):ku (RK g p r j) f (bE p (aq p k))=if k=0 then r else RK g p r k (DA g p (aq p k)):=by
 obtain⟨v,b,hv⟩:=iA hO
 rw[hv,cW,Jz h hk hv h1 h2]
theorem rM{L R L' R':Int->Int} :∀ {W:List Int} {f:Int},(∀a∈W,L a=L' a/\R a=R' a)->(ja L R f W↔ja L' R' f W)
 | [],_,_=>Iff.rfl
 |a::W,f,hh=>by
  have h1:=hh a (adH ..)
  simp only[ja,h1.1,h1.2,rM (W:=W) fun b hb=>hh b (adz _ hb)]
theorem B6{R R':Int->Int} :∀ {W:List Int} {f:Int},(∀a∈W,R a=R' a)->ku R f W=ku R' f W
 | [],_,_=>rfl
 |a::W,f,hh=>by
  simp only[ku,hh a (adH ..),B6 (W:=W) fun b hb=>hh b (adz _ hb)]
theorem QU{r:Int}(hI:q8 g=true):∀ {k:Nat},1<=k->k<g.n.toNat->WK g p k≠ []->ja (LK g p k) (RK g p r k) 0 (WK g p k)/\ku (RK g p r k) 0 (WK g p k)=r
 |0,h1,_,_=>by omega
 |k+1,_,hk,hW=>by
  by_cases h0:k=0
  ·subst h0
   rw[QT h (by omega)]at hW ⊢
   have a:=Lg (r:=r) h (k:=0) (by omega) (j:=1) (adg _) (by omega)
   have b:=Lh (r:=r) h (k:=0) (by omega) (j:=1) (adg _) (by omega) hW 0
   rw[ac9 rfl]at a b
   exact⟨a,b⟩
  ·obtain⟨A,C,e1,hne,e2⟩:=Lc h h0 (show k<g.n.toNat by omega)
   obtain⟨l1,l2⟩:=QU hI (k:=k) (by omega) (by omega) (by rw[e1];simp[hne])
   have hO:bE p (aq p k)≠ []:=fun h1=>by
    have:=(oN h hI (aD h.2.1 (show k<g.n.toNat by omega))).1 h1
    have:=dS h.2.1 (show k<g.n.toNat by omega) (by omega) this
    omega
   have VW:∀a∈WK g p k,LK g p (k+1) a=LK g p k a/\RK g p r (k+1) a=RK g p r k a:=fun a ha=>by
    obtain⟨j,hj,e⟩:=Ld h (by omega) ha
    exact⟨by rw[rK h (by omega) e (j:=k+1) (by omega) (by omega),rK h (by omega) e (j:=k) (by omega) (by omega)],by rw[rL h (by omega) e (j:=k+1) (by omega) (by omega),rL h (by omega) e (j:=k) (by omega) (by omega)]⟩
   rw[<- rM h VW]at l1
   rw[<- B6 h fun a ha=>(VW a ha).2]at l2
   rw[e1]at l1 l2 VW
   rw[e2]
   obtain⟨a0,u0,VF⟩:=jZ hne
   obtain⟨u,a,hu⟩:=iA hne
   obtain⟨l3,l5⟩:=cw.1 l1
   obtain⟨l4,l6⟩:=cw.1 l3
   have hL0:LK g p (k+1) a0=ku (RK g p r (k+1)) 0 A:=by rw[VF]at l6;exact l6.1
   have X9:∀f,ku (RK g p r (k+1)) f (dP g p (aq p k))=RK g p r k (DA g p (aq p k)):=fun f=>by
    rw[Hq h hu,hu,cW,(VW a (by rw[hu];simp)).2]
   have hlk:=Lg (r:=r) h (k:=k) (by omega) (j:=k+1) (adg _) (by omega)
   have hfe:=Lh (r:=r) h (k:=k) (by omega) (j:=k+1) (adg _) (by omega) hO
   rw[ac7 h0]at hlk hfe
   rw[DC h VF, <- (VW a0 (by rw[VF];simp)).1,hL0]at hlk
   refine⟨?_, ?_⟩
   ·rw[cw,cw,dn,hfe]
    rw[dn,X9]at l5
    exact⟨⟨l4,hlk⟩,l5⟩
   ·rw[dn,dn,hfe]
    rw[dn,dn,X9]at l2
    exact l2
theorem JA(hI:q8 g=true){r:Int}(hr:r<0\/cK p g.n.toNat<=r):(aP g p).fM (LK g p g.n.toNat) (RK g p r g.n.toNat) 0 r (fun f=>(xz p g.n.toNat).getD f.toNat 0):=by
 have hm:=ah h.1
 have hn:=aB hm
 have qy:∀ {x:Int} {l:List Int},(aP g p).outs x=l->l≠ []->∃k,k<g.n.toNat/\aq p k=x/\bE p (aq p k)=l:=fun {x l} h1 h2=>by
  by_cases hx:fN g x
  ·obtain⟨k,hk,rfl⟩:=cq h.2.1 hx.1 hx.2
   exact⟨k,hk,rfl,by rw[<- h1,eo hx]⟩
  ·rw[oM hx]at h1;exact absurd h1.symm h2
 have abi:∀ {x:Int} {l:List Int},(aP g p).ins x=l->l≠ []->∃k,k<g.n.toNat/\aq p k=x/\dP g p (aq p k)=l:=fun {x l} h1 h2=>by
  by_cases hx:fN g x
  ·obtain⟨k,hk,rfl⟩:=cq h.2.1 hx.1 hx.2
   exact⟨k,hk,rfl,by rw[<- h1,gR hx]⟩
  ·rw[nh hx]at h1;exact absurd h1.symm h2
 have h0:(aP g p).src=aq p 0:=rfl
 have Y1:∀k,0<cK p k:=fun k=>Jy
 exact {
  ne:=by have:=Y1 g.n.toNat;omega
  kQ:=fun {x u a b v} e=>by
   obtain⟨k,hk,_,e2⟩:=qy e (by simp)
   rw[td h hk e2 (by omega) (adg _),Lb h hk (u:=u++ [a]) (v:=v) (e:=b) (by rw[e2];simp) (by simp) (by omega) (adg _)]
   simp;omega
  uV:=fun {x u a b v} e=>by
   obtain⟨k,hk,_,e2⟩:=abi e (by simp)
   have Ay:=QS h hk (by rw[e2];simp)
   obtain⟨A,C,e1,hne,_⟩:=Lc h Ay hk
   have l1:=(QU (r:=r) h hI (k:=k) (by omega) hk (by rw[e1];simp[hne])).1
   have VW:∀a∈WK g p k,LK g p g.n.toNat a=LK g p k a/\RK g p r g.n.toNat a=RK g p r k a:=fun a ha=>by
    obtain⟨j,hj,e⟩:=Ld h (by omega) ha
    exact⟨by rw[rK h (by omega) e (j:=g.n.toNat) (by omega) (by omega),rK h (by omega) e (j:=k) (by omega) (by omega)],by rw[rL h (by omega) e (j:=g.n.toNat) (by omega) (by omega),rL h (by omega) e (j:=k) (by omega) (by omega)]⟩
   rw[<- rM h VW,e1,e2,show A++(u++a::b::v)++C=(A++u)++a::b::(v++C) by simp]at l1
   exact Qh l1
  fst:=fun {x a u b v} e1 e2=>by
   obtain⟨k,hk,hx,e3⟩:=qy e2 (by simp)
   have e4:dP g p (aq p k)=a::u:=by
    have MH:fN g x:=by rw[<- hx];exact aD h.2.1 hk
    rw[hx, <- gR MH];exact e1
   have Ay:=QS h hk (by rw[e4];simp)
   obtain⟨j,hj,et⟩:=B5 h hk (a:=a) (by rw[e4];simp)
   rw[E9 h hk e3 (by omega) (adg _),ac7 Ay,DC h e4,rK h (by omega) et (j:=g.n.toNat) (by omega) (adg _),rK h (by omega) et (j:=k) (by omega) (by omega)]
  GL:=fun {x a u b v} e1 e2=>by
   obtain⟨k,hk,hx,e3⟩:=qy e2 (by simp)
   have e4:dP g p (aq p k)=u++ [a]:=by
    have MH:fN g x:=by rw[<- hx];exact aD h.2.1 hk
    rw[hx, <- gR MH];exact e1
   have Ay:=QS h hk (by rw[e4];simp)
   obtain⟨j,hj,et⟩:=B5 h hk (a:=a) (by rw[e4];simp)
   rw[Jz h hk e3 (by omega) (adg _),ac7 Ay,Hq h e4,rL h (by omega) et (j:=g.n.toNat) (by omega) (adg _),rL h (by omega) et (j:=k) (by omega) (by omega)]
  s0:=fun {b v} e=>by
   obtain⟨k,hk,hx,e3⟩:=qy e (by simp)
   have:k=0:=dS h.2.1 hk (by omega) hx
   rw[E9 h hk e3 (by omega) (adg _),ac9 this]
  s1:=fun {b v} e=>by
   obtain⟨k,hk,hx,e3⟩:=qy e (by simp)
   have:k=0:=dS h.2.1 hk (by omega) hx
   rw[Jz h hk e3 (by omega) (adg _),ac9 this]
  new:=fun {x u a b v} e=>by
   obtain⟨k,hk,hx,e3⟩:=qy e (by simp)
   have hR:=td (r:=r) h hk e3 (j:=g.n.toNat) (by omega) (adg _)
   have hl:(bE p (aq p k)).length=u.length+(v.length+2):=by rw[e3];simp
   have Pq:cK p (k+1)=cK p k+((bE p (aq p k)).length - 1):=rfl
   obtain⟨d,hd⟩:=afz (show k+1<=g.n.toNat by omega)
   have hmo:=z6 (p:=p) (k:=k+1) (d:=d)
   rw[<- hd]at hmo
   have:=Y1 k
   refine⟨?_,by omega,by omega⟩
   show(xz p g.n.toNat).getD (RK g p r g.n.toNat a).toNat 0=x
   rw[hR,show((cK p k:Int)+(u.length:Int)).toNat=cK p k+u.length by omega,hd,DB (by omega),QO (by omega) (by omega),hx]
  new1:=fun {x u a b v u' a' b' v'} e1 e2 e3=>by
   obtain⟨k,hk,hx,e4⟩:=qy e1 (by simp)
   have e5:bE p (aq p k)=u'++a'::b'::v':=by
    have MH:fN g x:=by rw[<- hx];exact aD h.2.1 hk
    rw[hx, <- eo MH];exact e2
   rw[td h hk e4 (by omega) (adg _),td h hk e5 (by omega) (adg _)]at e3
   have hl:u.length=u'.length:=by omega
   rw[e4]at e5
   have:=(List.append_inj e5 hl).2
   simp only[adA]at this
   exact this.1}
end
end Go.Ab
end
section
set_option maxHeartbeats 8000000
set_option maxRecDepth 10000
namespace Go.Ab
attribute [local congr] ACall.congr gd.congr Ny.congr vcOps.congr
open Go.Proofs
def Lj(A o:List Int)(f:Nat->Int):Nat->List Int
 |0=>A
 |j+1=>(Lj A o f j).set (o.getD j 0).toNat (f j)
def abU(A o:List Int)(left:Int)(c:Nat)(j:Nat):List Int:=Lj A o (fun j=>if j=0 then left else(c:Int)+j - 1) j
def abV(A o:List Int)(right:Int)(c:Nat)(j:Nat):List Int:=Lj A o (fun j=>if j+1<o.length then(c:Int)+j else right) j
def Un(c k:Nat):List Int:=(List.range k).map fun i:Nat=>((c+i:Nat):Int)
def lfF(left:Int)(c d j:Nat):Int:=if min j (d - 1)=0 then left else(c:Int)+(min j (d - 1):Nat) - 1
def stO(ed gp:D)(A B lo hi:List Int):List (Nat × AObj):= [(10000, .box [.d ed, .d gp, .ref 10001, .ref 10002, .ref 10003, .ref 10004]),(10001, .own 3 1 (A.map rI)),(10002, .own 3 1 (B.map rI)),(10003, .tip 3 1 (lo.map rI)),(10004, .own 3 1 (hi.map rI))]
def stN(ed gp:D)(A B lo hi:List Int):List (Nat × AObj):= [(10000, .box [.d ed, .d gp, .ref 10001, .ref 10002, .ref 10005, .ref 10006]),(10001, .own 3 1 (A.map rI)),(10002, .own 3 1 (B.map rI)),(10005, .tip 3 1 (lo.map rI)),(10006, .own 3 1 (hi.map rI))]
def Yr(A fs:List Int)(x:Int)(j:Nat):List Int:=Lj A fs (fun _=>x) j
end Go.Ab
end
section
set_option maxRecDepth 10000
namespace Go.Ab
open Go.Proofs
def arr(f:Int->Int)(m:Nat):List Int:=(List.range m).map fun i:Nat=>f (i:Int)
section
variable {g:Gr} {p:Pl} (h:aG g p)
include h
theorem S8{k:Nat}(hk:k<g.n.toNat){e:Int}(he:e∈bE p (aq p k)):(0<=e/\e<g.es.length)/\bt g e=aq p k:=by
 have hx:=aD h.2.1 hk
 exact aX.1 ((aW h.2.1 hx.1 hx.2).mem_iff.1 he)
end
section
variable (g:Gr) (p:Pl)
def JB:Nat->List Int
 |0=>bE p (aq p 0)
 |j+1=>if bE p (aq p (j+1))= [] then JB j else(JB j).take (jg (JB j) (xy g p (aq p (j+1)))).toNat++bE p (aq p (j+1))++(JB j).drop ((jg (JB j) (xy g p (aq p (j+1)))).toNat+(dP g p (aq p (j+1))).length)
def Ys:Nat->List Int
 |0=> [0]++Un 1 ((bE p (aq p 0)).length - 1)++ [-1]
 |j+1=>(Ys j).take ((jg (JB g p j) (xy g p (aq p (j+1)))).toNat+1)++Un (cK p (j+1)) ((bE p (aq p (j+1))).length - 1)++(Ys j).drop ((jg (JB g p j) (xy g p (aq p (j+1)))).toNat+(dP g p (aq p (j+1))).length)
def Yt(k:Nat):List Int:=((dP g p (aq p k)).dropLast).map (RK g p (-1) k)
def hiK:Nat->List Int
 |0=> [aq p (g.n.toNat - 1)]
 |k+1=>Yr (hiK k) (Yt g p k) (aq p k) (Yt g p k).length++List.replicate ((bE p (aq p k)).length - 1) 0
end
section
variable {g:Gr} {p:Pl}
variable (h:aG g p)
include h
end
end Go.Ab
end
