/- A part of the proof. -/
import Derived.Shelf.SlicesG.Cmp
import Derived.Deep.QuietTactic
import Derived.Deep.RegionHeld3
import Derived.WalkKit
import Derived.LoopNIn
import Derived.LoopIn
import Derived.Sort.WalkA
import Derived.Sort.Grow
import Derived.Shelf.SlSortCmp.NoneTotal
import Derived.Test.YtameldglfobjkaaGreatL6P17
set_option linter.unusedSimpArgs false
set_option linter.unusedVariables false
section
set_option maxRecDepth 10000
set_option maxHeartbeats 4000000
namespace Go.Ab
open Go.Proofs Go.RowKit Go.Shelf Go.Lib Go.Sort
theorem Js(x y:Int)(W:World):Calls Tryz.prog 79 #[.int .i64 x, .int .i64 y] W fun e w'=>e= .returned (.int .i64 (compareInt x y))/\w'=W:=
 AnyG.cmp_Compare_int Tryz.Un x y W
theorem Ng(W:World)(b:Nat)(c0 c1:Int)(h0:W.cell? ⟨b,0,none⟩=some (.int .i64 c0))(h1:W.cell? ⟨b,1,none⟩=some (.int .i64 c1)):
 Calls Tryz.prog 78 #[.slice (some ⟨b,0,none⟩) 2 2] W fun e w'=>e= .returned (.int .i64 (if c0=0 then c1 else c0))/\w'=W:=by
 by_cases hc:c0=0
 ·subst hc
  rw[ada rfl]
  by_cases hd:c1=0
  ·subst hd
   go_enter Tryz.func78,Tryz.ntmps78
   go_wp2
   go_loopw [8] (fun i wr=>∃k:Nat,k<=2/\i= .int .i64 k/\wr=W) (fun i _=>2 - (Go.Proofs.intOf i).toNat)
   case atStart=>exact⟨0,by omega,rfl,rfl⟩
   case round=>
    obtain⟨k,hk,rfl,rfl⟩:=hrel
    match k,hk with
    |0,_=>
     go_wp2
     exact⟨⟨1,by omega,rfl,trivial⟩,by decide⟩
    |1,_=>
     go_wp2
     exact⟨⟨2,by omega,rfl,trivial⟩,by decide⟩
    |2,_=>
     go_wp2
     go_ret
     exact⟨rfl,rfl⟩
  ·go_enter Tryz.func78,Tryz.ntmps78
   go_wp2
   go_loopw [8] (fun i wr=>∃k:Nat,k<=1/\i= .int .i64 k/\wr=W) (fun i _=>2 - (Go.Proofs.intOf i).toNat)
   case atStart=>exact⟨0,by omega,rfl,rfl⟩
   case round=>
    obtain⟨k,hk,rfl,rfl⟩:=hrel
    match k,hk with
    |0,_=>
     go_wp2
     exact⟨⟨1,by omega,rfl,trivial⟩,by decide⟩
    |1,_=>
     go_wp2
     go_ret
     exact⟨rfl,rfl⟩
 ·rw[ac8 hc]
  go_enter Tryz.func78,Tryz.ntmps78
  go_wp2
  go_loopw [8] (fun i wr=>i= .int .i64 0/\wr=W) (fun i _=>0)
  case atStart=>exact⟨rfl,rfl⟩
  case round=>
   obtain⟨rfl,rfl⟩:=hrel
   go_wp2
   go_ret
   exact⟨rfl,rfl⟩
def Hj(p:Pt):Value:= .agg #[.int .i64 p.1, .int .i64 p.2]
theorem u7(p:Pt)(hp:bC p)(W:World):Calls Tryz.prog 166 #[Hj p] W fun e w'=>e= .returned (.bool false)/\∃os',w'=grow W os':=by
 unfold Hj
 have h1:max p.1 p.2<=262144:=by unfold bC at hp;omega
 have h2: -262144<=min p.1 p.2:=by unfold bC at hp;omega
 clear hp
 go_enter Tryz.func166,Tryz.ntmps166
 go_wp2
 go_ret
 refine⟨?_,_,alloc_eq_grow _ _⟩
 show Ending.returned (.bool (decide (262144<max p.1 p.2)||decide (min p.1 p.2< -262144)))=_
 rw[ac6 (by omega),ac6 (by omega)];rfl
theorem Nh(a b c:Pt)(ha:bC a)(hb:bC b)(hc:bC c)(W:World)(blk:Nat)(h0:∀os,(grow W os).cell? ⟨blk,0,none⟩=some (.int .i64 a.1))(h1:∀os,(grow W os).cell? ⟨blk,1,none⟩=some (.int .i64 a.2))(h2:∀os,(grow W os).cell? ⟨blk,2,none⟩=some (.int .i64 b.1))(h3:∀os,(grow W os).cell? ⟨blk,3,none⟩=some (.int .i64 b.2))(h4:∀os,(grow W os).cell? ⟨blk,4,none⟩=some (.int .i64 c.1))(h5:∀os,(grow W os).cell? ⟨blk,5,none⟩=some (.int .i64 c.2)):
 Calls Tryz.prog 172 #[.slice (some ⟨blk,0,none⟩) 3 3, .func (.func 166) #[] #[]] W fun e w'=>e= .returned (.int .i64 (-1))/\∃os',w'=grow W os':=by
 have ca:=u7 a ha
 have cb:=u7 b hb
 have cc:=u7 c hc
 unfold Hj at ca cb cc
 go_enter Tryz.func172,Tryz.ntmps172
 go_wp2
 go_loopw [8] (fun i wr=>∃k:Nat,k<=3/\i= .int .i64 k/\∃os,wr=grow W os) (fun i _=>3 - (Go.Proofs.intOf i).toNat)
 case atStart=>exact⟨0,by omega,rfl, #[],(grow_empty W).symm⟩
 case round=>
  obtain⟨k,hk,rfl,os,rfl⟩:=hrel
  have g0:=h0 os
  have g1:=h1 os
  have g2:=h2 os
  have g3:=h3 os
  have g4:=h4 os
  have g5:=h5 os
  clear h0 h1 h2 h3 h4 h5
  have q1:max a.1 a.2<=262144/\ -262144<=min a.1 a.2:=by unfold bC at ha;omega
  have q2:max b.1 b.2<=262144/\ -262144<=min b.1 b.2:=by unfold bC at hb;omega
  have q3:max c.1 c.2<=262144/\ -262144<=min c.1 c.2:=by unfold bC at hc;omega
  clear ha hb hc ca cb cc
  match k,hk with
  |0,_=>
   go_wp2
   all_goals first
    |(exfalso;omega)
    |exact⟨⟨1,by omega,rfl,_,by rw[alloc_eq_grow,grow_grow]⟩,by decide⟩
  |1,_=>
   go_wp2
   all_goals first
    |(exfalso;omega)
    |exact⟨⟨2,by omega,rfl,_,by rw[alloc_eq_grow,grow_grow]⟩,by decide⟩
  |2,_=>
   go_wp2
   all_goals first
    |(exfalso;omega)
    |exact⟨⟨3,by omega,rfl,_,by rw[alloc_eq_grow,grow_grow]⟩,by decide⟩
  |3,_=>
   go_wp2
   go_ret
   exact⟨rfl,os,rfl⟩
theorem dy(W:World)(os:Array Obj)(a:Addr)(h:a.block<W.heap.size):(grow W os).cell? a=W.cell? a:=by
 simp only[grow,World.cell?,aet h]
theorem gF(w:World)(cs:Array Value)(e k i:Nat)(hk:k=w.heap.size):(w.alloc (.cells cs e)).cell? ⟨k,i,none⟩=cs[i]? :=by
 subst hk
 rw[alloc_eq_grow]
 simp only[grow,World.cell?]
 rw[Array.getElem?_append_right (adh _),agt]
 rfl
theorem Ni(a b c:Pt)(ha:bC a)(hb:bC b)(hc:bC c)(W:World)(blk:Nat)(hl:blk<W.heap.size)(h0:W.cell? ⟨blk,0,none⟩=some (.int .i64 a.1))(h1:W.cell? ⟨blk,1,none⟩=some (.int .i64 a.2))(h2:W.cell? ⟨blk,2,none⟩=some (.int .i64 b.1))(h3:W.cell? ⟨blk,3,none⟩=some (.int .i64 b.2))(h4:W.cell? ⟨blk,4,none⟩=some (.int .i64 c.1))(h5:W.cell? ⟨blk,5,none⟩=some (.int .i64 c.2)):
 Calls Tryz.prog 115 #[.slice (some ⟨blk,0,none⟩) 3 3] W fun e w'=>e= .returned (.bool true)/\∃os',w'=grow W os':=by
 have hI:=Nh a b c ha hb hc W blk (fun os=>(dy W os _ hl).trans h0) (fun os=>(dy W os _ hl).trans h1) (fun os=>(dy W os _ hl).trans h2) (fun os=>(dy W os _ hl).trans h3) (fun os=>(dy W os _ hl).trans h4) (fun os=>(dy W os _ hl).trans h5)
 have hC:Calls Tryz.prog 127 #[.slice (some ⟨blk,0,none⟩) 3 3, .func (.func 166) #[] #[]] W fun e w'=>e= .returned (.bool false)/\∃os',w'=grow W os':=by
  go_enter Tryz.func127,Tryz.ntmps127
  go_wp2_with (go_at_call 172;refine hI.mono ?_;rintro e w' ⟨rfl,os',rfl⟩)
  go_ret
  exact⟨rfl,os',rfl⟩
 clear hI h0 h1 h2 h3 h4 h5
 go_enter Tryz.func115,Tryz.ntmps115
 go_wp2_with (go_at_call 127;refine hC.mono ?_;rintro e w' ⟨rfl,os',rfl⟩)
 go_ret
 exact⟨rfl,os',rfl⟩
theorem Hl(a b c:Pt)(ha:bC a)(hb:bC b)(hc:bC c)(W:World):Calls Tryz.prog 131 #[Hj a,Hj b,Hj c] W fun e w'=>e= .returned (.int .i64 (sd a b c))/\∃os',w'=grow W os':=by
 have hT:∀W,Calls Tryz.prog 183 #[Hj a,Hj b,Hj a,Hj c] W fun e w'=>e= .returned (.int .i64 (tm a b a c))/\∃os',w'=grow W os':=fun W=>by
  unfold Hj tm
  obtain⟨a1,a2⟩:=a
  obtain⟨b1,b2⟩:=b
  obtain⟨c1,c2⟩:=c
  simp only[bC]at ha hb hc
  simp only
  have m1:=qu (x:=b1 - a1) (y:=c2 - a2) (m:=524288) (n:=524288) (by omega) (by omega)
  have m2:=qu (x:=b2 - a2) (y:=c1 - a1) (m:=524288) (n:=524288) (by omega) (by omega)
  go_enter Tryz.func183,Tryz.ntmps183
  go_wp2
  go_ret
  refine⟨rfl, ?_⟩
  simp only[alloc_eq_grow,grow_grow]
  exact⟨_,rfl⟩
 have hK:∀(x y:Int) (W:World),Calls Tryz.prog 79 #[.int .i64 x, .int .i64 y] W fun e w'=>e= .returned (.int .i64 (compareInt x y))/\w'=W:=fun x y W=>AnyG.cmp_Compare_int Tryz.Un x y W
 have hs:sd a b c=compareInt (tm a b a c) 0:=by
  unfold sd jh compareInt
  repeat' split
  all_goals(first|rfl|omega)
 rw[hs]
 have hK:=hK (tm a b a c) 0
 generalize tm a b a c=t at*
 generalize compareInt t 0=r at*
 unfold Hj at*
 go_enter Tryz.func131,Tryz.ntmps131
 go_wp2_with (first|(go_at_call 183;refine(hT _).mono ?_;rintro e w' ⟨rfl,os',rfl⟩)|(go_at_call 79;refine(hK _).mono ?_;rintro e w' ⟨rfl,rfl⟩))
 go_ret
 refine⟨rfl, ?_⟩
 simp only[alloc_eq_grow,grow_grow]
 exact⟨_,rfl⟩
theorem s8(w:World)(o:Obj)(a:Addr)(h:a.block<w.heap.size):(w.alloc o).cell? a=w.cell? a:=by
 rw[alloc_eq_grow];exact dy _ _ _ h
def Zp(p:Pt):Obj:= .cells #[.int .i64 p.1, .int .i64 p.2] 54
theorem Jt(a b c:Pt)(ha:bC a)(hb:bC b)(hc:bC c)(W:World):Calls Tryz.prog 76 #[Hj a,Hj b,Hj c] W fun e w'=>e= .returned (.int .i64 (sd a b c))/\∃os',w'=grow W os':=by
 obtain⟨W3,VT⟩:∃W3,((W.alloc (Zp a)).alloc (Zp b)).alloc (Zp c)=W3:=⟨_,rfl⟩
 obtain⟨W4,Nj⟩:∃W4,W3.alloc (.cells #[.int .i64 a.1, .int .i64 a.2, .int .i64 b.1, .int .i64 b.2, .int .i64 c.1, .int .i64 c.2] 54)=W4:=⟨_,rfl⟩
 have z3:W3.heap.size=W.heap.size+1+1+1:=by rw[<- VT];simp only[World.size_alloc]
 have z4:W4.heap.size=W.heap.size+1+1+1+1:=by rw[<- Nj,World.size_alloc,z3]
 have h1:=Ni a b c ha hb hc W4 (W.heap.size+1+1+1) (by omega) (by rw[<- Nj,gF _ _ _ _ _ z3.symm];rfl) (by rw[<- Nj,gF _ _ _ _ _ z3.symm];rfl) (by rw[<- Nj,gF _ _ _ _ _ z3.symm];rfl) (by rw[<- Nj,gF _ _ _ _ _ z3.symm];rfl) (by rw[<- Nj,gF _ _ _ _ _ z3.symm];rfl) (by rw[<- Nj,gF _ _ _ _ _ z3.symm];rfl)
 have c0:∀i,W4.cell? ⟨W.heap.size,i,none⟩= #[Value.int .i64 a.1, .int .i64 a.2][i]? :=fun i=>by
  rw[<- Nj,s8 _ _ _ (by show W.heap.size<_;omega), <- VT,s8 _ _ _ (by simp only[World.size_alloc];omega),s8 _ _ _ (by simp only[World.size_alloc];omega)]
  exact gF _ _ _ _ _ rfl
 have c1:∀i,W4.cell? ⟨W.heap.size+1,i,none⟩= #[Value.int .i64 b.1, .int .i64 b.2][i]? :=fun i=>by
  rw[<- Nj,s8 _ _ _ (by show W.heap.size+1<_;omega), <- VT,s8 _ _ _ (by simp only[World.size_alloc];omega)]
  exact gF _ _ _ _ _ (by simp only[World.size_alloc])
 have c2:∀i,W4.cell? ⟨W.heap.size+1+1,i,none⟩= #[Value.int .i64 c.1, .int .i64 c.2][i]? :=fun i=>by
  rw[<- Nj,s8 _ _ _ (by show W.heap.size+1+1<_;omega), <- VT]
  exact gF _ _ _ _ _ (by simp only[World.size_alloc])
 have hW:∃os,W4=grow W os:=by
  rw[<- Nj, <- VT]
  simp only[alloc_eq_grow,grow_grow]
  exact⟨_,rfl⟩
 have CO:Calls Tryz.prog 115 #[.slice (some ⟨W.heap.size+1+1+1,0,none⟩) 3 3] W4 fun e w'=>e= .returned (.bool true)/\(∃os',grow W os'=w')/\w'.cell? ⟨W.heap.size,0,none⟩=some (.int .i64 a.1)/\w'.cell? ⟨W.heap.size,1,none⟩=some (.int .i64 a.2)/\w'.cell? ⟨W.heap.size+1,0,none⟩=some (.int .i64 b.1)/\w'.cell? ⟨W.heap.size+1,1,none⟩=some (.int .i64 b.2)/\w'.cell? ⟨W.heap.size+1+1,0,none⟩=some (.int .i64 c.1)/\w'.cell? ⟨W.heap.size+1+1,1,none⟩=some (.int .i64 c.2):=by
  refine h1.mono ?_
  rintro e w' ⟨he,os',rfl⟩
  obtain⟨os,ho⟩:=hW
  refine⟨he,⟨os++os',by rw[ho,grow_grow]⟩, ?_, ?_, ?_, ?_, ?_, ?_⟩
  ·rw[dy _ _ _ (by show W.heap.size<_;omega),c0];rfl
  ·rw[dy _ _ _ (by show W.heap.size<_;omega),c0];rfl
  ·rw[dy _ _ _ (by show W.heap.size+1<_;omega),c1];rfl
  ·rw[dy _ _ _ (by show W.heap.size+1<_;omega),c1];rfl
  ·rw[dy _ _ _ (by show W.heap.size+1+1<_;omega),c2];rfl
  ·rw[dy _ _ _ (by show W.heap.size+1+1<_;omega),c2];rfl
 rw[<- Nj, <- VT]at CO
 clear h1 c0 c1 c2 hW z3 z4 Nj VT W4 W3
 have h2:=fun W=>Hl a b c ha hb hc W
 generalize sd a b c=r at*
 clear ha hb hc
 unfold Zp at*
 unfold Hj at*
 go_enter Tryz.func76,Tryz.ntmps76
 go_wp2_with (first|(go_at_call 115;refine CO.mono ?_;rintro e w' ⟨rfl,⟨os',hw⟩,q0,q1,q2,q3,q4,q5⟩)|(go_at_call 131;refine(h2 _).mono ?_;rintro e w2 ⟨rfl,os2,Zq⟩))
 go_ret
 refine⟨rfl, ?_⟩
 rw[<- hw,grow_grow]
 exact⟨_,rfl⟩
theorem Dw{W:World}{os:Array Obj}{a:Addr}{v:Value}(h:W.cell? a=some v):(grow W.drew os).cell? a=some v:=by
 by_cases hl:a.block<W.heap.size
 ·exact(dy W.drew os a hl).trans h
 ·unfold World.cell? at h
  rw[aeh (ago hl)]at h
  cases h
theorem QL(r:Int)(h: -1<=r/\r<=1):IntKind.i64.wrap (-r)= -r:=by
 have:r= -1\/r=0\/r=1:=by omega
 rcases this with rfl|rfl|rfl<;>decide
theorem QM(a b c:Pt): -1<=sd a b c/\sd a b c<=1:=by
 unfold sd jh
 split
 ·decide
 ·split<;>decide
theorem VU(W:World)(B Xb bp op lp cp bl ol ll cl x i k bi oi li ci bk ok lk ck:Nat)(P Li Lk:Pt)(hP:bC P)(hLi:bC Li)(Ym:bC Lk)
 (XZ:W.cell? ⟨B,0,none⟩=some (.slice (some ⟨bp,op,none⟩) lp cp)) (hB1:W.cell? ⟨B,1,none⟩=some (.slice (some ⟨bl,ol,none⟩) ll cl)) (hX:W.cell? ⟨Xb,0,none⟩=some (.int .i64 x))
 (hx:x<lp) (hi:i<ll) (hk:k<ll) (hi1:1<li) (Ao:1<lk)
 (p0:W.cell? ⟨bp,op+x*2,none⟩=some (.int .i64 P.1)) (p1:W.cell? ⟨bp,op+x*2+1,none⟩=some (.int .i64 P.2))
 (si:W.cell? ⟨bl,ol+i,none⟩=some (.slice (some ⟨bi,oi,none⟩) li ci)) (sk:W.cell? ⟨bl,ol+k,none⟩=some (.slice (some ⟨bk,ok,none⟩) lk ck))
 (i0:W.cell? ⟨bi,oi+2,none⟩=some (.int .i64 Li.1)) (i1:W.cell? ⟨bi,oi+2+1,none⟩=some (.int .i64 Li.2)) (k0:W.cell? ⟨bk,ok+2,none⟩=some (.int .i64 Lk.1)) (k1:W.cell? ⟨bk,ok+2+1,none⟩=some (.int .i64 Lk.2)):
 Calls Tryz.prog 75 #[.int .i64 i, .int .i64 k, .pointer (some ⟨B,0,none⟩), .pointer (some ⟨Xb,0,none⟩)] W fun e w'=>e= .returned (.int .i64 (-(sd P Lk Li)))/\∃q os',w'=grow (W.drewN q) os':=by
 have h2:=fun W=>Jt P Lk Li hP Ym hLi W
 have hn:=QL _ (QM P Lk Li)
 generalize sd P Lk Li=r at*
 clear hP hLi Ym
 have a1:(1:Int)<(li:Int):=by omega
 have a2:(1:Int)<(lk:Int):=by omega
 have a3:(1:Int)<=(li:Int):=by omega
 have a4:(1:Int)<=(lk:Int):=by omega
 have b1:(x:Int)<(lp:Int):=by omega
 have b2:(i:Int)<(ll:Int):=by omega
 have b3:(k:Int)<(ll:Int):=by omega
 unfold Hj at h2
 go_enter Tryz.func75,Tryz.ntmps75
 go_wp2
 go_region_held3 (fun w'=>w'.cell? ⟨B,0,none⟩=some (.slice (some ⟨bp,op,none⟩) lp cp)/\w'.cell? ⟨B,1,none⟩=some (.slice (some ⟨bl,ol,none⟩) ll cl)/\w'.cell? ⟨Xb,0,none⟩=some (.int .i64 x)/\w'.cell? ⟨bp,op+x*2,none⟩=some (.int .i64 P.1)/\w'.cell? ⟨bp,op+x*2+1,none⟩=some (.int .i64 P.2)/\w'.cell? ⟨bl,ol+i,none⟩=some (.slice (some ⟨bi,oi,none⟩) li ci)/\w'.cell? ⟨bl,ol+k,none⟩=some (.slice (some ⟨bk,ok,none⟩) lk ck)/\w'.cell? ⟨bi,oi+2,none⟩=some (.int .i64 Li.1)/\w'.cell? ⟨bi,oi+2+1,none⟩=some (.int .i64 Li.2)/\w'.cell? ⟨bk,ok+2,none⟩=some (.int .i64 Lk.1)/\w'.cell? ⟨bk,ok+2+1,none⟩=some (.int .i64 Lk.2)) (first|(go_keep;done)|(repeat' (first|(refine And.intro ?_ ?_)|(exact Dw (by assumption))|(show W.cell? _=_;assumption))))
  (first|(go_at_call 76;refine(h2 _).mono ?_;rintro e w' ⟨rfl,os',rfl⟩))
 go_wp2
 go_ret
 exact⟨rfl,1,_,rfl⟩
theorem VV(W:World)(B bp op lp cp i k:Nat)(Pi Pk:Pt)
 (XZ:W.cell? ⟨B,0,none⟩=some (.slice (some ⟨bp,op,none⟩) lp cp)) (hi:i<lp) (hk:k<lp)
 (i0:W.cell? ⟨bp,op+i*2,none⟩=some (.int .i64 Pi.1)) (i1:W.cell? ⟨bp,op+i*2+1,none⟩=some (.int .i64 Pi.2)) (k0:W.cell? ⟨bp,op+k*2,none⟩=some (.int .i64 Pk.1)) (k1:W.cell? ⟨bp,op+k*2+1,none⟩=some (.int .i64 Pk.2)):
 Calls Tryz.prog 77 #[.int .i64 i, .int .i64 k, .pointer (some ⟨B,0,none⟩)] W fun e w'=>e= .returned (.int .i64 (if compareInt Pi.2 Pk.2=0 then compareInt Pi.1 Pk.1 else compareInt Pi.2 Pk.2))/\∃q os',w'=grow (W.drewN q) os':=by
 have b2:(i:Int)<(lp:Int):=by omega
 have b3:(k:Int)<(lp:Int):=by omega
 generalize Pi.1=f1 at*
 generalize Pi.2=y1 at*
 generalize Pk.1=f2 at*
 generalize Pk.2=y2 at*
 have h3:=fun W b=>Ng W b (compareInt y1 y2) (compareInt f1 f2)
 generalize (if compareInt y1 y2=0 then compareInt f1 f2 else compareInt y1 y2)=r at h3 ⊢
 go_enter Tryz.func77,Tryz.ntmps77
 go_wp2
 go_region_held3 (fun w'=>w'.cell? ⟨B,0,none⟩=some (.slice (some ⟨bp,op,none⟩) lp cp)/\w'.cell? ⟨bp,op+i*2,none⟩=some (.int .i64 f1)/\w'.cell? ⟨bp,op+i*2+1,none⟩=some (.int .i64 y1)/\w'.cell? ⟨bp,op+k*2,none⟩=some (.int .i64 f2)/\w'.cell? ⟨bp,op+k*2+1,none⟩=some (.int .i64 y2)) (first|(go_keep;done)|(repeat' (first|(refine And.intro ?_ ?_)|(exact Dw (by assumption))|(show W.cell? _=_;assumption))))
  (first|(go_at_call 79;refine(Js _ _ _).mono ?_;rintro e w' ⟨rfl,rfl⟩)|(go_at_call 78;refine(h3 _ _ (by simp) (by simp)).mono ?_;rintro e w' ⟨rfl,rfl⟩))
 go_wp2
 go_ret
 exact⟨rfl,1,_,by rw[alloc_eq_grow];rfl⟩
end Go.Ab
end
section
set_option maxRecDepth 10000
namespace Go.Ab
open Go.Proofs Go.RowKit Go.Shelf Go.Sort
theorem Ju{α:Type}{R:α->α->Prop}{l m:List α}(hp:l.Perm m)(ha:∀a b,a∈l->b∈l->R a b->R b a->a=b)(h1:l.Pairwise R)(h2:m.Pairwise R):l=m:=by
 induction l generalizing m with
 |nil=>exact hp.symm.eq_nil.symm
 |cons a l ih=>
  cases m with
  |nil=>exact absurd hp.length_eq (by simp)
  |cons b m=>
   obtain⟨a1,a2⟩:=aeW.1 h1
   obtain⟨b1,b2⟩:=aeW.1 h2
   have hab:a=b:=by
    refine afa fun hne=> ?_
    have ma:a∈b::m:=hp.mem_iff.1 (by simp)
    have mb:b∈a::l:=hp.mem_iff.2 (by simp)
    have ma:a∈m:=(adw.1 ma).elim (fun e=>absurd e hne) id
    have mb':b∈l:=(adw.1 mb).elim (fun e=>absurd e.symm hne) id
    exact hne (ha a b (by simp) mb (a1 b mb') (b1 a ma))
   subst hab
   rw[ih ((List.perm_cons a).1 hp) (fun c d hc hd=>ha c d (by simp[hc]) (by simp[hd])) a2 b2]
structure N6 (cf:Int->Int->Int) (l l':List Int):Prop where
 perm:l.Perm l'
 nd:l.Nodup
 ord:l'.Pairwise fun x y=>cf x y<0/\¬cf y x<0
 Zr:∀x∈l,¬cf x x<0
section
variable {cf:Int->Int->Int} {l l':List Int} (S:N6 cf l l')
include S
theorem N6.idx{x:Int}(h:x∈l):∃i,i<l'.length/\l'.getD i 0=x:=by
 obtain⟨i,hi,e⟩:=ads.1 (S.perm.mem_iff.1 h)
 exact⟨i,hi,by rw[aas,acF hi];exact e⟩
theorem N6.lt{i j:Nat}(hi:i<l'.length)(hj:j<l'.length):cf (l'.getD i 0) (l'.getD j 0)<0↔i<j:=by
 rw[aas,acF hi,aas,acF hj,Option.getD_some,Option.getD_some]
 rcases aex i j with h|h|h
 ·have:=aei.1 S.ord i j hi hj h
  exact⟨fun _=>h,fun _=>this.1⟩
 ·subst h
  have:=S.Zr (l'[i]) (S.perm.mem_iff.2 (ad3 hi))
  exact⟨fun h=>absurd h this,fun h=>by omega⟩
 ·have:=aei.1 S.ord j i hj hi h
  exact⟨fun h=>absurd h this.2,fun h=>by omega⟩
theorem N6.swo:SWO (ltOf fun x y: {x // x∈l} =>cf x.1 y.1) where
 irrefl x:=ac6 (S.Zr x.1 x.2)
 trans x y z h1 h2:=by
  obtain⟨i,hi,ei⟩:=S.idx x.2
  obtain⟨j,hj,ej⟩:=S.idx y.2
  obtain⟨k,hk,ek⟩:=S.idx z.2
  simp only[ltOf,ade, <- ei, <- ej, <- ek,S.lt hi hj,S.lt hj hk,S.lt hi hk]at h1 h2 ⊢
  omega
 ntrans x y z h1 h2:=by
  obtain⟨i,hi,ei⟩:=S.idx x.2
  obtain⟨j,hj,ej⟩:=S.idx y.2
  obtain⟨k,hk,ek⟩:=S.idx z.2
  simp only[ltOf,adM, <- ei, <- ej, <- ek,S.lt hi hj,S.lt hj hk,S.lt hi hk]at h1 h2 ⊢
  omega
theorem N6.eq{d d':Array {x // x∈l}}[Inhabited {x // x∈l}](hd:d.toList=l.attach)(hp:PermIn 0 d.size d d')(hs:SortedIn (ltOf fun x y: {x // x∈l} =>cf x.1 y.1) 0 d.size d'):d'.toList.map (·.1)=l':=by
 obtain⟨h1,_,h3⟩:=hp
 have e1:d'.extract 0 d.size=d':=by rw[<- h1];exact Array.extract_size
 have e2:d.extract 0 d.size=d:=Array.extract_size
 rw[e1,e2,hd]at h3
 have h4:(d'.toList.map (·.1)).Perm l:=by
  have:=h3.map (fun x: {x // x∈l} =>x.1)
  rwa [List.attach_map_subtype_val]at this
 refine Ju (R:=fun x y=>¬cf y x<0) (h4.trans S.perm) (fun a b ha hb r1 r2=> ?_) ?_ (S.ord.imp fun h=>h.2)
 ·obtain⟨i,hi,ei⟩:=S.idx (h4.mem_iff.1 ha)
  obtain⟨j,hj,ej⟩:=S.idx (h4.mem_iff.1 hb)
  rw[<- ei, <- ej,S.lt hj hi]at r1
  rw[<- ei, <- ej,S.lt hi hj]at r2
  rw[<- ei, <- ej,show i=j by omega]
 ·rw[aeJ,aei]
  intro i j hi hj hij
  have:=hs i j (by omega) hij (by simpa[h1]using hj)
  rw[getElem!_pos d' j (by simpa using hj),getElem!_pos d' i (by simpa using hi)]at this
  simpa[ltOf]using this
end
def QN(P:Program)(g:Nat)(cb:Array Value)(cf:Int->Int->Int)(l:List Int)(blk:Nat)(w:World):Prop:=
 ∀W:World,w.heap.size<=W.heap.size->(∀b,b<w.heap.size->b≠blk->W.heap[b]? =w.heap[b]?)->∀x,x∈l->∀y,y∈l->
  Calls P g (#[.int .i64 x, .int .i64 y]++cb) W fun e w'=>e= .returned (.int .i64 (cf x y))/\∃q os',w'=grow (W.drewN q) os'
theorem rD{α:Type}[Inhabited α](enc:α->Value)(w:World)(blk m:Nat)(dk:Array α)(os:Array Obj){b:Nat}(hb:b<w.heap.size)(hne:b≠blk):(sortWorld enc w blk 0 m dk os).heap[b]? =w.heap[b]? :=by
 show((w.heap.modify blk _)++os)[b]? =_
 rw[aet (by simpa using hb),aeH,ac8 (by omega)]
theorem rH{α:Type}[Inhabited α](enc:α->Value)(w:World)(blk m:Nat)(dk:Array α)(os:Array Obj):w.heap.size<=(sortWorld enc w blk 0 m dk os).heap.size:=by
 show _<=((w.heap.modify blk _)++os).size
 simp
theorem CJ{α:Type}[Inhabited α](enc:α->Value)(w:World)(blk m:Nat)(dk:Array α)(os:Array Obj){cur:Array Value}{e:TypeId}{fr:Nat × Nat}(hb:w.heap[blk]? =some (.cells cur e fr)):
 (sortWorld enc w blk 0 m dk os).heap[blk]? =some (.cells (putCells enc 0 dk cur) e fr):=by
 have hlt:blk<w.heap.size:=(adr.1 hb).1
 show((w.heap.modify blk _)++os)[blk]? =_
 rw[aet (by simpa using hlt),aeH,ada rfl,hb]
 rfl
theorem zi(g:Nat)(cb:Array Value){cf:Int->Int->Int}{l l':List Int}(S:N6 cf l l')(hlen:l.length<=1000000)(eg:∀args w,(callFunc g args).run Tryz.prog w= .ok (.enter g args) w)
 (blk cap:Nat) (w:World) {cur:Array Value} {e:TypeId} (hb:w.heap[blk]? =some (.cells cur e (0,0))) (hc:∀i,i<l.length->cur[i]? =some (.int .i64 (l.getD i 0))) (hne:l≠ [])
 (hcmp:QN Tryz.prog g cb cf l blk w):
 Calls Tryz.prog 74 #[.slice (some ⟨blk,0,none⟩) l.length cap, .func (.func g) #[] cb] w fun en w'=>en= .returned (.tuple #[])/\
  w'.os=w.os/\w'.tape=w.tape/\w'.output=w.output/\w.heap.size<=w'.heap.size/\(∀b,b<w.heap.size->b≠blk->w'.heap[b]? =w.heap[b]?)/\
  ∃cur',w'.heap[blk]? =some (.cells cur' e (0,0))/\cur'.size=cur.size/\∀i,i<l'.length->cur'[i]? =some (.int .i64 (l'.getD i 0)):=by
 have hlt:blk<w.heap.size:=(adr.1 hb).1
 obtain⟨a0,ha0⟩:∃a,a∈l:=by
  cases l with
  |nil=>exact absurd rfl hne
  |cons a l=>exact⟨a,by simp⟩
 letI:Inhabited {x // x∈l} :=⟨⟨a0,ha0⟩⟩
 have hsz:(l.attach.toArray).size=l.length:=by simp
 have qy:∀j (hj:j<l.length),((l.attach.toArray)[j]!).1=l.getD j 0:=fun j hj=>by
  rw[getElem!_pos _ j (by simpa using hj),aas,acF hj]
  simp
 have hH:Holds (fun x: {x // x∈l} =>Value.int .i64 x.1) w blk 0 l.attach.toArray:=fun j hj=>by
  rw[hsz]at hj
  refine⟨?_, ?_⟩
  ·show _=some (Value.int .i64 ((l.attach.toArray)[j]!).1)
   rw[adU,qy j hj, <- hc j hj]
   simp[World.cell?,hb]
  ·simp[World.frozen?,hb]
 have UO:CmpLays1 Tryz.prog g cb (fun x: {x // x∈l} =>Value.int .i64 x.1) (fun x y=>cf x.1 y.1) blk 0 (l.attach.toArray).size w:=fun m os dk _ x y=>
  hcmp _ (rH ..) (fun b h1 h2=>rD _ _ _ _ _ _ h1 h2) x.1 x.2 y.1 y.2
 have Yn:=Any.slices_SortFunc Tryz.QK (fun x: {x // x∈l} =>Value.int .i64 x.1) (fun _=>rfl) (fun x y=>cf x.1 y.1) S.swo g cb blk 0 cap l.attach.toArray w eg UO hH hlt (by rw[hsz];omega)
 rw[hsz]at Yn
 refine Calls.mono Yn ?_
 rintro en w' ⟨rfl,d',n,os,hp,hs,rfl⟩
 rw[<- hsz]at hp hs
 have he:=S.eq (d:=l.attach.toArray) (by simp) hp hs
 have hds:d'.size=l.length:=by rw[hp.1,hsz]
 refine⟨rfl,rfl,rfl,rfl,rH ..,fun b h1 h2=>rD _ _ _ _ _ _ h1 h2,_,CJ _ _ _ _ _ _ hb,by simp[putCells],fun i hi=> ?_⟩
 have hi2:i<l.length:=by rw[S.perm.length_eq];exact hi
 have hic:i<cur.size:=(adr.1 (hc i hi2)).1
 simp only[putCells,Array.getElem?_mapIdx,adY hic,Option.map_some]
 rw[ada ⟨by omega,by omega⟩,Nat.sub_zero,getElem!_pos d' i (by omega)]
 have:l'.getD i 0=(d'[i]'(by omega)).1:=by
  rw[<- he,aas,adn,aem,adY (by omega)]
  rfl
 rw[this]
theorem kS(p:Option Addr)(cap:Nat)(fv:Value)(w:World):Calls Tryz.prog 74 #[.slice p 0 cap,fv] w fun e w'=>e= .returned (.tuple #[])/\w'=w:=
 AnyF.slices_SortFunc_none {Tryz.QK with} p cap fv w
theorem abd{a b:AObj}(ha:a.isNest=false)(hb:b.isNest=false){q:Nat}{o:AObj}(h:bM [(10000,a),(10001,b)] q=some o):(q=10000/\o=a)\/(q=10001/\o=b):=by
 have hl:look [(10000,a),(10001,b)] q=some o:=(fG (fun p hp=>by
  simp only[adw,aeo,or_false]at hp
  rcases hp with rfl|rfl
  ·exact ha
  ·exact hb) h).1
 simp only[look]at hl
 split at hl
 ·rename_i e;cases hl;exact .inl ⟨e.symm,rfl⟩
 ·split at hl
  ·rename_i e;cases hl;exact .inr ⟨e.symm,rfl⟩
  ·cases hl
theorem Jv{g:Nat}{cells:List AV}{cf:Int->Int->Int}{l l':List Int}(S:N6 cf l l')(hlen:l.length<=1000000)(eg:∀args w,(callFunc g args).run Tryz.prog w= .ok (.enter g args) w)(zw:AV.idss cells= [])
 (hcmp:∀(w:World) (E:Env) (B blk:Nat) (vs:List Value) (e:TypeId),w.heap[B]? =some (.cells vs.toArray e (0,0))->AVrs w E cells vs->B≠blk->E.z blk=0->QN Tryz.prog g #[.pointer (some ⟨B,0,none⟩)] cf l blk w):
 Spec Tryz.prog 74 (Args [.ref 10000, .fn g [] [.ptr 10001 0]]) [(10000, .own 3 1 (l.map rI)),(10001, .box cells)] (.tup []) [(10000, .own 3 1 (l'.map rI)),(10001, .box cells)]:=by
 refine⟨⟨Tryz.f74,_,Tryz.func74,by kernel_rfl,rfl⟩,fun E w vals hg hA=> ?_⟩
 obtain⟨v,vs,rfl,h0,h3⟩:=hA
 obtain⟨v2,vs2,rfl,h1,h4⟩:=h3
 simp only[AVrs]at h4
 subst h4
 obtain⟨us,us',rfl,h5,h6⟩:=h1
 obtain⟨u,Sm,rfl,h7,h8⟩:=h6
 simp only[AVrs]at h5 h8
 subst h5 h8
 obtain⟨rfl,_⟩:=h0
 have o1:=hg.gw 10000 (.own 3 1 (l.map rI)) rfl
 obtain⟨B,cs,e,g1,g2,g3,g4,g5⟩:=hg.gw 10001 (.box cells) rfl
 obtain⟨B',hB,rfl⟩:=h7
 rw[g1]at hB
 cases hB
 obtain⟨_,_,o2⟩:=o1
 have iF:l.length=l'.length:=S.perm.length_eq
 have hkeep:∀ {w':World},(∀b,0<E.z b->w'.heap[b]? =w.heap[b]?)->aK w E.z w' E.z:=fun h b=>⟨adh _,fun o ho=>by
  simp only[World.cell?,h b (by omega)]⟩
 rcases o2 with ⟨r0,r1,p,r2⟩|⟨b,cur,cap,r0,r1,r2,r3,r4,r5,r6,r7⟩
 ·have hl0:l= []:=aeG.1 r1
  subst hl0
  have Jw:l'= []:=S.perm.symm.eq_nil
  subst Jw
  rw[r2]
  refine(kS p 0 _ w).mono ?_
  rintro en w' ⟨rfl,rfl⟩
  exact⟨_,E,rfl,Oc.refl _ _ _,hg,fun q o b hq hro hb=> .inr ⟨q,o,hq,hro,hb⟩,⟨[],rfl,rfl⟩⟩
 ·rw[ado]at r2 r3
  rw[r2]
  by_cases hl0:l= []
  ·subst hl0
   have Jw:l'= []:=S.perm.symm.eq_nil
   subst Jw
   refine(kS _ cap _ w).mono ?_
   rintro en w' ⟨rfl,rfl⟩
   exact⟨_,E,rfl,Oc.refl _ _ _,hg,fun q o b hq hro hb=> .inr ⟨q,o,hq,hro,hb⟩,⟨[],rfl,rfl⟩⟩
  have hne:B≠b:=fun e=>by
   subst e
   have:=hg.inj 10000 10001 B (by simp[bJ,look]) (by simp[bJ,look]) r0 g1
   omega
  have Ct:b<w.heap.size:=(adr.1 r1).1
  have Jy:∀i,i<l.length->cur[i]? =some (.int .i64 (l.getD i 0)):=fun i hi=>by
   obtain⟨v,h1,h2⟩:=r7 i 0 (rI l[i]) (.sc (.int .i64 l[i])) (by simp[acF hi]) rfl
   rw[mq h2]at h1
   simpa[aas,acF hi]using h1
  refine(zi g #[.pointer (some ⟨B,0,none⟩)] S hlen eg b cap w r1 Jy hl0 (hcmp w E B b cs e g2 g4 hne r6)).mono ?_
  rintro en w' ⟨rfl,k1,k2,k3,k4,k5,cur',k6,k7,k8⟩
  have hst:aK w E.z w' E.z:=hkeep fun q hq=>by
   by_cases Yo:q<w.heap.size
   ·exact k5 q Yo fun e=>by subst e;omega
   ·have:=hg.fresh q (by omega);omega
  have hs2:∀ {q o},bM [(10000, .own 3 1 (l'.map rI)),(10001, .box cells)] q=some o->(q=10000/\o= .own 3 1 (l'.map rI))\/(q=10001/\o= .box cells):=fun h=>abd rfl rfl h
  have Yp:∀ {q:Nat},bM [(10000, .own 3 1 (l'.map rI)),(10001, .box cells)] q≠none->bM [(10000, .own 3 1 (l.map rI)),(10001, .box cells)] q≠none:=fun {q} h=>by
   obtain⟨o,ho⟩:=adf.1 h
   rcases hs2 ho with ⟨rfl,_⟩|⟨rfl,_⟩
   ·simp[bJ,look]
   ·simp[bJ,look]
  refine⟨_,E,rfl,⟨k1,k2,k3,k4,hst,fun q hq hnm=>⟨k5 q hq fun e=> ?_,rfl⟩,fun _ _=>⟨rfl,rfl⟩⟩,⟨fun q hq=> ?_,fun q q' c hq oW=>hg.inj q q' c (Yp hq) (Yp oW),fun q o hq=> ?_,fun q hq=>hg.fresh q (by omega)⟩,fun q o c hq hro hc=> ?_,⟨[],rfl,rfl⟩⟩
  ·subst e
   exact hnm ⟨10000,_,rfl,rfl,r0⟩
  ·simp only[look]at hq
   split at hq
   ·omega
   ·split at hq
    ·omega
    ·exact absurd rfl hq
  ·rcases hs2 hq with ⟨rfl,rfl⟩|⟨rfl,rfl⟩
   ·refine⟨fun r hr=> ?_,by decide, .inr ⟨b,cur',cap,r0,k6, ?_, ?_,by rw[k7];exact r4,r5,r6,fun i j r x h1 h2=> ?_⟩⟩
    ·obtain⟨v,_,rfl⟩:=adb.1 hr
     rfl
    ·rw[ado, <- iF];exact r2
    ·rw[ado, <- iF];exact r3
    ·rw[adn]at h1
     obtain⟨v,h3,rfl⟩:=aea.1 h1
     cases j with
     |succ j=>simp[rI]at h2
     |zero=>
      simp only[rI,List.getElem?_cons_zero,adz]at h2
      subst h2
      have hi:i<l'.length:=(adi.1 h3).1
      refine⟨_,by simpa using k8 i hi, ?_⟩
      rw[h3]
      exact .sc _ rfl
   ·have RX:B<w.heap.size:=(adr.1 g2).1
    exact⟨B,cs,e,g1,(k5 B RX hne).trans g2,g3,AVrs.mono ⟨hst,fun _ _=>rfl,fun _ _=>rfl⟩ (fun _ _=>trivial) (live:=fun _=>True) g4,g5⟩
  ·refine .inr ?_
   rcases hs2 hq with ⟨rfl,rfl⟩|⟨rfl,rfl⟩
   ·exact⟨10000,_,rfl,rfl,hc⟩
   ·exact⟨10001,_,rfl,rfl,hc⟩
theorem abe{a b c:AObj}(ha:a.isNest=false)(hb:b.isNest=false)(hc:c.isNest=false){q:Nat}{o:AObj}(h:bM [(10000,a),(10001,b),(10002,c)] q=some o):(q=10000/\o=a)\/(q=10001/\o=b)\/(q=10002/\o=c):=by
 have hl:look [(10000,a),(10001,b),(10002,c)] q=some o:=(fG (fun p hp=>by
  simp only[adw,aeo,or_false]at hp
  rcases hp with rfl|rfl|rfl
  ·exact ha
  ·exact hb
  ·exact hc) h).1
 simp only[look]at hl
 split at hl
 ·rename_i e;cases hl;exact .inl ⟨e.symm,rfl⟩
 ·split at hl
  ·rename_i e;cases hl;exact .inr (.inl ⟨e.symm,rfl⟩)
  ·split at hl
   ·rename_i e;cases hl;exact .inr (.inr ⟨e.symm,rfl⟩)
   ·cases hl
theorem Ho{g:Nat}{c1 c2:List AV}{cf:Int->Int->Int}{l l':List Int}(S:N6 cf l l')(hlen:l.length<=1000000)(eg:∀args w,(callFunc g args).run Tryz.prog w= .ok (.enter g args) w)
 (hcmp:∀(w:World) (E:Env) (B1 B2 blk:Nat) (v1 v2:List Value) (e1 e2:TypeId),w.heap[B1]? =some (.cells v1.toArray e1 (0,0))->w.heap[B2]? =some (.cells v2.toArray e2 (0,0))->AVrs w E c1 v1->AVrs w E c2 v2->B1≠blk->B2≠blk->E.z blk=0->QN Tryz.prog g #[.pointer (some ⟨B1,0,none⟩), .pointer (some ⟨B2,0,none⟩)] cf l blk w):
 Spec Tryz.prog 74 (Args [.ref 10000, .fn g [] [.ptr 10001 0, .ptr 10002 0]]) [(10000, .own 3 1 (l.map rI)),(10001, .box c1),(10002, .box c2)] (.tup []) [(10000, .own 3 1 (l'.map rI)),(10001, .box c1),(10002, .box c2)]:=by
 refine⟨⟨Tryz.f74,_,Tryz.func74,by kernel_rfl,rfl⟩,fun E w vals hg hA=> ?_⟩
 obtain⟨v,vs,rfl,h0,h3⟩:=hA
 obtain⟨v2,vs2,rfl,h1,h4⟩:=h3
 simp only[AVrs]at h4
 subst h4
 obtain⟨us,us',rfl,h5,h6⟩:=h1
 obtain⟨u,Sm,rfl,h7,h8⟩:=h6
 obtain⟨u2,us3,rfl,h9,X3⟩:=h8
 simp only[AVrs]at h5 X3
 subst h5 X3
 obtain⟨rfl,_⟩:=h0
 have o1:=hg.gw 10000 (.own 3 1 (l.map rI)) rfl
 obtain⟨B,cs,e,g1,g2,g3,g4,g5⟩:=hg.gw 10001 (.box c1) rfl
 obtain⟨D,ds,e',RJ,Xe,UL,k4',k5'⟩:=hg.gw 10002 (.box c2) rfl
 obtain⟨B',hB,rfl⟩:=h7
 rw[g1]at hB
 cases hB
 obtain⟨D',hD,rfl⟩:=h9
 rw[RJ]at hD
 cases hD
 obtain⟨_,_,o2⟩:=o1
 have iF:l.length=l'.length:=S.perm.length_eq
 have hkeep:∀ {w':World},(∀b,0<E.z b->w'.heap[b]? =w.heap[b]?)->aK w E.z w' E.z:=fun h b=>⟨adh _,fun o ho=>by
  simp only[World.cell?,h b (by omega)]⟩
 rcases o2 with ⟨r0,r1,p,r2⟩|⟨b,cur,cap,r0,r1,r2,r3,r4,r5,r6,r7⟩
 ·have hl0:l= []:=aeG.1 r1
  subst hl0
  have Jw:l'= []:=S.perm.symm.eq_nil
  subst Jw
  rw[r2]
  refine(kS p 0 _ w).mono ?_
  rintro en w' ⟨rfl,rfl⟩
  exact⟨_,E,rfl,Oc.refl _ _ _,hg,fun q o b hq hro hb=> .inr ⟨q,o,hq,hro,hb⟩,⟨[],rfl,rfl⟩⟩
 ·rw[ado]at r2 r3
  rw[r2]
  by_cases hl0:l= []
  ·subst hl0
   have Jw:l'= []:=S.perm.symm.eq_nil
   subst Jw
   refine(kS _ cap _ w).mono ?_
   rintro en w' ⟨rfl,rfl⟩
   exact⟨_,E,rfl,Oc.refl _ _ _,hg,fun q o b hq hro hb=> .inr ⟨q,o,hq,hro,hb⟩,⟨[],rfl,rfl⟩⟩
  have hne:B≠b:=fun e=>by
   subst e
   have:=hg.inj 10000 10001 B (by simp[bJ,look]) (by simp[bJ,look]) r0 g1
   omega
  have ER:D≠b:=fun e=>by
   subst e
   have:=hg.inj 10000 10002 D (by simp[bJ,look]) (by simp[bJ,look]) r0 RJ
   omega
  have Ct:b<w.heap.size:=(adr.1 r1).1
  have Jy:∀i,i<l.length->cur[i]? =some (.int .i64 (l.getD i 0)):=fun i hi=>by
   obtain⟨v,h1,h2⟩:=r7 i 0 (rI l[i]) (.sc (.int .i64 l[i])) (by simp[acF hi]) rfl
   rw[mq h2]at h1
   simpa[aas,acF hi]using h1
  refine(zi g #[.pointer (some ⟨B,0,none⟩), .pointer (some ⟨D,0,none⟩)] S hlen eg b cap w r1 Jy hl0 (hcmp w E B D b cs ds e e' g2 Xe g4 k4' hne ER r6)).mono ?_
  rintro en w' ⟨rfl,k1,k2,k3,k4,k5,cur',k6,k7,k8⟩
  have hst:aK w E.z w' E.z:=hkeep fun q hq=>by
   by_cases Yo:q<w.heap.size
   ·exact k5 q Yo fun e=>by subst e;omega
   ·have:=hg.fresh q (by omega);omega
  have hs2:∀ {q o},bM [(10000, .own 3 1 (l'.map rI)),(10001, .box c1),(10002, .box c2)] q=some o->(q=10000/\o= .own 3 1 (l'.map rI))\/(q=10001/\o= .box c1)\/(q=10002/\o= .box c2):=fun h=>abe rfl rfl rfl h
  have Yp:∀ {q:Nat},bM [(10000, .own 3 1 (l'.map rI)),(10001, .box c1),(10002, .box c2)] q≠none->bM [(10000, .own 3 1 (l.map rI)),(10001, .box c1),(10002, .box c2)] q≠none:=fun {q} h=>by
   obtain⟨o,ho⟩:=adf.1 h
   rcases hs2 ho with ⟨rfl,_⟩|⟨rfl,_⟩|⟨rfl,_⟩
   ·simp[bJ,look]
   ·simp[bJ,look]
   ·simp[bJ,look]
  refine⟨_,E,rfl,⟨k1,k2,k3,k4,hst,fun q hq hnm=>⟨k5 q hq fun e=> ?_,rfl⟩,fun _ _=>⟨rfl,rfl⟩⟩,⟨fun q hq=> ?_,fun q q' c hq oW=>hg.inj q q' c (Yp hq) (Yp oW),fun q o hq=> ?_,fun q hq=>hg.fresh q (by omega)⟩,fun q o c hq hro hc=> ?_,⟨[],rfl,rfl⟩⟩
  ·subst e
   exact hnm ⟨10000,_,rfl,rfl,r0⟩
  ·simp only[look]at hq
   split at hq
   ·omega
   ·split at hq
    ·omega
    ·split at hq
     ·omega
     ·exact absurd rfl hq
  ·rcases hs2 hq with ⟨rfl,rfl⟩|⟨rfl,rfl⟩|⟨rfl,rfl⟩
   ·refine⟨fun r hr=> ?_,by decide, .inr ⟨b,cur',cap,r0,k6, ?_, ?_,by rw[k7];exact r4,r5,r6,fun i j r x h1 h2=> ?_⟩⟩
    ·obtain⟨v,_,rfl⟩:=adb.1 hr
     rfl
    ·rw[ado, <- iF];exact r2
    ·rw[ado, <- iF];exact r3
    ·rw[adn]at h1
     obtain⟨v,h3,rfl⟩:=aea.1 h1
     cases j with
     |succ j=>simp[rI]at h2
     |zero=>
      simp only[rI,List.getElem?_cons_zero,adz]at h2
      subst h2
      have hi:i<l'.length:=(adi.1 h3).1
      refine⟨_,by simpa using k8 i hi, ?_⟩
      rw[h3]
      exact .sc _ rfl
   ·have RX:B<w.heap.size:=(adr.1 g2).1
    exact⟨B,cs,e,g1,(k5 B RX hne).trans g2,g3,AVrs.mono ⟨hst,fun _ _=>rfl,fun _ _=>rfl⟩ (fun _ _=>trivial) (live:=fun _=>True) g4,g5⟩
   ·have hDl:D<w.heap.size:=(adr.1 Xe).1
    exact⟨D,ds,e',RJ,(k5 D hDl ER).trans Xe,UL,AVrs.mono ⟨hst,fun _ _=>rfl,fun _ _=>rfl⟩ (fun _ _=>trivial) (live:=fun _=>True) k4',k5'⟩
  ·refine .inr ?_
   rcases hs2 hq with ⟨rfl,rfl⟩|⟨rfl,rfl⟩|⟨rfl,rfl⟩
   ·exact⟨10000,_,rfl,rfl,hc⟩
   ·exact⟨10001,_,rfl,rfl,hc⟩
   ·exact⟨10002,_,rfl,rfl,hc⟩
end Go.Ab
end
section
set_option maxRecDepth 10000
namespace Go.Ab
open Go.Proofs
structure nL (g:Gr) (p:Pl) (k:Nat) (e:Int):Prop where
 e0:0<=e
 e1:e<g.es.length
 low:bt g e∈p.ord.take k
 top:bA g e∉p.ord.take k
structure Hp (g:Gr) (p:Pl) (L:Nat->Int->Int->Prop):Prop where
 up:∀e:Int,0<=e->e<g.es.length->∀k,k<g.n.toNat->aq p k=bA g e->bt g e∈p.ord.take k
 btw:∀k,k<g.n.toNat->∀a b c:Int,nL g p k a->nL g p k b->nL g p k c->bA g a=aq p k->bA g c=aq p k->L k a b->L k b c->bA g b=aq p k
 keep:∀k,k<g.n.toNat->∀a b:Int,nL g p k a->nL g p k b->bA g a≠aq p k->bA g b≠aq p k->L k a b->L (k+1) a b
 left:∀k,k<g.n.toNat->∀a b c:Int,nL g p k a->nL g p k b->bA g a≠aq p k->bA g b=aq p k->c∈bE p (aq p k)->L k a b->L (k+1) a c
 right:∀k,k<g.n.toNat->∀a b c:Int,nL g p k a->nL g p k b->bA g a≠aq p k->bA g b=aq p k->c∈bE p (aq p k)->L k b a->L (k+1) c a
 outs:∀k,k<g.n.toNat->(bE p (aq p k)).Pairwise (L (k+1))
theorem Dx{α:Type}(P:α->Prop)[DecidablePred P]:∀l:List α,∃X v,l=X++v/\(∀t∈X,P t)/\(v= []\/∃b v',v=b::v'/\¬P b)
 | []=>⟨[], [],rfl,by simp, .inl rfl⟩
 |a::l=>by
  by_cases h:P a
  ·obtain⟨X,v,e,h1,h2⟩:=Dx P l
   exact⟨a::X,v,by simp[e],fun t ht=>(adw.1 ht).elim (fun e=>e ▸ h) (h1 t),h2⟩
  ·exact⟨[],a::l,rfl,by simp, .inr ⟨a,l,rfl,h⟩⟩
theorem Dy{α:Type}{P:α->Prop}[DecidablePred P]{R:α->α->Prop} :∀ {l:List α},l.Pairwise R->(∀a b c,a∈l->b∈l->c∈l->P a->P c->R a b->R b c->P b)->(∃a∈l,P a)->
 ∃u X v,l=u++X++v/\(∀t∈u,¬P t)/\(∀t∈X,P t)/\X≠ []/\∀t∈v,¬P t
 | [],_,_,⟨a,ha,_⟩=>by cases ha
 |t::l,hp,hb,hex=>by
  obtain⟨hp1,hp2⟩:=aeW.1 hp
  by_cases h:P t
  ·obtain⟨X,v,e,h1,h2⟩:=Dx P l
   refine⟨[],t::X,v,by simp[e],by simp,fun s hs=>(adw.1 hs).elim (fun e=>e ▸ h) (h1 s),by simp,fun c hc hPc=> ?_⟩
   rcases h2 with rfl|⟨b,v',rfl,hnb⟩
   ·cases hc
   ·have hb1:b∈l:=by rw[e];simp
    rcases adw.1 hc with rfl|zq
    ·exact hnb hPc
    ·have hbc:R b c:=by
      rw[e]at hp2
      have:=(aeg.1 hp2).2.1
      exact(aeW.1 this).1 c zq
     exact hnb (hb t b c (by simp) (by simp[hb1]) (by rw[e];simp[zq]) h hPc (hp1 b hb1) hbc)
  ·obtain⟨a,ha,hPa⟩:=hex
   have T0:a∈l:=(adw.1 ha).elim (fun e=>absurd (e ▸ hPa) h) id
   obtain⟨u,X,v,e,h1,h2,h3,h4⟩:=Dy hp2 (fun a b c ha hb' hc=>hb a b c (by simp[ha]) (by simp[hb']) (by simp[hc])) ⟨a,T0,hPa⟩
   exact⟨t::u,X,v,by simp[e],fun s hs=>(adw.1 hs).elim (fun e=>e ▸ h) (h1 s),h2,h3,h4⟩
theorem lG{p:Pl}{k:Nat}{y:Int}(h:y∈p.ord.take k):∃j,j<k/\j<p.ord.length/\aq p j=y:=by
 obtain⟨j,hj,e⟩:=ads.1 h
 simp only[adH]at hj
 refine⟨j,by omega,by omega, ?_⟩
 rw[aq,aas,acF (by omega),Option.getD_some, <- e,aga]
theorem yA{p:Pl}{k j:Nat}(h1:j<k)(h2:j<p.ord.length):aq p j∈p.ord.take k:=by
 rw[aq,aas,acF h2,Option.getD_some]
 exact ads.2 ⟨j,by simp;omega,by simp⟩
theorem yC{g:Gr}{p:Pl}(hp:bq g p){k:Nat}(hk:k<g.n.toNat):aq p k∉p.ord.take k:=fun h=>by
 obtain⟨j,h1,h2,h3⟩:=lG h
 have:=dS hp (i:=j) (j:=k) (by omega) hk h3
 omega
theorem jU{g:Gr}{p:Pl}(hp:bq g p){k:Nat}(hk:k<g.n.toNat):p.ord.take (k+1)=p.ord.take k++ [aq p k]:=by
 rw[ad2,acF (by rw[aI hp];exact hk),aq,aas,acF (by rw[aI hp];exact hk)]
 rfl
section
variable {g:Gr} {p:Pl}
theorem nk(hm:aM g=true){f:Fr}(hi:Bx g f){k:Nat}(dI:f.pl=p.ord.take k){t:It}(ht:t∈ef f.row):nL g p k t.1/\bt g t.1=t.2.1/\bA g t.1=t.2.2:=by
 obtain⟨h1,h2⟩:=eX.1 ht
 rcases hi.it t h1 with h|⟨_,g2,g3,g4⟩
 ·omega
 ·refine⟨⟨h2,g2, ?_, ?_⟩,g3.symm,g4.symm⟩
  ·rw[<- dI];unfold bt;rw[<- g3];exact hi.tail t h1 h2
  ·rw[<- dI];unfold bA;rw[<- g4];exact hi.head t h1 h2
theorem BZ(hc:(bX g).1=0)(hp:bq g p){L:Nat->Int->Int->Prop}(hL:Hp g p L):∀ {k:Nat},k<=g.n.toNat->
 (∀j,j<k->xP g p j=true)/\((ef (fK g p k).row).Pairwise fun s t=>L k s.1 t.1)/\∀e,nL g p k e->∃t∈(fK g p k).row,t.1=e
 |0,_=>⟨fun j hj=>by omega,by simp[fK,ef],fun e he=>by have:=he.low;simp at this⟩
 |k+1,hk=>by
  have hm:=ah hc
  obtain⟨ih1,ih2,ih3⟩:=BZ hc hp hL (k:=k) (by omega)
  obtain⟨hi,dI,_⟩:=bz hm hp (k:=k) (by omega) ih1
  obtain⟨x0,x1⟩:=aD hp (k:=k) (by omega)
  have hnew:=yC hp (k:=k) (by omega)
  have hnext:=jU hp (k:=k) (by omega)
  have hpx:=aW hp x0 x1
  have hout:∀i∈bE p (aq p k),(0<=i/\i<g.es.length)/\bt g i=aq p k:=fun i hi=>aX.1 (hpx.mem_iff.1 hi)
  have Km:=hL.outs k (by omega)
  have Hq:fK g p (k+1)=(aC g (fK g p k) (aq p k) (bE p (aq p k))).2:=rfl
  have hab:=jT (g:=g) (x:=aq p k) (o:=bE p (aq p k)) fun i hi=>(hout i hi).1.1
  have fin:∀a X c:List It,xP g p k=true->ef (fK g p k).row=a++X++c->gv (aq p k) a->gv (aq p k) c->zD (aq p k) X->(X≠ []\/a++c= [])->ef (fK g p (k+1)).row=a++ef (aQ g (aq p k) (bE p (aq p k)))++c->
   (∀j,j<k+1->xP g p j=true)/\((ef (fK g p (k+1)).row).Pairwise fun s t=>L (k+1) s.1 t.1)/\∀e,nL g p (k+1) e->∃t∈(fK g p (k+1)).row,t.1=e:=by
   intro a X c hR e ha zq hX Nk hs
   refine⟨fun j hj=> ?_, ?_,fun q hq=> ?_⟩
   ·by_cases h:j=k
    ·subst h;exact hR
    ·exact ih1 j (by omega)
   ·have hma:∀t∈a,t∈ef (fK g p k).row:=fun t ht=>by rw[e];simp[ht]
    have Zs:∀t∈X,t∈ef (fK g p k).row:=fun t ht=>by rw[e];simp[ht]
    have RW:∀t∈c,t∈ef (fK g p k).row:=fun t ht=>by rw[e];simp[ht]
    have yy:=fun t ht=>nk (p:=p) hm hi dI (t:=t) ht
    rw[e,aeg,aeg]at ih2
    obtain⟨⟨pa,pX,paX⟩,pc,Yq⟩:=ih2
    have hne:∀t,t∈a\/t∈c->bA g t.1≠aq p k:=fun t ht=>by
     rcases ht with ht|ht
     ·rw[(yy t (hma t ht)).2.2];exact ha t ht
     ·rw[(yy t (RW t ht)).2.2];exact zq t ht
    rw[hs,hab,aeg,aeg]
    refine⟨⟨?_, ?_, ?_⟩, ?_, ?_⟩
    ·exact pa.imp_of_mem fun {s t} hs' ht' h=>hL.keep k (by omega) _ _ (yy s (hma s hs')).1 (yy t (hma t ht')).1 (hne s (.inl hs')) (hne t (.inl ht')) h
    ·rw[aeJ];exact Km
    ·intro s hs' t ht'
     obtain⟨i,hi',rfl⟩:=adb.1 ht'
     rcases Nk with Nk|h0
     ·obtain⟨y,Y,rfl⟩:∃y Y,X=y::Y:=by
       cases X with
       |nil=>exact absurd rfl Nk
       |cons y Y=>exact⟨y,Y,rfl⟩
      exact hL.left k (by omega) s.1 y.1 i (yy s (hma s hs')).1 (yy y (Zs y (by simp))).1 (hne s (.inl hs')) (by rw[(yy y (Zs y (by simp))).2.2];exact hX y (by simp)) hi' (paX s hs' y (by simp))
     ·rw[(ag4.1 h0).1]at hs';cases hs'
    ·exact pc.imp_of_mem fun {s t} hs' ht' h=>hL.keep k (by omega) _ _ (yy s (RW s hs')).1 (yy t (RW t ht')).1 (hne s (.inr hs')) (hne t (.inr ht')) h
    ·intro s hs' t ht'
     rcases ac9.1 hs' with hs1|hs1
     ·exact hL.keep k (by omega) _ _ (yy s (hma s hs1)).1 (yy t (RW t ht')).1 (hne s (.inl hs1)) (hne t (.inr ht')) (Yq s (by simp[hs1]) t ht')
     ·obtain⟨i,hi',rfl⟩:=adb.1 hs1
      rcases Nk with Nk|h0
      ·obtain⟨y,Y,rfl⟩:∃y Y,X=y::Y:=by
        cases X with
        |nil=>exact absurd rfl Nk
        |cons y Y=>exact⟨y,Y,rfl⟩
       exact hL.right k (by omega) t.1 y.1 i (yy t (RW t ht')).1 (yy y (Zs y (by simp))).1 (hne t (.inr ht')) (by rw[(yy y (Zs y (by simp))).2.2];exact hX y (by simp)) hi' (Yq y (by simp) t ht')
      ·rw[(ag4.1 h0).2]at ht';cases ht'
   ·have Mc:∃t∈ef (fK g p (k+1)).row,t.1=q:=by
     have hl:=hq.low
     rw[hnext,ac9,adv]at hl
     have ht:=hq.top
     rw[hnext,ac9,adv]at ht
     rw[hs]
     rcases hl with hl|hl
     ·obtain⟨t,ht1,ht2⟩:=ih3 q ⟨hq.e0,hq.e1,hl,fun h=>ht (.inl h)⟩
      have hte:t∈ef (fK g p k).row:=eX.2 ⟨ht1,by rw[ht2];exact hq.e0⟩
      have hh:=(nk (p:=p) hm hi dI hte).2.2
      have j7:=hte
      rw[e,ac9,ac9]at j7
      rcases j7 with (h1|h1)|h1
      ·exact⟨t,by simp[h1],ht2⟩
      ·exact absurd (by rw[<- ht2,hh];exact hX t h1) fun h=>ht (.inr h)
      ·exact⟨t,by simp[h1],ht2⟩
     ·refine⟨gM g (aq p k) q, ?_,rfl⟩
      rw[hab,ac9,ac9]
      exact .inl (.inr (adb.2 ⟨q,hpx.mem_iff.2 (aX.2 ⟨⟨hq.e0,hq.e1⟩,hl⟩),rfl⟩))
    obtain⟨t,h1,h2⟩:=Mc
    exact⟨t,(eX.1 h1).1,h2⟩
  by_cases hn:aV g (aq p k)=0
  ·have hno:=dO hm hi.tofL x0 hn
   have hR:xP g p k=true:=by
    show au g (fK g p k) (aq p k)=true
    unfold au
    rw[ac8 (by rintro(h|h|h);omega;omega;exact hnew (dI ▸ h)),ada hn]
   have hrow:(fK g p k).row= []:=by
    rcases hi.src with h|⟨s,hs,hs0⟩
    ·exact h.2
    ·have:=gB hc (hi.lg s hs) ⟨x0,x1⟩ hs0 hn
     exact absurd (by rw[<- dI, <- this];exact hs) hnew
   refine fin [] [] [] hR (by rw[hrow];rfl) (fun t ht=>by cases ht) (fun t ht=>by cases ht) (fun t ht=>by cases ht) (.inr rfl) ?_
   rw[Hq,cH _ hno,hrow]
   simp
  ·have hex:∃e,e∈aJ (·.2) g.es g.es.length (aq p k):=by
    cases h:aJ (·.2) g.es g.es.length (aq p k) with
    |nil=>exact absurd (by unfold aV;rw[h];rfl) hn
    |cons e l=>exact⟨e,by simp⟩
   have Yr:∀e,e∈aJ (·.2) g.es g.es.length (aq p k)->∃t∈ef (fK g p k).row,t.1=e/\t.2.2=aq p k:=fun e he=>by
    obtain⟨⟨e0,e1⟩,e2⟩:=aX.1 he
    obtain⟨t,ht1,ht2⟩:=ih3 e ⟨e0,e1,hL.up e e0 e1 k (by omega) e2.symm,by rw[show bA g e=aq p k from e2];exact hnew⟩
    have hte:t∈ef (fK g p k).row:=eX.2 ⟨ht1,by rw[ht2];exact e0⟩
    exact⟨t,hte,ht2,by rw[<- (nk (p:=p) hm hi dI hte).2.2,ht2];exact e2⟩
   obtain⟨e,he⟩:=hex
   obtain⟨t0,QO,_,abf⟩:=Yr e he
   obtain⟨a,X,c,hE,ha,hX,nX,zq⟩:=Dy (P:=fun t:It=>t.2.2=aq p k) ih2 (fun a b c ma mb mc ea ec r1 r2=>by
    have ca:=nk (p:=p) hm hi dI ma
    have cb:=nk (p:=p) hm hi dI mb
    have cc:=nk (p:=p) hm hi dI mc
    rw[<- cb.2.2]
    exact hL.btw k (by omega) a.1 b.1 c.1 ca.1 cb.1 cc.1 (by rw[ca.2.2];exact ea) (by rw[cc.2.2];exact ec) r1 r2) ⟨t0,QO,abf⟩
   have hlen:X.length=aV g (aq p k):=by
    have bR:((ef (fK g p k).row).map (·.1)).Nodup:=by
     rw[List.Nodup,aeJ]
     exact(hi.once.filter _).imp_of_mem fun {s t} hs ht h=>h (eX.1 hs).2
    have abg:(X.map (·.1)).Nodup:=by
     rw[hE,adt,adt]at bR
     exact(adu.1 (adu.1 bR).1).2.1
    have KO:(X.map (·.1)).Perm (aJ (·.2) g.es g.es.length (aq p k)):=by
     refine(aec abg b7).2 fun e=>⟨fun h=> ?_,fun h=> ?_⟩
     ·obtain⟨t,ht,rfl⟩:=adb.1 h
      have hte:t∈ef (fK g p k).row:=by rw[hE];simp[ht]
      have ct:=nk (p:=p) hm hi dI hte
      exact aX.2 ⟨⟨ct.1.e0,ct.1.e1⟩,(show bA g t.1=_ by rw[ct.2.2];exact hX t ht)⟩
     ·obtain⟨t,ht,h1,h2⟩:=Yr e h
      rw[hE,ac9,ac9]at ht
      rcases ht with (h3|h3)|h3
      ·exact absurd h2 (ha t h3)
      ·exact adb.2 ⟨t,h3,h1⟩
      ·exact absurd h2 (zq t h3)
    have:=KO.length_eq
    rw[ado]at this
    exact this
   have hR:xP g p k=true:=BU hm hi.tofL x0 x1 (by rw[dI];exact hnew) hE ha zq hX nX hlen
   exact fin a X c hR hE ha zq hX (.inl nX) (by rw[Hq];exact E6 hm hi.tofL hR hn hE ha zq hX nX _)
theorem Dz(hc:(bX g).1=0)(hp:bq g p){L:Nat->Int->Int->Prop}(hL:Hp g p L):aG g p:=
 ⟨hc,hp,fun k hk=>(BZ hc hp hL (k:=k+1) (by omega)).1 k (by omega)⟩
end
end Go.Ab
end
section
set_option maxHeartbeats 8000000
set_option maxRecDepth 20000
namespace Go.Ab
attribute [local congr] ACall.congr gd.congr Hd.congr Ny.congr vcOps.congr
open Go.Proofs
def Zt(g:Gr)(st:List Int)(x:Nat)(l:List Int):Nat->List Int
 |0=>st
 |j+1=>(Zt g st x l j).set x (max ((Zt g st x l j).getD x 0) ((Zt g st x l j).getD (bt g (l.getD j 0)).toNat 0+1))
def lvK(g:Gr):Nat->List Int
 |0=>List.replicate g.n.toNat 0
 |k+1=>Zt g (lvK g k) ((SN g).getD k 0).toNat (aJ (fun e=>e.2) g.es g.es.length ((SN g).getD k 0)) (aJ (fun e=>e.2) g.es g.es.length ((SN g).getD k 0)).length
def lvL(g:Gr):List Int:=lvK g (SN g).length
end Go.Ab
end
section
set_option maxRecDepth 10000
namespace Go.Ab
open Go.Proofs
structure acT (g:Gr) (st:List Int) (D:List Int):Prop where
 out:∀v:Nat,(v:Int)∉D->st.getD v 0=0
 up:∀i,i<g.es.length->hd g i∈D->st.getD (tl g i).toNat 0+1<=st.getD (hd g i).toNat 0
 why:∀v:Nat,(v:Int)∈D->st.getD v 0=0\/∃i,i<g.es.length/\hd g i=v/\st.getD v 0=st.getD (tl g i).toNat 0+1
end Go.Ab
end
section
namespace Go.Ab
set_option maxRecDepth 10000
set_option linter.unusedSectionVars false
variable {P:PS}
structure PS.Hi (P:PS) (R:Int->Int) (f0 f1:Int) (hi:Int->Int):Prop where
 mid:∀ {x u a b v},P.ins x=u++a::b::v->hi (R a)=x
 h0:hi f0=P.VF
 h1:hi f1=P.VF
def PS.Inn(P:PS)(a:Int):Prop:=∃x u b v,P.outs x=u++a::b::v
section
variable (h:P.Ok) {L R:Int->Int} {f0 f1:Int} {low:Int->Int} (F:P.fM L R f0 f1 low)
include h F
theorem PS.Hi.Di{hi:Int->Int}(H:P.Hi R f0 f1 hi):P.Di.Hi L f1 f0 hi:=
 {mid:=fun {x u a b v} e=>by
   have e:=lC (show(P.ins x).reverse=_ from e)
   rw[<- F.uV e];exact H.mid e
  h0:=H.h1
  h1:=H.h0}
variable {L' R':Int->Int} {f0' f1':Int} {low':Int->Int} (F':P.fM L' R' f0' f1' low')
include F'
end
section
variable (h:P.Ok) {L R:Int->Int} {f0 f1:Int} {low:Int->Int} (F:P.fM L R f0 f1 low)
include h F
theorem B0{e:Int}(he:P.E e):P.hd e∈(P.st P.m).D:=by
 have hi:=P.inv h P.m (adh _)
 obtain⟨j,hj,e2⟩:=j0 h he
 have h1:e∈P.xQ P.m:=PS.wZ.2 ⟨j,hj,e2⟩
 rcases((hi.sh e).1 h1).2 with h2|h2
 ·rw[Qj h]at h2;cases h2
 ·exact h2
theorem s9{x:Int}(hx:x≠P.src):∀ {j:Nat},j<=P.m->x∈(P.st j).D->∃i A' B,i<j/\x∉(P.st i).D/\P.hd (P.sh i)=x/\(P.st i).B=P.sh i::B/\(P.st i).A++ [P.sh i]=A'++P.ins x/\P.ins x≠ []/\P.st (i+1)=⟨A',P.outs x++B,(P.st i).D++ [x]⟩
 |0,_,hm=>by
  have:x∈ [P.src]:=hm
  simp at this;exact absurd this hx
 |j+1,hj,hm=>by
  by_cases hp:x∈(P.st j).D
  ·obtain⟨i,A',B,h1,h2⟩:=s9 hx (j:=j) (by omega) hp
   exact⟨i,A',B,by omega,h2⟩
  ·obtain⟨B,hB,hc⟩:=mX h (show j<P.m by omega)
   rcases hc with ⟨A',h1,h2,h3⟩|⟨h1,h3⟩
   ·rw[h3]at hm
    rcases ac9.1 hm with hm|hm
    ·exact absurd hm hp
    ·rw[adv]at hm
     subst hm
     exact⟨j,A',B,by omega,hp,rfl,hB,h1,h2,h3⟩
   ·rw[h3]at hm;exact absurd hm hp
theorem S8:(P.st P.m).B= []:=by
 cases hB:(P.st P.m).B with
 |nil=>rfl
 |cons e B=>
  exfalso
  obtain⟨k,hr⟩:=pV h (adh P.m)
  have hm:=(h.eW hr e).1 (by rw[hB];simp)
  exact hm.2.2 (B0 h F hm.1)
variable {hi:Int->Int} (H:P.Hi R f0 f1 hi)
include H
end
def abh(t h:Int->Int)(l:List Int)(x:Int):Int:=match l.find? (fun i=>decide (t i=x)) with
 |some i=>h i
 |none=>x
def abi(t h:Int->Int)(l:List Int)(x:Int):Nat->Int
 |0=>x
 |k+1=>abh t h l (abi t h l x k)
section
variable (h:P.Ok) {L R:Int->Int} {f0 f1:Int} {low:Int->Int} (F:P.fM L R f0 f1 low) {hi:Int->Int} (H:P.Hi R f0 f1 hi)
include h F H
end
end Go.Ab
end
section
set_option maxRecDepth 10000
namespace Go.Ab
open Go.Proofs
section
variable (g:Gr) (p:Pl)
def cK:Nat->Nat
 |0=>1
 |k+1=>cK k+((bE p (aq p k)).length - 1)
def VW(e:Int):Nat:=(bE p (bt g e)).findIdx (fun i=>decide (i=e))
def xy(x:Int):Int:=(dP g p x).headD 0
def DA(x:Int):Int:=(dP g p x).getLastD 0
def LK:Nat->Int->Int
 |0,_=>0
 |k+1,e=>if bt g e=aq p k then(if VW g p e=0 then(if k=0 then 0 else LK k (xy g p (aq p k))) else(cK p k:Int)+VW g p e - 1) else LK k e
def RK(r:Int):Nat->Int->Int
 |0,_=>0
 |k+1,e=>if bt g e=aq p k then(if VW g p e+1<(bE p (aq p k)).length then(cK p k:Int)+VW g p e else(if k=0 then r else RK r k (DA g p (aq p k)))) else RK r k e
def xz:Nat->List Int
 |0=> [aq p 0]
 |k+1=>xz k++List.replicate ((bE p (aq p k)).length - 1) (aq p k)
end
section
variable {g:Gr} {p:Pl}
theorem rJ:∀ {k:Nat},(xz p k).length=cK p k
 |0=>rfl
 |k+1=>by rw[xz,adj,age,rJ,cK]
theorem Jz:∀ {k:Nat},0<cK p k
 |0=>by simp[cK]
 |k+1=>by rw[cK];have:= @Jz k;omega
theorem z6{k:Nat} :∀ {d:Nat},cK p k<=cK p (k+d)
 |0=>adh _
 |d+1=>by
  have:= @z6 k d
  show _<=cK p (k+d+1)
  rw[cK];omega
theorem DB{k:Nat}{f:Nat}(hf:f<cK p k):∀ {d:Nat},(xz p (k+d)).getD f 0=(xz p k).getD f 0
 |0=>rfl
 |d+1=>by
  show(xz p (k+d+1)).getD f 0=_
  have:=z6 (p:=p) (k:=k) (d:=d)
  rw[xz,aas,ady (by rw[rJ];omega), <- List.getD_eq_getElem?_getD,DB hf]
theorem QS{k f:Nat}(h1:cK p k<=f)(h2:f<cK p (k+1)):(xz p (k+1)).getD f 0=aq p k:=by
 rw[xz,aas,adx (by rw[rJ];exact h1),afh,rJ,ada (by rw[cK]at h2;omega)]
 rfl
variable (h:aG g p)
include h
theorem B4{k:Nat}(hk:k<g.n.toNat){u v:List Int}{e:Int}(he:bE p (aq p k)=u++e::v):bt g e=aq p k/\VW g p e=u.length:=by
 have hx:=aD h.2.1 hk
 have px:=aW h.2.1 hx.1 hx.2
 have h1:=(aX.1 (px.mem_iff.1 (show e∈bE p (aq p k) by rw[he];simp))).2
 have h1:bt g e=aq p k:=h1
 refine⟨h1, ?_⟩
 have bR:(bE p (aq p k)).Nodup:=px.nodup_iff.2 b7
 unfold VW
 rw[h1,he]
 rw[he,adu]at bR
 rw[List.findIdx_append]
 have h2:u.findIdx (fun i=>decide (i=e))=u.length:=by
  rw[List.findIdx_eq_length]
  intro i hi
  exact ac6 fun e2=>bR.2.2 i hi e (by simp) e2
 rw[h2,ac8 (by omega)]
 simp[List.findIdx_cons]
theorem La{e:Int}{k:Nat}(hk:k<g.n.toNat)(he:bt g e=aq p k):∀ {d:Nat},k+1+d<=g.n.toNat->LK g p (k+1+d) e=LK g p (k+1) e
 |0,_=>rfl
 |d+1,hd=>by
  show LK g p (k+1+d+1) e=_
  rw[LK,ac8 (fun e2=>by have:=dS h.2.1 hk (show k+1+d<g.n.toNat by omega) (he.symm.trans e2);omega),La hk he (by omega)]
theorem Lb{r:Int}{e:Int}{k:Nat}(hk:k<g.n.toNat)(he:bt g e=aq p k):∀ {d:Nat},k+1+d<=g.n.toNat->RK g p r (k+1+d) e=RK g p r (k+1) e
 |0,_=>rfl
 |d+1,hd=>by
  show RK g p r (k+1+d+1) e=_
  rw[RK,ac8 (fun e2=>by have:=dS h.2.1 hk (show k+1+d<g.n.toNat by omega) (he.symm.trans e2);omega),Lb hk he (by omega)]
theorem rK{e:Int}{k:Nat}(hk:k<g.n.toNat)(he:bt g e=aq p k){j:Nat}(h1:k+1<=j)(h2:j<=g.n.toNat):LK g p j e=LK g p (k+1) e:=by
 obtain⟨d,rfl⟩:=afA h1
 exact La h hk he h2
theorem rL{r:Int}{e:Int}{k:Nat}(hk:k<g.n.toNat)(he:bt g e=aq p k){j:Nat}(h1:k+1<=j)(h2:j<=g.n.toNat):RK g p r j e=RK g p r (k+1) e:=by
 obtain⟨d,rfl⟩:=afA h1
 exact Lb h hk he h2
theorem E9{k:Nat}(hk:k<g.n.toNat){v:List Int}{e:Int}(he:bE p (aq p k)=e::v){j:Nat}(h1:k+1<=j)(h2:j<=g.n.toNat):LK g p j e=if k=0 then 0 else LK g p k (xy g p (aq p k)):=by
 obtain⟨a,b⟩:=B4 h hk (u:= []) he
 rw[rK h hk a h1 h2,LK,ada a,ada (show VW g p e=0 from b)]
theorem Lc{k:Nat}(hk:k<g.n.toNat){u v:List Int}{e:Int}(he:bE p (aq p k)=u++e::v)(hu:u≠ []){j:Nat}(h1:k+1<=j)(h2:j<=g.n.toNat):LK g p j e=(cK p k:Int)+u.length - 1:=by
 obtain⟨a,b⟩:=B4 h hk he
 have:=ae7.2 hu
 rw[rK h hk a h1 h2,LK,ada a,ac8 (by omega),b]
theorem JA{r:Int}{k:Nat}(hk:k<g.n.toNat){u:List Int}{e:Int}(he:bE p (aq p k)=u++ [e]){j:Nat}(h1:k+1<=j)(h2:j<=g.n.toNat):RK g p r j e=if k=0 then r else RK g p r k (DA g p (aq p k)):=by
 obtain⟨a,b⟩:=B4 h hk he
 rw[rL h hk a h1 h2,RK,ada a,ac8 (by rw[b,he];simp)]
theorem td{r:Int}{k:Nat}(hk:k<g.n.toNat){u v:List Int}{e c:Int}(he:bE p (aq p k)=u++e::c::v){j:Nat}(h1:k+1<=j)(h2:j<=g.n.toNat):RK g p r j e=(cK p k:Int)+u.length:=by
 obtain⟨a,b⟩:=B4 h hk he
 rw[rL h hk a h1 h2,RK,ada a,ada (by rw[b,he];simp),b]
theorem DC{x:Int}{a:Int}{u:List Int}(hu:dP g p x=a::u):xy g p x=a:=by unfold xy;rw[hu];rfl
theorem Hr{x:Int}{a:Int}{u:List Int}(hu:dP g p x=u++ [a]):DA g p x=a:=by unfold DA;rw[hu];simp
theorem QT{k:Nat}(hk:k<g.n.toNat)(hI:dP g p (aq p k)≠ []):k≠0:=fun h0=>by
 subst h0
 have:=jt h (aD h.2.1 hk)
 rw[gE h]at this
 exact hI (adF this)
theorem B5{k:Nat}(hk:k<g.n.toNat){a:Int}(ha:a∈dP g p (aq p k)):∃j,j<k/\bt g a=aq p j:=by
 obtain⟨h1,h2⟩:=((er h (aD h.2.1 hk)).2 a).1 ha
 obtain⟨j,h3,h4⟩:=E7 h h1 hk h2
 exact⟨j,h3,h4.symm⟩
def WK(g:Gr)(p:Pl)(k:Nat):List Int:=(ef (fK g p k).row).map (·.1)
theorem QU(hn:0<g.n.toNat):WK g p 1=bE p (aq p 0):=by
 have hx:=aD h.2.1 hn
 have px:=aW h.2.1 hx.1 hx.2
 have hno:gv (aq p 0) (fK g p 0).row:=fun t ht=>by cases ht
 have hf:(fK g p 1).row=aQ g (aq p 0) (bE p (aq p 0)):=by
  show(aC g (fK g p 0) (aq p 0) _).2.row=_
  rw[cH _ hno]
  show _++ []=_
  simp
 unfold WK
 rw[hf,jT (fun i hi=>(aX.1 (px.mem_iff.1 hi)).1.1),aeF]
 have e7:((fun t:It=>t.1) ∘ gM g (aq p 0))=id:=rfl
 rw[e7,agF]
theorem Ld{k:Nat}(h0:k≠0)(hk:k<g.n.toNat):∃A C,WK g p k=A++dP g p (aq p k)++C/\dP g p (aq p k)≠ []/\WK g p (k+1)=A++bE p (aq p k)++C:=by
 have hm:=ah h.1
 obtain⟨hi,dI,_⟩:=bz hm h.2.1 (k:=k) (by omega) fun j hj=>h.2.2 j (by omega)
 have hR:=h.2.2 k hk
 have hx:=aD h.2.1 hk
 have px:=aW h.2.1 hx.1 hx.2
 have hn:aV g (aq p k)≠0:=fun hz=>by
  have h00:=aD h.2.1 (show 0<g.n.toNat by omega)
  have:=gB h.1 hx h00 hz (gE h)
  exact h0 (dS h.2.1 hk (by omega) this)
 obtain⟨a,c,e1,_,_,_,hl,e2⟩:=xq hm hi.tofL hR hn (bE p (aq p k))
 refine⟨a.map (·.1),c.map (·.1), ?_, ?_, ?_⟩
 ·rw[ni h hk];unfold WK;rw[e1,adt,adt];rfl
 ·intro h1
  have:=jt h hx
  rw[h1]at this
  exact hn this.symm
 ·unfold WK
  show(ef (aC g (fK g p k) (aq p k) _).2.row).map (·.1)=_
  rw[e2,adt,adt,jT (fun i hi=>(aX.1 (px.mem_iff.1 hi)).1.1),aeF]
  have e7:((fun t:It=>t.1) ∘ gM g (aq p k))=id:=rfl
  rw[e7,agF]
theorem Lg{k:Nat}(hk:k<=g.n.toNat){a:Int}(ha:a∈WK g p k):∃j,j<k/\bt g a=aq p j:=by
 have hm:=ah h.1
 obtain⟨hi,dI,_⟩:=bz hm h.2.1 (k:=k) (by omega) fun j hj=>h.2.2 j (by omega)
 obtain⟨t,ht,rfl⟩:=adb.1 ha
 obtain⟨h1,h2,_⟩:=xu hm hi.tofL ht
 obtain⟨h4,h5⟩:=eX.1 ht
 have:=hi.tail t h4 h5
 rw[dI,h2]at this
 obtain⟨j,hj,e⟩:=take_at (by rw[aI h.2.1];omega) this
 exact⟨j,hj,e.symm⟩
theorem Lh{r:Int}{k:Nat}(hk:k<g.n.toNat){j:Nat}(h1:k+1<=j)(h2:j<=g.n.toNat):ja (LK g p j) (RK g p r j) (if k=0 then 0 else LK g p k (xy g p (aq p k))) (bE p (aq p k)):=by
 refine w5 (fun u a b v e=> ?_) fun a u e=>E9 h hk e h1 h2
 rw[td h hk e h1 h2,Lc h hk (u:=u++ [a]) (v:=v) (e:=b) (by rw[e];simp) (by simp) h1 h2]
 simp;omega
theorem Lj{r:Int}{k:Nat}(hk:k<g.n.toNat){j:Nat}(h1:k+1<=j)(h2:j<=g.n.toNat)(hO:bE p (aq p k)≠ [])(f:Int):ku (RK g p r j) f (bE p (aq p k))=if k=0 then r else RK g p r k (DA g p (aq p k)):=by
 obtain⟨v,b,hv⟩:=iA hO
 rw[hv,cW,JA h hk hv h1 h2]
theorem rM{L R L' R':Int->Int} :∀ {W:List Int} {f:Int},(∀a∈W,L a=L' a/\R a=R' a)->(ja L R f W↔ja L' R' f W)
 | [],_,_=>Iff.rfl
 |a::W,f,hh=>by
  have h1:=hh a (adI ..)
  simp only[ja,h1.1,h1.2,rM (W:=W) fun b hb=>hh b (adA _ hb)]
theorem B6{R R':Int->Int} :∀ {W:List Int} {f:Int},(∀a∈W,R a=R' a)->ku R f W=ku R' f W
 | [],_,_=>rfl
 |a::W,f,hh=>by
  simp only[ku,hh a (adI ..),B6 (W:=W) fun b hb=>hh b (adA _ hb)]
theorem QV{r:Int}(hI:q8 g=true):∀ {k:Nat},1<=k->k<g.n.toNat->WK g p k≠ []->ja (LK g p k) (RK g p r k) 0 (WK g p k)/\ku (RK g p r k) 0 (WK g p k)=r
 |0,h1,_,_=>by omega
 |k+1,_,hk,hW=>by
  by_cases h0:k=0
  ·subst h0
   rw[QU h (by omega)]at hW ⊢
   have a:=Lh (r:=r) h (k:=0) (by omega) (j:=1) (adh _) (by omega)
   have b:=Lj (r:=r) h (k:=0) (by omega) (j:=1) (adh _) (by omega) hW 0
   rw[ada rfl]at a b
   exact⟨a,b⟩
  ·obtain⟨A,C,e1,hne,e2⟩:=Ld h h0 (show k<g.n.toNat by omega)
   obtain⟨l1,l2⟩:=QV hI (k:=k) (by omega) (by omega) (by rw[e1];simp[hne])
   have hO:bE p (aq p k)≠ []:=fun h1=>by
    have:=(oN h hI (aD h.2.1 (show k<g.n.toNat by omega))).1 h1
    have:=dS h.2.1 (show k<g.n.toNat by omega) (by omega) this
    omega
   have VX:∀a∈WK g p k,LK g p (k+1) a=LK g p k a/\RK g p r (k+1) a=RK g p r k a:=fun a ha=>by
    obtain⟨j,hj,e⟩:=Lg h (by omega) ha
    exact⟨by rw[rK h (by omega) e (j:=k+1) (by omega) (by omega),rK h (by omega) e (j:=k) (by omega) (by omega)],by rw[rL h (by omega) e (j:=k+1) (by omega) (by omega),rL h (by omega) e (j:=k) (by omega) (by omega)]⟩
   rw[<- rM h VX]at l1
   rw[<- B6 h fun a ha=>(VX a ha).2]at l2
   rw[e1]at l1 l2 VX
   rw[e2]
   obtain⟨a0,u0,VG⟩:=jZ hne
   obtain⟨u,a,hu⟩:=iA hne
   obtain⟨l3,l5⟩:=cw.1 l1
   obtain⟨l4,l6⟩:=cw.1 l3
   have hL0:LK g p (k+1) a0=ku (RK g p r (k+1)) 0 A:=by rw[VG]at l6;exact l6.1
   have Ya:∀f,ku (RK g p r (k+1)) f (dP g p (aq p k))=RK g p r k (DA g p (aq p k)):=fun f=>by
    rw[Hr h hu,hu,cW,(VX a (by rw[hu];simp)).2]
   have hlk:=Lh (r:=r) h (k:=k) (by omega) (j:=k+1) (adh _) (by omega)
   have hfe:=Lj (r:=r) h (k:=k) (by omega) (j:=k+1) (adh _) (by omega) hO
   rw[ac8 h0]at hlk hfe
   rw[DC h VG, <- (VX a0 (by rw[VG];simp)).1,hL0]at hlk
   refine⟨?_, ?_⟩
   ·rw[cw,cw,dn,hfe]
    rw[dn,Ya]at l5
    exact⟨⟨l4,hlk⟩,l5⟩
   ·rw[dn,dn,hfe]
    rw[dn,dn,Ya]at l2
    exact l2
theorem JB(hI:q8 g=true){r:Int}(hr:r<0\/cK p g.n.toNat<=r):(aP g p).fM (LK g p g.n.toNat) (RK g p r g.n.toNat) 0 r (fun f=>(xz p g.n.toNat).getD f.toNat 0):=by
 have hm:=ah h.1
 have hn:=aB hm
 have qy:∀ {x:Int} {l:List Int},(aP g p).outs x=l->l≠ []->∃k,k<g.n.toNat/\aq p k=x/\bE p (aq p k)=l:=fun {x l} h1 h2=>by
  by_cases hx:fN g x
  ·obtain⟨k,hk,rfl⟩:=cq h.2.1 hx.1 hx.2
   exact⟨k,hk,rfl,by rw[<- h1,eo hx]⟩
  ·rw[oM hx]at h1;exact absurd h1.symm h2
 have abj:∀ {x:Int} {l:List Int},(aP g p).ins x=l->l≠ []->∃k,k<g.n.toNat/\aq p k=x/\dP g p (aq p k)=l:=fun {x l} h1 h2=>by
  by_cases hx:fN g x
  ·obtain⟨k,hk,rfl⟩:=cq h.2.1 hx.1 hx.2
   exact⟨k,hk,rfl,by rw[<- h1,gR hx]⟩
  ·rw[nh hx]at h1;exact absurd h1.symm h2
 have h0:(aP g p).src=aq p 0:=rfl
 have Y2:∀k,0<cK p k:=fun k=>Jz
 exact {
  ne:=by have:=Y2 g.n.toNat;omega
  kQ:=fun {x u a b v} e=>by
   obtain⟨k,hk,_,e2⟩:=qy e (by simp)
   rw[td h hk e2 (by omega) (adh _),Lc h hk (u:=u++ [a]) (v:=v) (e:=b) (by rw[e2];simp) (by simp) (by omega) (adh _)]
   simp;omega
  uV:=fun {x u a b v} e=>by
   obtain⟨k,hk,_,e2⟩:=abj e (by simp)
   have Ay:=QT h hk (by rw[e2];simp)
   obtain⟨A,C,e1,hne,_⟩:=Ld h Ay hk
   have l1:=(QV (r:=r) h hI (k:=k) (by omega) hk (by rw[e1];simp[hne])).1
   have VX:∀a∈WK g p k,LK g p g.n.toNat a=LK g p k a/\RK g p r g.n.toNat a=RK g p r k a:=fun a ha=>by
    obtain⟨j,hj,e⟩:=Lg h (by omega) ha
    exact⟨by rw[rK h (by omega) e (j:=g.n.toNat) (by omega) (by omega),rK h (by omega) e (j:=k) (by omega) (by omega)],by rw[rL h (by omega) e (j:=g.n.toNat) (by omega) (by omega),rL h (by omega) e (j:=k) (by omega) (by omega)]⟩
   rw[<- rM h VX,e1,e2,show A++(u++a::b::v)++C=(A++u)++a::b::(v++C) by simp]at l1
   exact Qi l1
  fst:=fun {x a u b v} e1 e2=>by
   obtain⟨k,hk,hx,e3⟩:=qy e2 (by simp)
   have e4:dP g p (aq p k)=a::u:=by
    have MI:fN g x:=by rw[<- hx];exact aD h.2.1 hk
    rw[hx, <- gR MI];exact e1
   have Ay:=QT h hk (by rw[e4];simp)
   obtain⟨j,hj,et⟩:=B5 h hk (a:=a) (by rw[e4];simp)
   rw[E9 h hk e3 (by omega) (adh _),ac8 Ay,DC h e4,rK h (by omega) et (j:=g.n.toNat) (by omega) (adh _),rK h (by omega) et (j:=k) (by omega) (by omega)]
  GM:=fun {x a u b v} e1 e2=>by
   obtain⟨k,hk,hx,e3⟩:=qy e2 (by simp)
   have e4:dP g p (aq p k)=u++ [a]:=by
    have MI:fN g x:=by rw[<- hx];exact aD h.2.1 hk
    rw[hx, <- gR MI];exact e1
   have Ay:=QT h hk (by rw[e4];simp)
   obtain⟨j,hj,et⟩:=B5 h hk (a:=a) (by rw[e4];simp)
   rw[JA h hk e3 (by omega) (adh _),ac8 Ay,Hr h e4,rL h (by omega) et (j:=g.n.toNat) (by omega) (adh _),rL h (by omega) et (j:=k) (by omega) (by omega)]
  s0:=fun {b v} e=>by
   obtain⟨k,hk,hx,e3⟩:=qy e (by simp)
   have:k=0:=dS h.2.1 hk (by omega) hx
   rw[E9 h hk e3 (by omega) (adh _),ada this]
  s1:=fun {b v} e=>by
   obtain⟨k,hk,hx,e3⟩:=qy e (by simp)
   have:k=0:=dS h.2.1 hk (by omega) hx
   rw[JA h hk e3 (by omega) (adh _),ada this]
  new:=fun {x u a b v} e=>by
   obtain⟨k,hk,hx,e3⟩:=qy e (by simp)
   have hR:=td (r:=r) h hk e3 (j:=g.n.toNat) (by omega) (adh _)
   have hl:(bE p (aq p k)).length=u.length+(v.length+2):=by rw[e3];simp
   have Pr:cK p (k+1)=cK p k+((bE p (aq p k)).length - 1):=rfl
   obtain⟨d,hd⟩:=afA (show k+1<=g.n.toNat by omega)
   have hmo:=z6 (p:=p) (k:=k+1) (d:=d)
   rw[<- hd]at hmo
   have:=Y2 k
   refine⟨?_,by omega,by omega⟩
   show(xz p g.n.toNat).getD (RK g p r g.n.toNat a).toNat 0=x
   rw[hR,show((cK p k:Int)+(u.length:Int)).toNat=cK p k+u.length by omega,hd,DB (by omega),QS (by omega) (by omega),hx]
  new1:=fun {x u a b v u' a' b' v'} e1 e2 e3=>by
   obtain⟨k,hk,hx,e4⟩:=qy e1 (by simp)
   have e5:bE p (aq p k)=u'++a'::b'::v':=by
    have MI:fN g x:=by rw[<- hx];exact aD h.2.1 hk
    rw[hx, <- eo MI];exact e2
   rw[td h hk e4 (by omega) (adh _),td h hk e5 (by omega) (adh _)]at e3
   have hl:u.length=u'.length:=by omega
   rw[e4]at e5
   have:=(List.append_inj e5 hl).2
   simp only[adB]at this
   exact this.1}
end
end Go.Ab
end
section
set_option maxHeartbeats 8000000
set_option maxRecDepth 10000
namespace Go.Ab
attribute [local congr] ACall.congr gd.congr Hd.congr Ny.congr vcOps.congr
open Go.Proofs
def Ll(A o:List Int)(f:Nat->Int):Nat->List Int
 |0=>A
 |j+1=>(Ll A o f j).set (o.getD j 0).toNat (f j)
def abV(A o:List Int)(left:Int)(c:Nat)(j:Nat):List Int:=Ll A o (fun j=>if j=0 then left else(c:Int)+j - 1) j
def abW(A o:List Int)(right:Int)(c:Nat)(j:Nat):List Int:=Ll A o (fun j=>if j+1<o.length then(c:Int)+j else right) j
def Uo(c k:Nat):List Int:=(List.range k).map fun i:Nat=>((c+i:Nat):Int)
def lfF(left:Int)(c d j:Nat):Int:=if min j (d - 1)=0 then left else(c:Int)+(min j (d - 1):Nat) - 1
def stO(ed gp:D)(A B lo hi:List Int):List (Nat × AObj):= [(10000, .box [.d ed, .d gp, .ref 10001, .ref 10002, .ref 10003, .ref 10004]),(10001, .own 3 1 (A.map rI)),(10002, .own 3 1 (B.map rI)),(10003, .tip 3 1 (lo.map rI)),(10004, .own 3 1 (hi.map rI))]
def stN(ed gp:D)(A B lo hi:List Int):List (Nat × AObj):= [(10000, .box [.d ed, .d gp, .ref 10001, .ref 10002, .ref 10005, .ref 10006]),(10001, .own 3 1 (A.map rI)),(10002, .own 3 1 (B.map rI)),(10005, .tip 3 1 (lo.map rI)),(10006, .own 3 1 (hi.map rI))]
def Ys(A fs:List Int)(x:Int)(j:Nat):List Int:=Ll A fs (fun _=>x) j
end Go.Ab
end
section
set_option maxRecDepth 10000
namespace Go.Ab
open Go.Proofs
def arr(f:Int->Int)(m:Nat):List Int:=(List.range m).map fun i:Nat=>f (i:Int)
section
variable {g:Gr} {p:Pl} (h:aG g p)
include h
theorem S9{k:Nat}(hk:k<g.n.toNat){e:Int}(he:e∈bE p (aq p k)):(0<=e/\e<g.es.length)/\bt g e=aq p k:=by
 have hx:=aD h.2.1 hk
 exact aX.1 ((aW h.2.1 hx.1 hx.2).mem_iff.1 he)
end
section
variable (g:Gr) (p:Pl)
def JC:Nat->List Int
 |0=>bE p (aq p 0)
 |j+1=>if bE p (aq p (j+1))= [] then JC j else(JC j).take (jg (JC j) (xy g p (aq p (j+1)))).toNat++bE p (aq p (j+1))++(JC j).drop ((jg (JC j) (xy g p (aq p (j+1)))).toNat+(dP g p (aq p (j+1))).length)
def Yt:Nat->List Int
 |0=> [0]++Uo 1 ((bE p (aq p 0)).length - 1)++ [-1]
 |j+1=>(Yt j).take ((jg (JC g p j) (xy g p (aq p (j+1)))).toNat+1)++Uo (cK p (j+1)) ((bE p (aq p (j+1))).length - 1)++(Yt j).drop ((jg (JC g p j) (xy g p (aq p (j+1)))).toNat+(dP g p (aq p (j+1))).length)
def Yu(k:Nat):List Int:=((dP g p (aq p k)).dropLast).map (RK g p (-1) k)
def hiK:Nat->List Int
 |0=> [aq p (g.n.toNat - 1)]
 |k+1=>Ys (hiK k) (Yu g p k) (aq p k) (Yu g p k).length++List.replicate ((bE p (aq p k)).length - 1) 0
end
section
variable {g:Gr} {p:Pl}
variable (h:aG g p)
include h
end
end Go.Ab
end
section
set_option maxHeartbeats 8000000
set_option maxRecDepth 60000
namespace Go.Ab
attribute [local congr] ACall.congr gd.congr Hd.congr Ny.congr vcOps.congr
open Go.Proofs
def swapT(l:List It)(k:Nat):List It:=(List.range l.length).map fun p=>if p<k\/l.length - 1<p+k then l.getD (l.length - 1 - p) (0,0,0) else l.getD p (0,0,0)
theorem fE{l:List It}{k:Nat} :(swapT l k).length=l.length:=by simp[swapT]
theorem oR{l:List It}{k p:Nat}(h:p<l.length):(swapT l k)[p]? =some (if p<k\/l.length - 1<p+k then l.getD (l.length - 1 - p) (0,0,0) else l.getD p (0,0,0)):=by
 simp[swapT,adq h]
theorem B7{l:List It}{k p:Nat}(h:p<l.length)(d:It):(swapT l k).getD p d=if p<k\/l.length - 1<p+k then l.getD (l.length - 1 - p) (0,0,0) else l.getD p (0,0,0):=by
 rw[aas,oR h];rfl
theorem JD{l:List It} :swapT l 0=l:=by
 refine adZ fun i=> ?_
 by_cases hi:i<l.length
 ·rw[oR hi,ac8 (by omega),aas,acF hi];rfl
 ·rw[adp (by rw[fE];omega),adp (by omega)]
theorem Nl{l:List It}{k:Nat}(h:l.length<=2*k+1):swapT l k=l.reverse:=by
 refine adZ fun i=> ?_
 by_cases hi:i<l.length
 ·rw[oR hi,afb hi]
  split
  ·rw[aas,acF (by omega)];rfl
  ·have:i=l.length - 1 - i:=by omega
   rw[<- this,aas,acF hi];rfl
 ·rw[adp (by rw[fE];omega),adp (by rw[aeQ];omega)]
theorem JE{l:List It}{k:Nat}(h:k<l.length - 1 - k):((swapT l k).set k ((swapT l k).getD (l.length - 1 - k) (0,0,0))).set (l.length - 1 - k) ((swapT l k).getD k (0,0,0))=swapT l (k+1):=by
 refine adZ fun i=> ?_
 rw[aeb,adQ,fE,aeb,fE]
 by_cases hi:i<l.length
 ·rw[oR hi,oR hi,B7 (by omega),B7 (by omega)]
  by_cases h1:l.length - 1 - k=i
  ·rw[ada h1,ada (by omega),ac8 (by omega),ada (by omega)]
   congr 2;omega
  ·rw[ac8 h1]
   by_cases h2:k=i
   ·rw[ada h2,ada (by omega),ac8 (by omega),ada (by omega)]
    congr 2;omega
   ·rw[ac8 h2]
    congr 1
    by_cases h3:i<k\/l.length - 1<i+k
    ·rw[ada h3,ada (by omega)]
    ·rw[ac8 h3,ac8 (by omega)]
 ·rw[adp (by rw[fE];omega),adp (by rw[fE];omega),ac8 (by omega),ac8 (by omega)]
theorem VY(l:List It)(k:Nat)(t:It):(l.map rT).set k [.sc (.int .i64 t.1), .sc (.int .i64 t.2.1), .sc (.int .i64 t.2.2)]=(l.set k t).map rT:=by
 rw[aeS];rfl
theorem CK(l:List It)(hl:l.length<=1000000):Spec Tryz.prog 106 (Args [.ref 10000]) [(10000, .own 92 3 (l.map rT))] (.tup []) [(10000, .own 92 3 (l.reverse.map rT))]:=by
 (refine T.h [] [] [] Tryz.func106 rfl rfl (by kernel_rfl) fun X hX hP hC aA bB=> ?_)
 repeat' (first|refine Rn.p ?_|((first|refine Rs.p ?_|refine Hd.mk ?_);try simp only[go_sem,simprocAttr])|with_reducible (apply And.intro)|omega)
 refine ag (fun k:Nat=>2*k<=l.length+1) (fun k=>⟨[(0, .ref 10000),(2,eN k),(3,eN ((l.length:Int) - 1 - k))], [(10000, .own 92 3 ((swapT l k).map rT))]⟩) (fun k=>l.length+1 - k) 0 (by omega) ?_ ?_
 ·refine Le.of ?_ ?_<;>simp[go_sem,simprocAttr,JD]
 rintro k hk
 rcases adk (2*k+1) l.length with hlt|hge
 ·have hb:decide ((k:Int)<(l.length:Int) - 1 - (k:Int))=true:=ac7 (by omega)
  have ht:((l.length:Int) - 1 - (k:Int)).toNat=l.length - 1 - k:=by omega
  repeat' (first|refine Rn.p ?_|((first|refine Rs.p ?_|refine Hd.mk ?_);try simp only[go_sem,simprocAttr,hb,ht,fE,VY,List.length_cons,List.length_nil,aes,ae2,List.drop_nil])|with_reducible (first|apply And.intro|refine oD (by kernel_rfl) ?_)|omega)
  refine⟨k+1,by omega, ?_,by omega⟩
  refine Le.of ?_ ?_<;>simp[go_sem,simprocAttr]
  ·omega
  ·rw[<- JE (by omega),aeS,aeS]
   simp only[aas]
   rfl
 ·have hb:decide ((k:Int)<(l.length:Int) - 1 - (k:Int))=false:=ac6 (by omega)
  repeat' (first|refine Rn.p ?_|((first|refine Rs.p ?_|refine Hd.mk ?_);try simp only[go_sem,simprocAttr,hb]))
  simp only[go_sem,simprocAttr,hb,Nl hge]
theorem Hs(ps:List It)(hl:ps.length<=1000000):
 Spec Tryz.prog 142 (Args [.d (sT ps)]) [] (.ref 10000) [(10000, .own 92 3 (ps.map rT))]:=by
 (refine T.hR [5,7] [] [.t 2] [(10000,7)] Tryz.func142 rfl rfl (by kernel_rfl) fun X hX hP hC aA bB=> ?_)
 repeat' (first|(show cR _ .ret _ _;(try simp only[go_sem,simprocAttr]);refine dQ hX 2 7 (.own 92 3 []) ?_ ?_ (by decide) ⟨92,3,by decide, .inl rfl⟩ ?_;(iterate 2 (focus(simp only[go_sem,simprocAttr];done)));simp only[go_sem,simprocAttr])|refine Rn.p ?_|((first|refine Rs.p ?_|refine Hd.mk ?_);try simp only[go_sem,simprocAttr])|with_reducible (first|apply And.intro|(intro h;try simp only[go_sem,simprocAttr]at h))|omega)
 exact h.symm
theorem Nn(ds:List D)(row:List It)(hr:row.length<=1000000):Spec Tryz.prog 90 (Args [.d (.pt (sT row::ds))]) [] (.ref 10000) [(10000, .own 92 3 (row.map rT))]:=by
 (refine T.hR [] [] [.t 2] [(10000,7)] Tryz.func90 rfl rfl (by kernel_rfl) fun X hX hP hC aA bB=> ?_)
 repeat' (first|refine Rn.p ?_|((first|refine Rs.p ?_|refine Hd.mk ?_|(refine aS [(10000,7)] (Hs row hr) ?_ ?_;(focus(simp[go_sem,simprocAttr];done))));try simp only[go_sem,simprocAttr]))
def DD(rs:List Int)(l:List It):Int:=match l.find? (fun t=>decide (t.2.2∈rs)) with
 |some t=>t.2.2
 |none=>rs.headD (-1)
theorem No(rs:List Int)(l:List It)(hr:rs≠ [])(hrl:rs.length<=1000000)(hl:l.length<=1000000):Spec Tryz.prog 154 (Args [.d (sI rs), .d (sT l)]) [] (eN (DD rs l)) []:=by
 generalize hH:DD rs l=H
 (refine T.h [] [] [.t 4] Tryz.func154 rfl rfl (by kernel_rfl) fun X hX hP hC aA bB=> ?_)
 repeat' (first|refine Rn.p ?_|((first|refine Rs.p ?_|refine Hd.mk ?_);try simp only[go_sem,simprocAttr]))
 refine ag (fun k:Nat=>k<=l.length/\∀j,j<k->(l.getD j (0,0,0)).2.2∉rs) (fun k=>⟨[(0, .d (sI rs)),(7, .d (sT l)),(8,eN l.length),(9,eN k)], []⟩) (fun k=>l.length - k) 0 (by simp) ?_ ?_
 ·(refine Le.of ?_ ?_<;>simp[go_sem,simprocAttr])
 rintro k ⟨hk,hg⟩
 rcases adk k l.length with cM|RI
 ·have hb:decide ((k:Int)<(l.length:Int))=true:=ac7 (by omega)
  by_cases h1:(l.getD k (0,0,0)).2.2∈rs
  ·have hb1:decide ((l.getD k (0,0,0)).2.2∈rs)=true:=ac7 h1
   have:(l.getD k (0,0,0)).2.2=H:=by
    rw[<- hH];unfold DD
    have:l.find? (fun t=>decide (t.2.2∈rs))=some (l.getD k (0,0,0)):=by
     rw[List.find?_eq_some_iff_getElem]
     refine⟨hb1,k,cM,by rw[aas,acF cM];rfl,fun j hj=> ?_⟩
     have:=hg j hj
     rw[aas,acF (by omega)]at this
     simpa using this
    rw[this]
   have hb2:decide (H∈rs)=true:=by rw[<- this];exact hb1
   repeat' (first|refine Rn.p ?_|((first|refine Rs.p ?_|refine Hd.mk ?_|refine aa (dm rs H (by omega)) rfl ?_);try simp only[go_sem,simprocAttr,hb,hb2,this])|with_reducible (apply And.intro)|omega)
  ·have hb1:decide ((l.getD k (0,0,0)).2.2∈rs)=false:=ac6 h1
   repeat' (first|refine Rn.p ?_|((first|refine Rs.p ?_|refine Hd.mk ?_|refine aa (dm rs (l.getD k (0,0,0)).2.2 (by omega)) rfl ?_);try simp only[go_sem,simprocAttr,hb,hb1])|with_reducible (apply And.intro)|omega)
   refine⟨k+1,⟨by omega,fun j hj=> ?_⟩, ?_,by omega⟩
   ·by_cases e:j=k
    ·subst e;exact h1
    ·exact hg j (by omega)
   ·(refine Le.of ?_ ?_<;>simp[go_sem,simprocAttr,hb,hb1])
 ·have hb:decide ((k:Int)<(l.length:Int))=false:=ac6 (by omega)
  have hpos:=ae7.2 hr
  have:rs.getD 0 0=H:=by
   rw[<- hH];unfold DD
   have:l.find? (fun t=>decide (t.2.2∈rs))=none:=by
    rw[List.find?_eq_none]
    intro t ht
    obtain⟨j,hj,rfl⟩:=ads.1 ht
    have:=hg j (by omega)
    rw[aas,acF hj]at this
    simpa using this
   rw[this]
   match rs,hr with
   |a::_,_=>rfl
  repeat' (first|refine Rn.p ?_|((first|refine Rs.p ?_|refine Hd.mk ?_);try simp only[go_sem,simprocAttr,hb,this])|with_reducible (apply And.intro)|omega)
theorem Ta{g:Gr}(hm:aM g=true){f:Fr}(hi:fL g f)(rev:Bool):DD (gQ g f) (kz rev f.row)=ee g f rev:=by
 unfold DD ee
 have:(fun t:It=>decide (t.2.2∈gQ g f))=fun t:It=>au g f t.2.2:=by
  funext t
  cases h:au g f t.2.2 with
  |true=>exact ac7 ((kC hm hi).2 h)
  |false=>exact ac6 fun h2=>by rw[(kC hm hi).1 h2]at h;cases h
 rw[this]
 rfl
theorem JF(row:List It):Spec Tryz.prog 105 (Args [.ref 10000]) [(10000, .own 92 3 (row.map rT))] (.tup []) [(10000, .own 92 3 ((kz false row).map rT))]:=by
 (refine T.h [] [] [] Tryz.func105 rfl rfl (by kernel_rfl) fun X hX hP hC aA bB=> ?_)
 repeat' ((refine Rs.p ?_;try simp only[go_sem,simprocAttr,kz]))
theorem JG(row:List It)(hl:row.length<=1000000):Spec Tryz.prog 106 (Args [.ref 10000]) [(10000, .own 92 3 (row.map rT))] (.tup []) [(10000, .own 92 3 ((kz true row).map rT))]:=CK row hl
theorem DE(g:Gr)(p:Pl)(h:aG g p)(rev:Bool)(F:Nat)(Yv:∀row:List It,row.length<=1000000->Spec Tryz.prog F (Args [.ref 10000]) [(10000, .own 92 3 (row.map rT))] (.tup []) [(10000, .own 92 3 ((kz rev row).map rT))]):
 Spec Tryz.prog 104 (Args [eG g, .d (.sl 1 (vI p.outs)), .fn F [] []]) [] (.d (sI (gl g p rev g.n.toNat))) []:=by
 have hm:=ah h.1
 have hn:=aB hm
 (refine T.h [] [] [.t 6] Tryz.func104 rfl rfl (by kernel_rfl) fun X hX hP hC aA bB=> ?_)
 repeat' (first|(show cR _ (.seq (.region 3 _ _) _) _ _;(refine Ga 15 0 3 rfl rfl rfl ?_;simp only[List.set_cons_zero,List.set_cons_succ,go_sem,simprocAttr]);(refine jj hX 15 2 200 (.tip 3 1 []) rfl rfl rfl (by simp only[go_sem,simprocAttr]) (by decide) (by simp[go_sem,simprocAttr]) ⟨3,1,by decide, .inr rfl⟩ ?_;simp only[List.set_cons_zero,List.set_cons_succ,go_sem,simprocAttr]))|refine Rn.p ?_|((first|refine Rs.p ?_|refine Hd.mk ?_|(refine lV [(10000,15)] (yc g (by omega) h.1 hm) ?_ ?_;(focus(simp[go_sem,simprocAttr];done))));try simp only[go_sem,simprocAttr])|with_reducible (apply And.intro)|omega)
 have abk:List.replicate g.n.toNat [D.sc (.int .i64 0)]=(gl g p rev 0).map rI:=by rw[gl,List.map_replicate];rfl
 rw[abk]
 refine ag (fun k:Nat=>k<=g.n.toNat) (fun k=>⟨[(1, .d (.sl 1 (vI p.outs))),(2, .fn F [] []),(7, .ptr 15 0),(9, .ref 20),(22,eN g.n),(23,eN k)], [(15, .box [.d (sT (aY g p rev k).row), .d (vw g), .ref 200]),(200, .tip 3 1 ((aY g p rev k).pl.map rI)),(20, .own 3 1 ((gl g p rev k).map rI))]⟩) (fun k=>g.n.toNat - k) 0 (by omega) ?_ ?_
 ·refine Le.of ?_ ?_<;>simp[go_sem,simprocAttr,aY]
 rintro k hk
 obtain⟨hi,dI,_,hrl⟩:=gZ h rev hk
 have hmul:k*(g.es.length+1)<=64*129:=afR (by omega) (by omega)
 rcases adk k g.n.toNat with cM|RI
 rotate_left
 ·have hb:decide ((k:Int)<g.n)=false:=ac6 (by omega)
  obtain rfl:k=g.n.toNat:=by omega
  repeat' (first|refine Rn.p ?_|((first|refine Rs.p ?_|refine Hd.mk ?_);try simp only[go_sem,simprocAttr,hb]))
 have hb:decide ((k:Int)<g.n)=true:=ac7 (by omega)
 obtain⟨hR,hne⟩:=pW h rev cM
 have RM:=aF hR
 have iF:(gQ g (aY g p rev k)).length<=64:=by have:=Bv (g:=g) (f:=aY g p rev k) (k:=g.n.toNat);unfold gQ;omega
 have hpe:=Ta hm hi.tofL rev
 have hlo:(kz rev (aY g p rev k).row).length=(aY g p rev k).row.length:=by unfold kz;split<;>simp
 have Zu:=No (gQ g (aY g p rev k)) (kz rev (aY g p rev k).row) hne (by omega) (by omega)
 rw[hpe]at Zu
 clear hpe
 have hRo:=Nn [vw g,sI (aY g p rev k).pl] (aY g p rev k).row (by omega)
 have Ym:=Yv (aY g p rev k).row (by omega)
 have hRd:=GL g hm (aY g p rev k) (by omega) (by omega)
 have VZ:=aW h.2.1 RM.1 RM.2.1
 have Ax:=wS h.2.1 RM.1 RM.2.1
 have dw:aY g p rev (k+1)=(aC g (aY g p rev k) (ee g (aY g p rev k) rev) (bE p (ee g (aY g p rev k) rev))).2:=rfl
 have hrx:gl g p rev (k+1)=(gl g p rev k).set (ee g (aY g p rev k) rev).toNat (k:Int):=rfl
 have Ic:=sX (g:=g) (p:=p) (rev:=rev) (k:=k)
 generalize ee g (aY g p rev k) rev=x0 at*
 obtain⟨x,rfl⟩:∃x:Nat,x0=x:=⟨x0.toNat,by omega⟩
 have hxl:x<p.outs.length:=by have:=h.2.1.1;omega
 have hv:=jr hxl
 have hla:bE p (x:Int)=p.outs.getD x []:=by unfold bE;rw[Int.toNat_natCast]
 rw[hla]at VZ Ax dw
 rw[Int.toNat_natCast]at hrx
 have Jn:=y9 g hm (aY g p rev k) hi (x:Int) (p.outs.getD x []) (by omega) (by omega) (by omega)
 have hpk:jq g (aY g p rev k) (x:Int) (p.outs.getD x [])=aC g (aY g p rev k) (x:Int) (p.outs.getD x []):=by
  unfold jq
  rw[ac8 (by rw[hR];simp),ac8]
  rintro(h|⟨i,h1,h2⟩)
  ·exact h VZ.length_eq
  ·exact h2 (VZ.mem_iff.2 h1)
 rw[hpk]at Jn
 generalize p.outs.getD x []=o at hv Jn dw
 generalize gQ g (aY g p rev k)=L at Zu hRd iF
 generalize kz rev (aY g p rev k).row=LR at Zu Ym hlo
 generalize hff:aY g p rev (k+1)=f' at dw
 generalize aY g p rev k=f at*
 generalize aC g f (x:Int) o=su at Jn dw
 repeat' (first|(show cR _ (.region 11 _ _) _ _;(refine dY hX 15 2 201 200 rfl rfl rfl (by first|exact .inl rfl|exact .inr rfl) (by decide) (by decide) ?_;simp only[List.set_cons_zero,List.set_cons_succ,go_sem,simprocAttr,hb,hv,Ic,wN,EM,tX]))|refine Rn.p ?_|((first|refine Rs.p ?_|refine Hd.mk ?_|(refine fu 29 (hRo) ?_ (by first|exact tV|exact tW|exact tY|exact wO) rfl (by decide) ?_;(focus(simp only[go_sem,simprocAttr,hb,hv,Ic,wN,EM,tX];done)))|(refine aS [(10000,29)] (Ym) ?_ ?_;(focus(simp[go_sem,simprocAttr,hb,hv,Ic,wN,EM,tX];done)))|(refine qI 34 (hRd) ?_ (by first|exact tV|exact tW|exact tY|exact wO) rfl (by decide) ?_;(focus(simp only[go_sem,simprocAttr,hb,hv,Ic,wN,EM,tX];done)))|(refine cr (Zu) ?_ ?_ ?_;iterate 2 (focus(simp only[go_sem,simprocAttr,hb,hv,Ic,wN,EM,tX];done)))|(refine aS [(10000,15),(10001,200),(10002,201)] (Jn) ?_ ?_;(focus(simp[go_sem,simprocAttr,hb,hv,Ic,wN,EM,tX];done))));try simp only[go_sem,simprocAttr,hb,hv,Ic,wN,EM,tX])|with_reducible (apply And.intro)|omega)
 refine⟨k+1,by omega, ?_,by omega⟩
 rw[hrx,hff,dw]
 refine Le.of ?_ ?_<;>simp[go_sem,simprocAttr,hb,hv,Ic,wN,EM,tX,rI]
def V3(b:Bool)(g:Gr)(p:Pl):List Int × List Int × Int:=
 if(dF b g p).2.1=0/\q8 g=true then(gl g p false g.n.toNat,gl g p true g.n.toNat,0) else([], [],1)
theorem JH(g:Gr)(hl:g.es.length<=1000)(p:Pl)(hp:uc p)(b:Bool)(hr:b=true↔(bX g).1=0/\bq g p):
 Spec Tryz.prog 59 (Args [eG g,ePl p]) [] (.tup [.d (sI (V3 b g p).1), .d (sI (V3 b g p).2.1),eN (V3 b g p).2.2]) []:=by
 have hO:=ig g hl p hp b hr
 have hI:=u5 g hl
 by_cases h0:(dF b g p).2.1=0
 rotate_left
 ·have hK:V3 b g p=([], [],1):=ac8 fun h=>h0 h.1
  have hb0:decide ((dF b g p).2.1=0)=false:=ac6 h0
  rw[hK]
  (refine T.h [] [] [.t 4, .t 5, .t 6] Tryz.func59 rfl rfl (by kernel_rfl) fun X hX hP hC aA bB=> ?_)
  repeat' (first|refine Rn.p ?_|((first|refine Rs.p ?_|refine Hd.mk ?_|refine aa (hO) rfl ?_);try simp only[go_sem,simprocAttr,hb0]))
 obtain⟨hrun,hR⟩:=sZ hr h0
 rw[hR]at hO
 simp only at hO
 cases Up:q8 g with
 |false=>
  have hK:V3 b g p=([], [],1):=ac8 fun h=>by rw[Up]at h;cases h.2
  rw[hK]
  rw[Up]at hI
  (refine T.h [] [] [.t 4, .t 5, .t 6] Tryz.func59 rfl rfl (by kernel_rfl) fun X hX hP hC aA bB=> ?_)
  repeat' (first|refine Rn.p ?_|((first|refine Rs.p ?_|refine Hd.mk ?_|refine aa (hO) rfl ?_|refine aa (hI) rfl ?_);try simp only[go_sem,simprocAttr]))
 |true=>
  have hK:V3 b g p=(gl g p false g.n.toNat,gl g p true g.n.toNat,0):=ada ⟨h0,Up⟩
  rw[hK]
  rw[Up]at hI
  have hW0:=DE g p hrun false 105 fun row _=>JF row
  have Vd:=DE g p hrun true 106 fun row hl=>JG row hl
  generalize gl g p false g.n.toNat=R0 at hW0
  generalize gl g p true g.n.toNat=R1 at Vd
  (refine T.h [] [] [.t 4, .t 5, .t 6] Tryz.func59 rfl rfl (by kernel_rfl) fun X hX hP hC aA bB=> ?_)
  repeat' (first|refine Rn.p ?_|((first|refine Rs.p ?_|refine Hd.mk ?_|refine aa (hO) rfl ?_|refine aa (hI) rfl ?_|refine aa (hW0) rfl ?_|refine aa (Vd) rfl ?_);try simp only[go_sem,simprocAttr])|with_reducible (refine oD (by kernel_rfl) ?_))
theorem p9{b:Bool}{g:Gr}{p:Pl}(hr:b=true↔(bX g).1=0/\bq g p)(h:aG g p):dF b g p=((gC g p g.n.toNat,bu g p),(0,0)):=by
 obtain rfl:b=true:=hr.2 ⟨h.1,h.2.1⟩
 unfold dF
 rw[ac8 (by simp),jR.2 h.2.2]
 rfl
theorem Lm{b:Bool}{g:Gr}{p:Pl}(hr:b=true↔(bX g).1=0/\bq g p)(h:(tI b g p).2.2=0):qn g p/\tI b g p=(aj g p,bK g p,0):=by
 unfold tI at h ⊢
 split at h
 ·cases h
 rename_i h0
 split at h
 ·cases h
 rename_i h1
 rw[ac8 h0,ac8 h1]
 exact⟨⟨(sZ hr (by simpa using h0)).1,by omega,by omega⟩,rfl⟩
theorem exB(g:Gr)(p:Pl):∃b:Bool,(b=true↔(bX g).1=0/\bq g p):=by
 by_cases h:(bX g).1=0/\bq g p
 ·exact⟨true,by simp[h]⟩
 ·exact⟨false,by simp[h]⟩
structure Fc where
 L:List Int
 R:List Int
 lo:List Int
 hi:List Int
def abl(g:Gr)(p:Pl)(f:Int):Int:=if f= -1 then(cK p g.n.toNat:Int) else f
def fcG(g:Gr)(p:Pl):Fc:=⟨arr (LK g p g.n.toNat) g.es.length,(arr (RK g p (-1) g.n.toNat) g.es.length).map (abl g p),xz p g.n.toNat++ [aq p 0],hiK g p g.n.toNat++ [aq p (g.n.toNat - 1)]⟩
def fc0:Fc:=⟨[], [], [], []⟩
def fcR(b:Bool)(g:Gr)(p:Pl):Fc × Int:=if((dF b g p).2.1=0/\q8 g=true)/\0<g.es.length then(fcG g p,0) else(fc0,1)
def eFc(f:Fc):AV:= .agg [.d (sI f.L), .d (sI f.R), .d (sI f.lo), .d (sI f.hi)]
def acU(l:List Int)(f:Int->Int)(j:Nat):List Int:=(l.take j).map f++l.drop j
end Go.Ab
end
section
set_option maxRecDepth 10000
namespace Go.Ab
open Go.Proofs
section
variable (g:Gr) (p:Pl)
def cN:Nat:=cK p g.n.toNat
def Lf(e:Int):Int:=LK g p g.n.toNat e
def Rf(e:Int):Int:=RK g p (cN g p) g.n.toNat e
def loL:List Int:=xz p g.n.toNat++ [aq p 0]
def hiL:List Int:=hiK g p g.n.toNat++ [aq p (g.n.toNat - 1)]
def loF(f:Int):Int:=(loL g p).getD f.toNat 0
def hiF(f:Int):Int:=(hiL g p).getD f.toNat 0
end
section
variable {g:Gr} {p:Pl}
variable (h:aG g p) (hI:q8 g=true)
include h hI
theorem Yw{a:Int}(ha:(aP g p).Inn a):∃k u b v,k<g.n.toNat/\bt g a=aq p k/\bE p (aq p k)=u++a::b::v:=by
 obtain⟨x,u,b,v,e⟩:=ha
 by_cases hx:fN g x
 ·obtain⟨k,hk,rfl⟩:=cq h.2.1 hx.1 hx.2
  rw[eo hx]at e
  exact⟨k,u,b,v,hk,(B4 h hk e).1,e⟩
 ·rw[oM hx]at e;cases u<;>cases e
theorem Yx{a:Int}(ha:(aP g p).Inn a):∃f:Nat,1<=f/\f<cN g p/\∀r,RK g p r g.n.toNat a=f:=by
 obtain⟨k,u,b,v,hk,_,e⟩:=Yw h hI ha
 have hl:(bE p (aq p k)).length=u.length+(v.length+2):=by rw[e];simp
 have Pr:cK p (k+1)=cK p k+((bE p (aq p k)).length - 1):=rfl
 obtain⟨d,hd⟩:=afA (show k+1<=g.n.toNat by omega)
 have hmo:=z6 (p:=p) (k:=k+1) (d:=d)
 rw[<- hd]at hmo
 have hp:0<cK p k:=Jz
 have Xk:cN g p=cK p g.n.toNat:=rfl
 exact⟨cK p k+u.length,by omega,by omega,fun r=>by rw[td h hk e (by omega) (adh _)];omega⟩
theorem eA:(aP g p).fM (Lf g p) (Rf g p) 0 (cN g p) (loF g p):=by
 have F:=JB h hI (r:=cN g p) (.inr (afQ _))
 exact {F with
  new:=fun {x u a b v} e=>by
   obtain⟨h1,h2,h3⟩:=F.new e
   obtain⟨f,_,h5,h6⟩:=Yx h hI (a:=a) ⟨x,u,b,v,e⟩
   have h7:Rf g p a=f:=h6 _
   have h8:RK g p (cN g p) g.n.toNat a=f:=h6 _
   refine⟨?_,h2,h3⟩
   rw[h8]at h1
   show(xz p g.n.toNat++ [aq p 0]).getD (Rf g p a).toNat 0=x
   rw[h7, <- h1,Int.toNat_natCast,qR (by rw[rJ];exact h5)]}
end
end Go.Ab
end
section
namespace Go.Ab
open Go.Proofs
set_option maxRecDepth 10000
def Np(q:Nat->Bool):Nat->Nat
 |0=>0
 |n+1=>Np q n ||| (if q n then 2 ^ n else 0)
theorem qa{q:Nat->Bool}{y:Nat} :∀ {n:Nat},(Np q n).testBit y=(decide (y<n)&&q y)
 |0=>by simp[Np]
 |n+1=>by
  rw[Np,afT,qa]
  by_cases h:y=n
  ·subst h
   cases hq:q y<;>simp[agW]
  ·have h2:(if q n then 2 ^ n else 0).testBit y=false:=by
    split
    ·rw[Nat.testBit_two_pow];exact ac6 fun e=>h e.symm
    ·simp
   rw[h2,afq]
   congr 1
   rw[decide_eq_decide];omega
theorem Tb{q:Nat->Bool}{n:Nat} :Np q n<2 ^ n:=by
 refine agT _ fun i hi=> ?_
 rw[qa,ac6 (by omega)];rfl
inductive xR (g:Gr) (both:Bool) (c:Nat->Bool) (x:Nat):Nat->Prop
 |refl:xR g both c x x
 |fwd {i:Nat} :i<g.es.length->c i=true->xR g both c x (tl g i).toNat->xR g both c x (hd g i).toNat
 |Tc {i:Nat} :i<g.es.length->c i=true->both=true->xR g both c x (hd g i).toNat->xR g both c x (tl g i).toNat
theorem xR.trans{g:Gr}{both:Bool}{c:Nat->Bool}{x y z:Nat}(h1:xR g both c x y)(h2:xR g both c y z):xR g both c x z:=by
 induction h2 with
 |refl=>exact h1
 |fwd a b _ ih=>exact .fwd a b ih
 |Tc a b d _ ih=>exact .Tc a b d ih
open Classical in
noncomputable def Zv (g:Gr) (both:Bool) (c:Nat->Bool) (x:Nat):Nat:=Np (fun y=>decide (xR g both c x y)) g.n.toNat
noncomputable def JI (g:Gr) (both:Bool) (c:Nat->Bool):List Nat:=(List.range g.n.toNat).map (Zv g both c)
theorem z7{g:Gr}{both:Bool}{c:Nat->Bool} :(JI g both c).length=g.n.toNat:=by simp[JI]
theorem JJ{g:Gr}{both:Bool}{c:Nat->Bool}{x:Nat}(h:x<g.n.toNat):(JI g both c).getD x 0=Zv g both c x:=by
 simp[JI,aas,adq h]
open Classical in
theorem Ln{g:Gr}{both:Bool}{c:Nat->Bool}{x y:Nat} :(Zv g both c x).testBit y=true↔y<g.n.toNat/\xR g both c x y:=by
 unfold Zv
 rw[qa]
 simp
def cn(g:Gr)(both:Bool)(c:Nat->Bool)(a:List Nat):Nat->List Nat × Bool
 |0=>(a,false)
 |k+1=>
  let s:=cn g both c a k
  if c k=true then
   let t:=s.1.getD (tl g k).toNat 0 ||| s.1.getD (hd g k).toNat 0
   let h:=if both=true then t else s.1.getD (hd g k).toNat 0
   ((s.1.set (tl g k).toNat t).set (hd g k).toNat h,s.2||(decide (t≠s.1.getD (tl g k).toNat 0)||decide (h≠s.1.getD (hd g k).toNat 0)))
  else s
theorem yD{g:Gr}{both:Bool}{c:Nat->Bool}{a:List Nat} :∀ {k:Nat},(cn g both c a k).1.length=a.length
 |0=>rfl
 |k+1=>by
  simp only[cn]
  split
  ·simp[yD]
  ·exact yD
theorem tf{l:List Nat}{i j:Nat}{a:Nat}(hi:i<l.length):(l.set i a).getD j 0=if j=i then a else l.getD j 0:=by
 rw[aas,aeb]
 by_cases h:i=j
 ·subst h;rw[ada rfl,ada hi,ada rfl];rfl
 ·rw[ac8 h,ac8 (Ne.symm h), <- List.getD_eq_getElem?_getD]
structure N7 (g:Gr) (both:Bool) (c:Nat->Bool) (a:List Nat):Prop where
 len:a.length=g.n.toNat
 own:∀x,x<g.n.toNat->(a.getD x 0).testBit x=true
 snd:∀x y,x<g.n.toNat->(a.getD x 0).testBit y=true->y<g.n.toNat/\xR g both c x y
theorem N7.lt{g:Gr}{both:Bool}{c:Nat->Bool}{a:List Nat}(h:N7 g both c a)(hn:g.n.toNat<=64)(x:Nat):a.getD x 0<18446744073709551616:=by
 by_cases hx:x<g.n.toNat
 ·have:a.getD x 0<2 ^ 64:=agT _ fun i hi=>by
   cases hb:(a.getD x 0).testBit i with
   |false=>rfl
   |true=>have:=(h.snd x i hx hb).1;omega
  simpa using this
 ·rw[aas,adp (by rw[h.len];omega)];simp
theorem grow_step{g:Gr}(hm:aM g=true){both:Bool}{c:Nat->Bool}{a:List Nat}(h:N7 g both c a){i:Nat}(hi:i<g.es.length)(hc:c i=true):
 N7 g both c ((a.set (tl g i).toNat (a.getD (tl g i).toNat 0 ||| a.getD (hd g i).toNat 0)).set (hd g i).toNat (if both=true then a.getD (tl g i).toNat 0 ||| a.getD (hd g i).toNat 0 else a.getD (hd g i).toNat 0))/\
 ∀x y,(a.getD x 0).testBit y=true->(((a.set (tl g i).toNat (a.getD (tl g i).toNat 0 ||| a.getD (hd g i).toNat 0)).set (hd g i).toNat (if both=true then a.getD (tl g i).toNat 0 ||| a.getD (hd g i).toNat 0 else a.getD (hd g i).toNat 0)).getD x 0).testBit y=true:=by
 obtain⟨ht,hh⟩:=cU hm hi
 have ht:0<=tl g i/\tl g i<g.n:=ht
 have hh:0<=hd g i/\hd g i<g.n:=hh
 have hl:=h.len
 have vo:∀x,((a.set (tl g i).toNat (a.getD (tl g i).toNat 0 ||| a.getD (hd g i).toNat 0)).set (hd g i).toNat (if both=true then a.getD (tl g i).toNat 0 ||| a.getD (hd g i).toNat 0 else a.getD (hd g i).toNat 0)).getD x 0=
  if x=(hd g i).toNat then(if both=true then a.getD (tl g i).toNat 0 ||| a.getD (hd g i).toNat 0 else a.getD (hd g i).toNat 0) else if x=(tl g i).toNat then a.getD (tl g i).toNat 0 ||| a.getD (hd g i).toNat 0 else a.getD x 0:=fun x=>by
  rw[tf (by rw[adQ];omega),tf (by omega)]
 have mono:∀x y,(a.getD x 0).testBit y=true->(((a.set (tl g i).toNat (a.getD (tl g i).toNat 0 ||| a.getD (hd g i).toNat 0)).set (hd g i).toNat (if both=true then a.getD (tl g i).toNat 0 ||| a.getD (hd g i).toNat 0 else a.getD (hd g i).toNat 0)).getD x 0).testBit y=true:=fun x y hb=>by
  rw[vo]
  split
  ·rename_i e;subst e
   split
   ·rw[afT,hb,afo]
   ·exact hb
  ·split
   ·rename_i e;subst e
    rw[afT,hb,afe]
   ·exact hb
 refine⟨⟨by simp[hl],fun x hx=>mono x x (h.own x hx),fun x y hx hb=> ?_⟩,mono⟩
 have e1:xR g both c (tl g i).toNat (hd g i).toNat:= .fwd hi hc .refl
 rw[vo]at hb
 split at hb
 ·rename_i e;subst e
  split at hb
  ·rename_i hbo
   rw[afT,adL]at hb
   rcases hb with hb|hb
   ·obtain⟨g1,g2⟩:=h.snd _ _ (by omega) hb
    exact⟨g1,(xR.Tc hi hc hbo .refl).trans g2⟩
   ·exact h.snd _ _ hx hb
  ·exact h.snd _ _ hx hb
 ·split at hb
  ·rename_i e;subst e
   rw[afT,adL]at hb
   rcases hb with hb|hb
   ·exact h.snd _ _ hx hb
   ·obtain⟨g1,g2⟩:=h.snd _ _ (by omega) hb
    exact⟨g1,e1.trans g2⟩
  ·exact h.snd _ _ hx hb
theorem lH{g:Gr}(hm:aM g=true){both:Bool}{c:Nat->Bool}{a:List Nat}(h:N7 g both c a):∀ {k:Nat},k<=g.es.length->N7 g both c (cn g both c a k).1/\∀x y,(a.getD x 0).testBit y=true->((cn g both c a k).1.getD x 0).testBit y=true
 |0,_=>⟨h,fun x y hb=>hb⟩
 |k+1,hk=>by
  obtain⟨i1,i2⟩:=lH hm h (k:=k) (by omega)
  simp only[cn]
  by_cases hc:c k=true
  ·rw[ada hc]
   obtain⟨j1,j2⟩:=grow_step hm i1 (i:=k) (by omega) hc
   exact⟨j1,fun x y hb=>j2 x y (i2 x y hb)⟩
  ·rw[ac8 hc];exact⟨i1,i2⟩
def B8(a:List Nat):Nat:=a.foldr (· + ·) 0
theorem Lo:∀ {a b:List Nat},a.length=b.length->(∀x,a.getD x 0<=b.getD x 0)->a≠b->B8 a<B8 b
 | [], [],_,_,hne=>absurd rfl hne
 |x::a,y::b,hl,h,hne=>by
  have h0:=h 0
  have hr:∀i,a.getD i 0<=b.getD i 0:=fun i=>by simpa using h (i+1)
  simp only[afm]at h0
  show x+B8 a<y+B8 b
  by_cases hab:a=b
  ·subst hab
   have:x≠y:=fun e=>hne (by rw[e])
   omega
  ·have:=Lo (a:=a) (b:=b) (by simpa using hl) hr hab
   omega
theorem Ht{m:Nat} :∀ {a:List Nat},(∀x,a.getD x 0<m)->B8 a<=a.length*m
 | [],_=>by simp[B8]
 |x::a,h=>by
  have h0:=h 0
  have:=Ht (a:=a) fun i=>by simpa using h (i+1)
  simp only[afm]at h0
  show x+B8 a<=(a.length+1)*m
  rw[ad7];omega
theorem u9{a b:Nat}(h:∀y,a.testBit y=true->b.testBit y=true):a<=b:=by
 have:a ||| b=b:=Nat.eq_of_testBit_eq fun y=>by
  rw[afT]
  cases ha:a.testBit y with
  |false=>simp
  |true=>rw[h y ha];rfl
 rw[<- this];exact Nat.left_le_or
theorem mE{g:Gr}{both:Bool}{c:Nat->Bool}{a:List Nat} :∀ {k:Nat},(cn g both c a k).2=false->(cn g both c a k).1=a/\∀i,i<k->c i=true->(a.getD (tl g i).toNat 0 ||| a.getD (hd g i).toNat 0=a.getD (tl g i).toNat 0)/\(both=true->a.getD (tl g i).toNat 0=a.getD (hd g i).toNat 0)
 |0,_=>⟨rfl,fun i hi=>by omega⟩
 |k+1,h=>by
  simp only[cn]at h ⊢
  by_cases hc:c k=true
  ·rw[ada hc]at h ⊢
   simp only[aeq,adM,afJ]at h
   obtain⟨h1,h2,h3⟩:=h
   obtain⟨i1,i2⟩:=mE h1
   rw[i1]at h2 h3
   simp only[i1]
   have fR:∀ {l:List Nat} {i v:Nat},v=l.getD i 0->l.set i v=l:=fun {l i v} e=>by
    refine adZ fun j=> ?_
    rw[aeb]
    split
    ·rename_i hj;subst hj
     split
     ·rename_i hl;rw[e,aas,acF hl];rfl
     ·rename_i hl;rw[adp (by omega)]
    ·rfl
   refine⟨by rw[fR h2,fR h3],fun i hi V4=> ?_⟩
   by_cases hik:i=k
   ·subst hik
    refine⟨h2,fun hb=> ?_⟩
    rw[ada hb]at h3
    rw[<- h2,h3]
   ·exact i2 i (by omega) V4
  ·rw[ac8 hc]at h ⊢
   obtain⟨i1,i2⟩:=mE h
   refine⟨i1,fun i hi V4=> ?_⟩
   by_cases hik:i=k
   ·subst hik;exact absurd V4 hc
   ·exact i2 i (by omega) V4
theorem JK{g:Gr}(hm:aM g=true){both:Bool}{c:Nat->Bool}{a:List Nat}(h:N7 g both c a)(hne:(cn g both c a g.es.length).2=true):B8 a<B8 (cn g both c a g.es.length).1:=by
 obtain⟨_,i2⟩:=lH hm h (adh g.es.length)
 refine Lo yD.symm (fun x=>u9 (i2 x)) fun e=> ?_
 have key:∀k,k<=g.es.length->(cn g both c a k).2=false:=by
  intro k
  induction k with
  |zero=>intro _;rfl
  |succ k ih=>
   intro hk
   have ih:=ih (by omega)
   have hak:=(mE ih).1
   simp only[cn]
   by_cases hc:c k=true
   ·rw[ada hc]
    simp only[aeq,adM,afJ,ih,hak,true_and]
    obtain⟨j1,j2⟩:=lH hm h (k:=k) (by omega)
    have later:∀d,k+1+d<=g.es.length->∀x y,((cn g both c a (k+1)).1.getD x 0).testBit y=true->((cn g both c a (k+1+d)).1.getD x 0).testBit y=true:=by
     intro d
     induction d with
     |zero=>intro _ x y hb;exact hb
     |succ d ihd=>
      intro hd x y hb
      have hb:=ihd (by omega) x y hb
      show((cn g both c a (k+1+d+1)).1.getD x 0).testBit y=true
      simp only[cn]at hb ⊢
      split
      ·rename_i Pr
       exact(grow_step hm (lH hm h (k:=k+1+d) (by omega)).1 (i:=k+1+d) (by omega) Pr).2 x y hb
      ·exact hb
    have zu:=later (g.es.length - (k+1)) (by omega)
    rw[show k+1+(g.es.length - (k+1))=g.es.length by omega, <- e]at zu
    have Ao:(cn g both c a (k+1)).1=(a.set (tl g k).toNat (a.getD (tl g k).toNat 0 ||| a.getD (hd g k).toNat 0)).set (hd g k).toNat (if both=true then a.getD (tl g k).toNat 0 ||| a.getD (hd g k).toNat 0 else a.getD (hd g k).toNat 0):=by
     simp only[cn];rw[ada hc,hak]
    obtain⟨ht,hh⟩:=cU hm (k:=k) (by omega)
    have ht:0<=tl g k/\tl g k<g.n:=ht
    have hh:0<=hd g k/\hd g k<g.n:=hh
    have hl:=h.len
    have vo:∀x,(cn g both c a (k+1)).1.getD x 0=if x=(hd g k).toNat then(if both=true then a.getD (tl g k).toNat 0 ||| a.getD (hd g k).toNat 0 else a.getD (hd g k).toNat 0) else if x=(tl g k).toNat then a.getD (tl g k).toNat 0 ||| a.getD (hd g k).toNat 0 else a.getD x 0:=fun x=>by
     rw[Ao,tf (by rw[adQ];omega),tf (by omega)]
    have g1:(if both=true then a.getD (tl g k).toNat 0 ||| a.getD (hd g k).toNat 0 else a.getD (hd g k).toNat 0)=a.getD (hd g k).toNat 0:=by
     have:=u9 (zu (hd g k).toNat)
     rw[vo,ada rfl]at this
     split at this
     ·rename_i hb
      rw[ada hb]
      exact ag1 this Nat.right_le_or
     ·rename_i hb;rw[ac8 hb]
    refine⟨?_,g1⟩
    by_cases heq:(tl g k).toNat=(hd g k).toNat
    ·rw[heq,Nat.or_self]
    ·have:=u9 (zu (tl g k).toNat)
     rw[vo,ac8 heq,ada rfl]at this
     exact ag1 this Nat.left_le_or
   ·rw[ac8 hc];exact ih
 rw[key _ (adh _)]at hne
 cases hne
theorem Nq{g:Gr}(hm:aM g=true){both:Bool}{c:Nat->Bool}{a:List Nat}(h:N7 g both c a)(hne:(cn g both c a g.es.length).2=false):a=JI g both c:=by
 obtain⟨_,hcl⟩:=mE hne
 have comp:∀x y,x<g.n.toNat->xR g both c x y->∀w,w<g.n.toNat->xR g both c w x->True:=fun _ _ _ _ _ _ _=>trivial
 have key:∀ {x y:Nat},xR g both c x y->∀z,(a.getD y 0).testBit z=true->(a.getD x 0).testBit z=true:=by
  intro x y hR
  induction hR with
  |refl=>exact fun z hz=>hz
  | @fwd i hi hc _ ih=>
    intro z hz
    refine ih z ?_
    rw[<- (hcl i hi hc).1,afT,hz,afo]
  | @Tc i hi hc hb _ ih=>
    intro z hz
    refine ih z ?_
    rw[<- (hcl i hi hc).2 hb];exact hz
 refine adZ fun x=> ?_
 by_cases hx:x<g.n.toNat
 ·have e:a.getD x 0=(JI g both c).getD x 0:=by
   rw[JJ hx]
   refine Nat.eq_of_testBit_eq fun y=> ?_
   rw[ad1,Ln]
   refine⟨h.snd x y hx,fun ⟨h1,h2⟩=>key h2 y (h.own y h1)⟩
  rw[aas,aas,acF (by rw[h.len];exact hx),acF (by rw[z7];exact hx)]at e
  rw[acF (by rw[h.len];exact hx),acF (by rw[z7];exact hx)]
  simpa using e
 ·rw[adp (by rw[h.len];omega),adp (by rw[z7];omega)]
end Go.Ab
end
section
set_option maxHeartbeats 8000000
set_option maxRecDepth 20000
namespace Go.Ab
attribute [local congr] ACall.congr gd.congr Hd.congr Ny.congr vcOps.congr
open Go.Proofs
def rU(n:Nat):List D:= [.sc (.int .u64 (n:Int))]
def eU(n:Nat):AV:= .d (.sc (.int .u64 (n:Int)))
def sU(l:List Nat):D:= .sl 1 (l.map rU)
theorem getD_rU(ps:List Nat)(i:Nat):(ps.map rU).getD i [.sc (.int .u64 0)]= [.sc (.int .u64 ((ps.getD i 0:Nat):Int))]:=by
 rw[aas,adn,aas]
 cases ps[i]? <;>rfl
theorem yE(l:List Nat)(k:Nat)(v:Nat):(l.map rU).set k [.sc (.int .u64 (v:Int))]=(l.set k v).map rU:=by
 rw[aeS];rfl
attribute [go_sem] eU sU getD_rU InU
theorem Td{s x:Nat} :decide ((((s >>> x &&& 1:Nat)):Int)=1)=s.testBit x:=by
 rw[ad1,ade,Nat.testBit,Nat.and_comm]
 have:1 &&& s >>> x=0\/1 &&& s >>> x=1:=by
  rw[Nat.and_comm,Nat.and_one_is_mod];omega
 rcases this with h|h<;>rw[h]<;>simp
theorem Ns(s:Nat)(hs:s<18446744073709551616)(x:Int):Spec Tryz.prog 151 (Args [eU s,eN x]) [] (eB (decide (0<=x)&&decide (x<64)&&s.testBit x.toNat)) []:=by
 by_cases h0:0<=x
 rotate_left
 ·have hb0:decide (0<=x)=false:=ac6 h0
  (refine T.h [] [] [.t 4] Tryz.func151 rfl rfl (by kernel_rfl) fun X hX hP hC aA bB=> ?_)
  repeat' (first|refine Rn.p ?_|((first|refine Rs.p ?_|refine Hd.mk ?_);try simp only[go_sem,simprocAttr,hb0]))
 have hb0:decide (0<=x)=true:=ac7 h0
 by_cases h1:x<64
 rotate_left
 ·have hb1:decide (x<64)=false:=ac6 h1
  (refine T.h [] [] [.t 4] Tryz.func151 rfl rfl (by kernel_rfl) fun X hX hP hC aA bB=> ?_)
  repeat' (first|refine Rn.p ?_|((first|refine Rs.p ?_|refine Hd.mk ?_);try simp only[go_sem,simprocAttr,hb0,hb1]))
 have hb1:decide (x<64)=true:=ac7 h1
 obtain⟨i,rfl⟩:∃i:Nat,x=i:=⟨x.toNat,by omega⟩
 have hlt:s >>> i<18446744073709551616:=Nat.lt_of_le_of_lt (Nat.shiftRight_le s i) hs
 have ha:=Td (s:=s) (x:=i)
 generalize hq:s >>> i=q at hlt ha
 (refine T.h [] [] [.t 4] Tryz.func151 rfl rfl (by kernel_rfl) fun X hX hP hC aA bB=> ?_)
 repeat' (first|refine Rn.p ?_|((first|refine Rs.p ?_|refine Hd.mk ?_);try simp only[go_sem,simprocAttr,hb0,hb1,hq,ha])|with_reducible (apply And.intro)|omega)
theorem QW(x:Nat)(hx:x<64):Spec Tryz.prog 192 (Args [.d (.sl 1 [[.sc (.int .i64 (x:Int))]])]) [] (eU (2 ^ x)) []:=by
 have hsh:1 <<< x % 18446744073709551616=2 ^ x:=by
  rw[Nat.shiftLeft_eq,Nat.one_mul,aeC]
  exact afc (Nat.pow_lt_pow_right (by decide) hx) (by decide)
 have hlt:2 ^ x<18446744073709551616:=afc (Nat.pow_lt_pow_right (by decide) hx) (by decide)
 have hb1:decide (0<=(x:Int))=true:=ac7 (by omega)
 have hb2:decide ((x:Int)<64)=true:=ac7 (by omega)
 (refine T.h [] [] [.t 2] Tryz.func192 rfl rfl (by kernel_rfl) fun X hX hP hC aA bB=> ?_)
 repeat' (first|refine Rn.p ?_|((first|refine Rs.p ?_|refine Hd.mk ?_);try simp only[go_sem,simprocAttr]))
 refine ag (fun k:Nat=>k<=1) (fun k=>⟨[(2,eU (if k=0 then 0 else 2 ^ x)),(5, .d (.sl 1 [[.sc (.int .i64 (x:Int))]])),(6,eN 1),(7,eN k)], []⟩) (fun k=>1 - k) 0 (by omega) ?_ ?_
 ·refine Le.of ?_ ?_<;>simp[go_sem,simprocAttr]
 rintro k hk
 match k,hk with
 |0,_=>
  repeat' (first|refine Rn.p ?_|((first|refine Rs.p ?_|refine Hd.mk ?_);try simp only[go_sem,simprocAttr,hsh,hb1,hb2,Nat.zero_or])|with_reducible (apply And.intro)|omega)
  all_goals(refine⟨1,by omega, ?_,by omega⟩)
  all_goals(refine Le.of ?_ ?_<;>simp[go_sem,simprocAttr,hsh,hb1,hb2,Nat.zero_or])
 |1,_=>
  repeat' (first|refine Rn.p ?_|((first|refine Rs.p ?_|refine Hd.mk ?_);try simp only[go_sem,simprocAttr]))
def yF(k:Nat):List Nat:=(List.range k).map fun x=>2 ^ x
theorem Nt{k:Nat} :yF (k+1)=yF k++ [2 ^ k]:=by simp[yF,adW]
theorem B9{k:Nat} :(yF k).length=k:=by simp[yF]
def nr(g:Gr):List Nat:=if aM g=true then yF g.n.toNat else []
theorem JL(g:Gr)(hl:g.es.length<=9223372036854775807):Spec Tryz.prog 148 (Args [eG g]) [] (.ref 10000) [(10000, .own 208 1 ((nr g).map rU))]:=by
 have hM:=qJ g hl
 cases hm:aM g with
 |false=>
  rw[hm]at hM
  have he:nr g= []:=by unfold nr;rw[hm];rfl
  rw[he]
  (refine T.hR [200,17] [] [.t 2] [(10000,200)] Tryz.func148 rfl rfl (by kernel_rfl) fun X hX hP hC aA bB=> ?_)
  repeat' (first|(show cR _ .ret _ _;(try simp only[go_sem,simprocAttr]);refine dQ hX 2 200 (.own 208 1 []) ?_ ?_ (by decide) ⟨208,1,by decide, .inl rfl⟩ ?_;(iterate 2 (focus(simp only[go_sem,simprocAttr];done)));simp only[go_sem,simprocAttr])|refine Rn.p ?_|((first|refine Rs.p ?_|refine Hd.mk ?_|refine aa (hM) rfl ?_);try simp only[go_sem,simprocAttr]))
 |true=>
  rw[hm]at hM
  have hn:=aB hm
  have he:nr g=yF g.n.toNat:=by unfold nr;rw[ada hm]
  rw[he]
  (refine T.hR [200,17] [] [.t 2] [(10000,200)] Tryz.func148 rfl rfl (by kernel_rfl) fun X hX hP hC aA bB=> ?_)
  repeat' (first|(show cR _ (.seq (.region 3 _ _) _) _ _;(refine dQ hX 2 200 (.own 208 1 []) ?_ ?_ (by decide) ⟨208,1,by decide, .inl rfl⟩ ?_;(iterate 2 (focus(simp only[go_sem,simprocAttr];done)));simp only[go_sem,simprocAttr]))|refine Rn.p ?_|((first|refine Rs.p ?_|refine Hd.mk ?_|refine aa (hM) rfl ?_);try simp only[go_sem,simprocAttr]))
  refine ag (fun k:Nat=>k<=g.n.toNat) (fun k=>⟨[(2, .ref 200),(8,eN g.n),(9,eN k)], [(200, .own 208 1 ((yF k).map rU))]⟩) (fun k=>g.n.toNat - k) 0 (by omega) ?_ ?_
  ·refine Le.of ?_ ?_<;>simp[go_sem,simprocAttr,yF]
  rintro k hk
  rcases adk k g.n.toNat with hlt|hge
  ·have hb:decide ((k:Int)<g.n)=true:=ac7 (by omega)
   have Ax:=B9 (k:=k)
   have dw:=Nt (k:=k)
   have hO1:=QW k (by omega)
   generalize yF k=O1 at Ax dw
   repeat' (first|(show cR _ (.region 7 _ _) _ _;(refine uC hX 2 17 200 (by simp only[go_sem,simprocAttr,hb,Ax]) rfl (by first|exact .inl rfl|exact .inr rfl) (by decide) ?_;simp only[go_sem,simprocAttr,hb,Ax]))|refine Rn.p ?_|((first|refine Rs.p ?_|refine Hd.mk ?_|(refine dN (hO1) ?_ rfl ?_;(focus(simp only[go_sem,simprocAttr,hb,Ax];done))));try simp only[go_sem,simprocAttr,hb,Ax])|with_reducible (apply And.intro)|omega)
   refine⟨k+1,by omega, ?_,by omega⟩
   rw[dw]
   refine Le.of ?_ ?_<;>simp[go_sem,simprocAttr,hb,Ax,rU]
  ·have hb:decide ((k:Int)<g.n)=false:=ac6 (by omega)
   obtain rfl:k=g.n.toNat:=by omega
   repeat' (first|refine Rn.p ?_|((first|refine Rs.p ?_|refine Hd.mk ?_);try simp only[go_sem,simprocAttr,hb]))
theorem neU{a b:Nat} :(!decide ((a:Int)=(b:Int)))=decide (a≠b):=by
 by_cases h:a=b
 ·simp[h]
 ·simp[h];omega
theorem Te{g:Gr}(hn:g.n.toNat<=64)(both:Bool)(c:Nat->Bool):∃M:Nat,∀b:List Nat,N7 g both c b->B8 b<=M:=
 ⟨_,fun b hb=>by have:=Ht (a:=b) fun x=>hb.lt hn x;rw[hb.len]at this;exact this⟩
theorem tY{l:List Nat} :∀r∈l.map rU,∀x∈r,∃v,x=D.sc v:=by
 intro r hr x hx
 obtain⟨y,_,rfl⟩:=adb.1 hr
 simp only[rU,adv]at hx
 exact⟨_,hx⟩
theorem Nu{g:Gr}(hm:aM g=true){both:Bool}{c:Nat->Bool} :N7 g both c (nr g):=by
 have he:nr g=yF g.n.toNat:=by unfold nr;rw[ada hm]
 have qy:∀x,x<g.n.toNat->(yF g.n.toNat).getD x 0=2 ^ x:=fun x hx=>by simp[yF,aas,adq hx]
 rw[he]
 refine⟨B9,fun x hx=>by rw[qy x hx,agW],fun x y hx hb=> ?_⟩
 rw[qy x hx,Nat.testBit_two_pow]at hb
 have:x=y:=ael hb
 subst this
 exact⟨hx, .refl⟩
noncomputable def frL (g:Gr):List Nat:=if aM g=true then JI g false (fun _=>true) else []
end Go.Ab
end
section
set_option maxRecDepth 10000
namespace Go.Ab
open Go.Proofs
theorem Fa{P:PS}{x y:Int} :P.gD x y↔P.Lp P.tl P.hd x y:=by
 constructor<;>intro hp
 ·induction hp with
  |refl=>exact .refl
  |step _ he ih=>exact .step ih he
 ·induction hp with
  |refl=>exact .refl
  |step _ he ih=>exact .step ih he
def acV(s:Nat)(x:Int):Bool:=decide (0<=x)&&decide (x<64)&&s.testBit x.toNat
section
variable {P:PS} (h:P.Ok) {L R:Int->Int} {f0 f1:Int} {low:Int->Int} (F:P.fM L R f0 f1 low)
def fcN(P:PS)(R:Int->Int)(f:Int):Nat->Nat
 |0=>0
 |j+1=>if R (P.sh j)=f then j+1 else fcN P R f j
include h F
end
section
variable (g:Gr) (p:Pl)
def faG:Gr:=⟨(cN g p:Int)+1,(List.range g.es.length).map fun i:Nat=>(Lf g p i,Rf g p i)⟩
end
section
variable {g:Gr} {p:Pl}
variable (h:aG g p) (hI:q8 g=true)
include h hI
end
end Go.Ab
end
section
set_option maxHeartbeats 32000000
set_option maxRecDepth 20000
namespace Go.Ab
attribute [local congr] ACall.congr gd.congr Hd.congr Ny.congr vcOps.congr
open Go.Proofs
def grF(f:Fc)(k:Nat):List Edge:=(List.range k).map fun i:Nat=>(f.L.getD i 0,f.R.getD i 0)
def acW(b:Bool)(g:Gr)(p:Pl):Bool:= !BO g p&&q8 g&&decide ((dF b g p).2.1=0)&&decide (0<(g.es.length:Int))&&decide ((g.es.length:Int)<=60)
def g18:Gr:=⟨4, [(0,1),(1,3),(0,2),(2,3)]⟩
def p18:Pl:=⟨[0,1,2,3], [[0,2], [1], [3], []]⟩
structure Br where
 y:List Int
 fr:List Int
 to:List Int
 x:List Int
def eBr(b:Br):AV:= .agg [.d (sI b.y), .d (sI b.fr), .d (sI b.to), .d (sI b.x)]
section
variable (g:Gr) (p:Pl)
def Zw(f:Int):Int:=(lvL (faG g p)).getD f.toNat 0
def xEd(e:Int):Int:=Zw g p (Lf g p e)
def frV(l:List Int):Int:=if l= [] then 0 else Zw g p (Lf g p (l.getD 0 0))
def toV(l:List Int):Int:=(if l= [] then Zw g p (cN g p) else Zw g p (Rf g p (l.getD (l.length - 1) 0))) - 1
def brG:Br:=⟨lvL g,p.outs.map (frV g p),p.outs.map (toV g p),arr (xEd g p) g.es.length⟩
end
def hasB(b:Br)(x:Nat)(q:Int):Bool:=decide (b.fr.getD x 0<=q)&&decide (q<=b.to.getD x 0)
def apA(b:Br)(x z:Nat):Bool:=decide (b.y.getD z 0=b.y.getD x 0)&&decide (b.fr.getD z 0<=b.to.getD x 0)&&decide (b.fr.getD x 0<=b.to.getD z 0)
def apX(b:Br)(x:Nat):Bool:=decide (b.fr.getD x 0<=b.to.getD x 0)&&(List.range x).all fun z=> !apA b x z
def V5(b:Br):Bool:=(List.range b.y.length).all (apX b)
def Uq(b:Br)(g:Gr):Bool:=decide ((b.y.length:Int)=g.n)&&decide ((b.fr.length:Int)=g.n)&&decide ((b.to.length:Int)=g.n)&&decide ((b.x.length:Int)=(g.es.length:Int))
def clO(b:Br)(lo hi q:Int)(x:Nat):Bool:=decide (lo<b.y.getD x 0)&&decide (b.y.getD x 0<hi)&&hasB b x q
def QX(b:Br)(s t:Nat)(q:Int):Bool:=decide (b.y.getD s 0<b.y.getD t 0)&&hasB b s q&&hasB b t q&&(List.range b.y.length).all fun x=> !clO b (b.y.getD s 0) (b.y.getD t 0) q x
def riP(g:Gr)(b:Br)(i k:Nat):Bool:=decide (b.x.getD k 0=b.x.getD i 0)&&decide (b.y.getD (tl g i).toNat 0<b.y.getD (hd g k).toNat 0)&&decide (b.y.getD (tl g k).toNat 0<b.y.getD (hd g i).toNat 0)
def riE(g:Gr)(b:Br)(i:Nat):Bool:=QX b (tl g i).toNat (hd g i).toNat (b.x.getD i 0)&&(List.range i).all fun k=> !riP g b i k
def Yy(g:Gr)(b:Br):Bool:=decide ((bX g).1=0)&&Uq b g&&V5 b&&(List.range g.es.length).all (riE g b)
def rpA(b:Br)(x z:Nat):Bool:= !decide ((x:Int)=(z:Int))&&decide (b.y.getD x 0=b.y.getD z 0)&& !(decide (b.to.getD x 0<b.fr.getD z 0)||decide (b.to.getD z 0<b.fr.getD x 0))
def rpX(b:Br)(n x:Nat):Bool:=decide (b.fr.getD x 0<=b.to.getD x 0)&&(List.range n).all fun z=> !rpA b x z
def rpP(g:Gr)(b:Br)(i k:Nat):Bool:= !decide ((k:Int)=(i:Int))&&decide (b.x.getD k 0=b.x.getD i 0)&& !(decide (b.y.getD (hd g i).toNat 0<=b.y.getD (tl g k).toNat 0)||decide (b.y.getD (hd g k).toNat 0<=b.y.getD (tl g i).toNat 0))
def rpE(g:Gr)(b:Br)(i:Nat):Bool:=QX b (tl g i).toNat (hd g i).toNat (b.x.getD i 0)&&(List.range g.es.length).all fun k=> !rpP g b i k
def WU(g:Gr)(b:Br):Bool:=decide ((bX g).1=0)&&Uq b g&&(List.range b.y.length).all (rpX b b.y.length)&&(List.range g.es.length).all (rpE g b)
def abX(g:Gr)(b:Br):Bool:=decide (80<(g.es.length:Int))||decide (70<(b.y.length:Int))||decide (70<(b.fr.length:Int))||decide (70<(b.to.length:Int))||decide (80<(b.x.length:Int))
end Go.Ab
end
section
set_option maxRecDepth 10000
namespace Go.Ab
open Go.Proofs
structure V6 (g:Gr) (b:Br):Prop where
 AA:(bX g).1=0
 ly:(b.y.length:Int)=g.n
 lf:(b.fr.length:Int)=g.n
 lt:(b.to.length:Int)=g.n
 lx:b.x.length=g.es.length
 bar:∀v,v<b.y.length->b.fr.getD v 0<=b.to.getD v 0
 apart:∀v,v<b.y.length->∀z,z<v->¬(b.y.getD z 0=b.y.getD v 0/\b.fr.getD z 0<=b.to.getD v 0/\b.fr.getD v 0<=b.to.getD z 0)
 up:∀i,i<g.es.length->b.y.getD (tl g i).toNat 0<b.y.getD (hd g i).toNat 0/\(b.fr.getD (tl g i).toNat 0<=b.x.getD i 0/\b.x.getD i 0<=b.to.getD (tl g i).toNat 0)/\(b.fr.getD (hd g i).toNat 0<=b.x.getD i 0/\b.x.getD i 0<=b.to.getD (hd g i).toNat 0)
 clear:∀i,i<g.es.length->∀v,v<b.y.length->¬(b.y.getD (tl g i).toNat 0<b.y.getD v 0/\b.y.getD v 0<b.y.getD (hd g i).toNat 0/\b.fr.getD v 0<=b.x.getD i 0/\b.x.getD i 0<=b.to.getD v 0)
 abY:∀i,i<g.es.length->∀k,k<i->¬(b.x.getD k 0=b.x.getD i 0/\b.y.getD (tl g i).toNat 0<b.y.getD (hd g k).toNat 0/\b.y.getD (tl g k).toNat 0<b.y.getD (hd g i).toNat 0)
def abZ(b:Br):Br:=⟨b.y.map fun y=>3*y - 7,(List.range b.y.length).map fun v=>5*b.fr.getD v 0+1,(List.range b.y.length).map fun v=>5*b.to.getD v 0+2,b.x.map fun x=>5*x+1⟩
def ab0(b:Br):Br:=⟨b.y,(List.range b.y.length).map fun v=> -b.to.getD v 0,(List.range b.y.length).map fun v=> -b.fr.getD v 0,b.x.map fun x=> -x⟩
def yB(b:Br)(v:Int):Int:=b.y.getD v.toNat 0
def fB(b:Br)(v:Int):Int:=b.fr.getD v.toNat 0
def tB(b:Br)(v:Int):Int:=b.to.getD v.toNat 0
def xB(b:Br)(e:Int):Int:=b.x.getD e.toNat 0
def ltB(b:Br)(u v:Int):Prop:=yB b u<yB b v\/yB b u=yB b v/\fB b u<fB b v
structure QY (g:Gr) (b:Br) (p:Pl):Prop where
 perm:p.ord.Perm (dD g.n.toNat)
 sort:p.ord.Pairwise (ltB b)
 len:p.outs.length=g.n.toNat
 outs:∀x:Nat,x<g.n.toNat->(p.outs.getD x []).Perm (b8 g x)
 Lq:∀x:Nat,x<g.n.toNat->(p.outs.getD x []).Pairwise fun i k=>xB b i<xB b k
section
variable {g:Gr} {b:Br} {p:Pl} (h:V6 g b) (hp:QY g b p)
include hp
theorem QY.ok:bq g p:=⟨hp.len,hp.perm,hp.outs⟩
theorem QY.lt{j k:Nat}(hj:j<k)(hk:k<g.n.toNat):ltB b (aq p j) (aq p k):=by
 have hl:=aI hp.ok
 have:=aei.1 hp.sort j k (by omega) (by omega) hj
 rw[aq,aq,aas,aas,acF (by omega),acF (by omega)]
 exact this
include h
end
end Go.Ab
end
section
set_option maxHeartbeats 16000000
set_option maxRecDepth 20000
namespace Go.Ab
attribute [local congr] ACall.congr gd.congr Hd.congr Ny.congr vcOps.congr
open Go.Proofs
def ab1(l:List Int)(k:Nat):List Int:=(List.range l.length).map fun p=>if p<k\/l.length - 1<p+k then l.getD (l.length - 1 - p) 0 else l.getD p 0
theorem xA(ps:List Int)(hl:ps.length<=1000000):
 Spec Tryz.prog 44 (Args [.d (sI ps)]) [] (.ref 10000) [(10000, .own 3 1 (ps.map rI))]:=by
 (refine T.hR [5,7] [] [.t 2] [(10000,7)] Tryz.func44 rfl rfl (by kernel_rfl) fun X hX hP hC aA bB=> ?_)
 repeat' (first|(show cR _ .ret _ _;(try simp only[go_sem,simprocAttr]);refine dQ hX 2 7 (.own 3 1 []) ?_ ?_ (by decide) ⟨3,1,by decide, .inl rfl⟩ ?_;(iterate 2 (focus(simp only[go_sem,simprocAttr];done)));simp only[go_sem,simprocAttr])|refine Rn.p ?_|((first|refine Rs.p ?_|refine Hd.mk ?_);try simp only[go_sem,simprocAttr])|with_reducible (first|apply And.intro|(intro h;try simp only[go_sem,simprocAttr]at h))|omega)
 exact h.symm
theorem Hu(f:Edge->Int)(g:Gr)(hm:aM g=true)(x:Int)(hx:0<=x/\x<g.n):Spec Tryz.prog 128 (Args [.d (vw g), .d (.sl 1 (RQ f g)),eN x]) [] (.ref 10000) [(10000, .own 3 1 ((aJ f g.es g.es.length x).map rI))]:=by
 rw[cm]
 have hn:=aB hm
 have hl':(aJ f g.es g.es.length x).length<=1000000:=by have:=iU (f:=f) (es:=g.es) (k:=g.es.length) (x:=x);omega
 have hv:=qO (f:=f) (g:=g) (x:=x.toNat) (by omega)
 have he:gU f g.es g.es.length x.toNat=aJ f g.es g.es.length x:=by rw[oe,show((x.toNat:Nat):Int)=x from by omega]
 rw[he]at hv
 have hb1:decide (x<0)=false:=ac6 (by omega)
 have hb2:decide (g.n<=x)=false:=ac6 (by omega)
 have Zi:=xA (aJ f g.es g.es.length x) hl'
 (refine T.hR [] [] [.t 6] [(10000,22)] Tryz.func128 rfl rfl (by kernel_rfl) fun X hX hP hC aA bB=> ?_)
 repeat' (first|refine Rn.p ?_|((first|refine Rs.p ?_|refine Hd.mk ?_|(refine fu 22 (Zi) ?_ (by first|exact tV|exact tW|exact tY|exact wO) rfl (by decide) ?_;(focus(simp only[go_sem,simprocAttr,hv,hb1,hb2];done))));try simp only[go_sem,simprocAttr,hv,hb1,hb2])|with_reducible (apply And.intro)|omega)
theorem JM(g:Gr)(hm:aM g=true)(x:Int)(hx:0<=x/\x<g.n):Spec Tryz.prog 73 (Args [.d (vw g),eN x]) [] (.ref 10000) [(10000, .own 3 1 ((b8 g x).map rI))]:=by
 have hT:=Hu (·.1) g hm x hx
 (refine T.hR [] [] [.t 4] [(10000,11)] Tryz.func73 rfl rfl (by kernel_rfl) fun X hX hP hC aA bB=> ?_)
 repeat' (first|refine Rn.p ?_|((first|refine Rs.p ?_|refine Hd.mk ?_|(refine fu 11 (hT) ?_ (by first|exact tV|exact tW|exact tY|exact wO) rfl (by decide) ?_;(focus(simp only[go_sem,simprocAttr,cm];done))));try simp only[go_sem,simprocAttr,cm]))
 rfl
section
open Go.RowKit Go.Shelf Go.Sort Go.Lib
def cfX(b:Br)(i k:Int):Int:=compareInt (xB b i) (xB b k)
def cfY(b:Br)(u v:Int):Int:=if compareInt (yB b u) (yB b v)=0 then compareInt (fB b u) (fB b v) else compareInt (yB b u) (yB b v)
theorem Lr{x y:Int} :compareInt x y<0↔x<y:=by
 unfold compareInt
 split
 ·simp[*]
 ·split<;>simp<;>omega
theorem Ls{x y:Int} :compareInt x y=0↔x=y:=by
 unfold compareInt
 split
 ·simp;omega
 ·split<;>simp<;>omega
def brC(b:Br):List AV:= [.d (sI b.y), .d (sI b.fr), .d (sI b.to), .d (sI b.x)]
theorem cI{w W:World}{b o:Nat}{blk:Nat}(hW:∀b,b<w.heap.size->b≠blk->W.heap[b]? =w.heap[b]?)(hb:b<w.heap.size)(hne:b≠blk):W.cell? ⟨b,o,none⟩=w.cell? ⟨b,o,none⟩:=by
 simp only[World.cell?,hW b hb hne]
end
section
open Go.RowKit Go.Shelf Go.Sort Go.Lib
def Zx(d:Dr)(x i k:Int):Int:= -(sd (eD d x) (jv d k) (jv d i))
def Zy(d:Dr)(u v:Int):Int:=if compareInt (eD d u).2 (eD d v).2=0 then compareInt (eD d u).1 (eD d v).1 else compareInt (eD d u).2 (eD d v).2
def JN(d:Dr)(u v:Int):Prop:=(eD d u).2<(eD d v).2\/((eD d u).2=(eD d v).2/\(eD d u).1<(eD d v).1)
theorem JO{d:Dr}{x i k:Int} :Zx d x i k<0↔mD d x i k:=by
 unfold Zx mD yy sd jh
 split
 ·omega
 ·split<;>omega
theorem JP{d:Dr}{u v:Int} :Zy d u v<0↔JN d u v:=by
 unfold Zy JN
 by_cases h:(eD d u).2=(eD d v).2
 ·rw[ada (Ls.2 h),Lr];omega
 ·rw[ac8 (fun e=>h (Ls.1 e)),Lr];omega
theorem Lt{w:World}{z:Nat->Nat}{v:Value}{l:List Pt}(h:Rd w z v (sP l))(hne:l≠ []):∃b off cap,v= .slice (some ⟨b,off,none⟩) l.length cap/\b<w.heap.size/\0<z b/\∀j,j<l.length->w.cell? ⟨b,off+j*2,none⟩=some (.int .i64 (l.getD j (0,0)).1)/\w.cell? ⟨b,off+j*2+1,none⟩=some (.int .i64 (l.getD j (0,0)).2):=by
 generalize hx:sP l=x at h
 cases h with
 |sc v h=>cases hx
 |pt b off cells vs hz hc hr=>cases hx
 |nil p sz=>
  simp only[sP,D.sl.injEq,aeG]at hx
  exact absurd hx.2 hne
 |sl b off n cap sz rows vs hn hsz hz hcap hc hr=>
  simp only[sP,D.sl.injEq]at hx
  obtain⟨rfl,rfl⟩:=hx
  rw[ado]at hn
  subst hn
  have hpos:0<l.length:=ae7.2 hne
  refine⟨b,off,cap,rfl, ?_,by omega,fun j hj=>⟨?_, ?_⟩⟩
  ·have:=hc 0 (by omega)
   by_cases hlt:b<w.heap.size
   ·exact hlt
   ·exfalso
    simp[World.cell?,aeh (ago hlt)]at this
  ·have h1:=hc (j*2+0) (by omega)
   have h2:=hr j 0 (rP l[j]) (.sc (.int .i64 l[j].1)) (by simp[acF hj]) rfl
   have h3:=mq h2
   simp only[Nat.add_zero]at h1 h3
   rw[h1,h3]
   simp[aas,acF hj]
  ·have h1:=hc (j*2+1) (by omega)
   have h2:=hr j 1 (rP l[j]) (.sc (.int .i64 l[j].2)) (by simp[acF hj]) rfl
   have h3:=mq h2
   rw[af4,h1,h3]
   simp[aas,acF hj]
theorem V7{w:World}{z:Nat->Nat}{v:Value}{l:List (List Pt)}(h:Rd w z v (sLn l))(hne:l≠ []):∃b off cap,v= .slice (some ⟨b,off,none⟩) l.length cap/\b<w.heap.size/\0<z b/\∀j,j<l.length->∃u,w.cell? ⟨b,off+j,none⟩=some u/\Rd w z u (sP (l.getD j [])):=by
 generalize hx:sLn l=x at h
 cases h with
 |sc v h=>cases hx
 |pt b off cells vs hz hc hr=>cases hx
 |nil p sz=>
  simp only[sLn,vP,D.sl.injEq,aeG]at hx
  exact absurd hx.2 hne
 |sl b off n cap sz rows vs hn hsz hz hcap hc hr=>
  simp only[sLn,vP,D.sl.injEq]at hx
  obtain⟨rfl,rfl⟩:=hx
  rw[ado]at hn
  subst hn
  have hpos:0<l.length:=ae7.2 hne
  refine⟨b,off,cap,rfl, ?_,by omega,fun j hj=> ?_⟩
  ·have:=hc 0 (by omega)
   by_cases hlt:b<w.heap.size
   ·exact hlt
   ·exfalso
    simp[World.cell?,aeh (ago hlt)]at this
  ·have h1:=hc j (by omega)
   have h2:=hr j 0 [sP l[j]] (sP l[j]) (by simp[acF hj]) rfl
   simp only[af7,Nat.add_zero]at h2
   refine⟨_,h1, ?_⟩
   rw[aas,acF hj]
   exact h2
def CL(d:Dr):List AV:= [.d (sP d.pts), .d (sLn d.ls)]
theorem QZ{d:Dr}{w:World}{E:Env}{vs:List Value}(h:AVrs w E (CL d) vs):∃v0 v1,vs= [v0,v1]/\Rd w E.z v0 (sP d.pts)/\Rd w E.z v1 (sLn d.ls):=by
 obtain⟨v0,r0,rfl,h0,h⟩:=h
 obtain⟨v1,r1,rfl,h1,h⟩:=h
 simp only[AVrs]at h
 subst h
 exact⟨v0,v1,rfl,h0,h1⟩
theorem JQ{g:Gr}{d:Dr}(R:yx g d){x:Int}(hx0:0<=x/\x<g.n){l l':List Int}(S:N6 (Zx d x) l l')(hl:∀i∈l,0<=i/\i<g.es.length)(hlen:l.length<=1000000):
 Spec Tryz.prog 74 (Args [.ref 10000, .fn 75 [] [.ptr 10001 0, .ptr 10002 0]]) [(10000, .own 3 1 (l.map rI)),(10001, .box (CL d)),(10002, .box [eN x])] (.tup []) [(10000, .own 3 1 (l'.map rI)),(10001, .box (CL d)),(10002, .box [eN x])]:=by
 refine Ho S hlen (enters_of Tryz.func75 (by kernel_rfl) rfl) ?_
 intro w E B Xb blk v1 v2 e1 e2 hB hX hA M9 hne ER hz W hsz hW i hi k hk
 obtain⟨va,vb,rfl,ha,hb⟩:=QZ hA
 obtain⟨xv,r2,rfl,hxv,tQ⟩:=M9
 simp only[AVrs]at tQ
 subst tQ
 have WR:xv= .int .i64 x:=bN hxv
 subst WR
 have hi2:=hl i hi
 have hk2:=hl k hk
 have hnl:=R.nl
 have hnp:=R.np
 obtain⟨bp,op,cp,rfl,g1,g2,g3⟩:=Lt ha (fun e=>by rw[e]at hnp;simp at hnp;omega)
 obtain⟨bl,ol,cl,rfl,g4,g5,g6⟩:=V7 hb (fun e=>by rw[e]at hnl;simp at hnl;omega)
 have RX:B<w.heap.size:=(adr.1 hB).1
 have Uk:Xb<w.heap.size:=(adr.1 hX).1
 obtain⟨ui,c1,r1⟩:=g6 i.toNat (by omega)
 obtain⟨uk,c2,r2⟩:=g6 k.toNat (by omega)
 have li:=R.len _ (iN R hi2.1 hi2.2)
 have lk:=R.len _ (iN R hk2.1 hk2.2)
 obtain⟨bi,oi,ci,rfl,i1,i2,i3⟩:=Lt r1 (fun e=>by have:(ff d i).length=0:=by unfold ff;rw[e];rfl
                                                 omega)
 obtain⟨bk,ok,ck,rfl,k1,k2,k3⟩:=Lt r2 (fun e=>by have:(ff d k).length=0:=by unfold ff;rw[e];rfl
                                                 omega)
 have nz:∀b,0<E.z b->b≠blk:=fun b hb e=>by rw[e]at hb;omega
 have hq:=g3 x.toNat (by omega)
 have hqi:=i3 1 (by show 1<(ff d i).length;omega)
 have Sz:=k3 1 (by show 1<(ff d k).length;omega)
 have Ih:(d.ls.getD i.toNat []).getD 1 (0,0)=jv d i:=rfl
 have hfk:(d.ls.getD k.toNat []).getD 1 (0,0)=jv d k:=rfl
 rw[Ih]at hqi
 rw[hfk]at Sz
 have iP:bC (eD d x):=R.Zo _ (az (by omega))
 have iI:bC (jv d i):=R.qx _ (iN R hi2.1 hi2.2) _ (az (by omega))
 have iK:bC (jv d k):=R.qx _ (iN R hk2.1 hk2.2) _ (az (by omega))
 have hc:=VU W B Xb bp op d.pts.length cp bl ol d.ls.length cl x.toNat i.toNat k.toNat bi oi (d.ls.getD i.toNat []).length ci bk ok (d.ls.getD k.toNat []).length ck (eD d x) (jv d i) (jv d k) iP iI iK
  (by rw[cI hW RX hne];simp[World.cell?,hB]) (by rw[cI hW RX hne];simp[World.cell?,hB]) (by rw[cI hW Uk ER];simp[World.cell?,hX];omega)
  (by omega) (by omega) (by omega) (by show 1<(ff d i).length;omega) (by show 1<(ff d k).length;omega)
  (by rw[cI hW g1 (nz _ g2)];exact hq.1) (by rw[cI hW g1 (nz _ g2)];exact hq.2)
  (by rw[cI hW g4 (nz _ g5)];exact c1) (by rw[cI hW g4 (nz _ g5)];exact c2)
  (by rw[cI hW i1 (nz _ i2)];exact hqi.1) (by rw[cI hW i1 (nz _ i2)];exact hqi.2) (by rw[cI hW k1 (nz _ k2)];exact Sz.1) (by rw[cI hW k1 (nz _ k2)];exact Sz.2)
 rw[show((i.toNat:Nat):Int)=i by omega,show((k.toNat:Nat):Int)=k by omega]at hc
 exact hc
theorem JR{g:Gr}{d:Dr}(R:yx g d){l l':List Int}(S:N6 (Zy d) l l')(hl:∀i∈l,0<=i/\i<g.n)(hlen:l.length<=1000000):
 Spec Tryz.prog 74 (Args [.ref 10000, .fn 77 [] [.ptr 10001 0]]) [(10000, .own 3 1 (l.map rI)),(10001, .box (CL d))] (.tup []) [(10000, .own 3 1 (l'.map rI)),(10001, .box (CL d))]:=by
 refine Jv S hlen (enters_of Tryz.func77 (by kernel_rfl) rfl) rfl ?_
 intro w E B blk vs e hB hA hne hz W hsz hW i hi k hk
 obtain⟨va,vb,rfl,ha,hb⟩:=QZ hA
 have hi2:=hl i hi
 have hk2:=hl k hk
 have hnp:=R.np
 obtain⟨bp,op,cp,rfl,g1,g2,g3⟩:=Lt ha (fun e=>by rw[e]at hnp;simp at hnp;omega)
 have RX:B<w.heap.size:=(adr.1 hB).1
 have nz:∀b,0<E.z b->b≠blk:=fun b hb e=>by rw[e]at hb;omega
 have hqi:=g3 i.toNat (by omega)
 have Sz:=g3 k.toNat (by omega)
 have hc:=VV W B bp op d.pts.length cp i.toNat k.toNat (eD d i) (eD d k) (by rw[cI hW RX hne];simp[World.cell?,hB]) (by omega) (by omega)
  (by rw[cI hW g1 (nz _ g2)];exact hqi.1) (by rw[cI hW g1 (nz _ g2)];exact hqi.2) (by rw[cI hW g1 (nz _ g2)];exact Sz.1) (by rw[cI hW g1 (nz _ g2)];exact Sz.2)
 rw[show((i.toNat:Nat):Int)=i by omega,show((k.toNat:Nat):Int)=k by omega]at hc
 exact hc
end
structure ug (g:Gr) (d:Dr) (p:Pl):Prop where
 perm:p.ord.Perm (dD g.n.toNat)
 sort:p.ord.Pairwise (JN d)
 len:p.outs.length=g.n.toNat
 outs:∀x:Nat,x<g.n.toNat->(p.outs.getD x []).Perm (b8 g x)
 Lq:∀x:Nat,x<g.n.toNat->(p.outs.getD x []).Pairwise (mD d x)
theorem Nv{g:Gr}{d:Dr}{p:Pl}(hp:ug g d p){x:Nat}(hx:x<g.n.toNat):N6 (Zx d x) (b8 g x) (p.outs.getD x []):=
 {perm:=(hp.outs x hx).symm,nd:=b7,ord:=(hp.Lq x hx).imp fun h=>⟨JO.2 h,fun h2=>xw h (JO.1 h2)⟩,Zr:=fun i _ h=>by have:=JO.1 h;exact xw this this}
theorem Q0{g:Gr}{d:Dr}{p:Pl}(hp:ug g d p):N6 (Zy d) (dD g.n.toNat) p.ord:=
 {perm:=hp.perm.symm,nd:=jM,ord:=hp.sort.imp fun h=>⟨JP.2 h,fun h2=>by have:=JP.1 h2;unfold JN at*;omega⟩,Zr:=fun i _ h=>by have:=JP.1 h;unfold JN at this;omega}
end Go.Ab
end
section
set_option maxRecDepth 10000
namespace Go.Ab
open Go.Proofs
def zj(g:Gr)(e:Int):Prop:=0<=e/\e<g.es.length
section
variable {g:Gr} {d:Dr} (h:yx g d)
include h
theorem dU{e:Int}(he:zj g e):S7 (ff d e):=by
 have h0:=he.1;have h1:=he.2
 exact h.I3 e.toNat (by omega)
theorem jx{e:Int}(he:zj g e):2<=(ff d e).length:=(h.len _ (iN h he.1 he.2)).1
theorem tg{e:Int}(he:zj g e):(ff d e).getD 0 (0,0)=eD d (bt g e):=by
 have h0:=he.1;have h1:=he.2
 exact h.fst e.toNat (by omega)
theorem z8{e:Int}(he:zj g e):(ff d e).getD ((ff d e).length - 1) (0,0)=eD d (bA g e):=by
 have h0:=he.1;have h1:=he.2
 exact h.GM e.toNat (by omega)
theorem V8{e:Int}(he:zj g e):(eD d (bt g e)).2<(eD d (bA g e)).2:=by
 have:=E8 (dU h he) (i:=0) (j:=(ff d e).length - 1) (by have:=jx h he;omega) (by have:=jx h he;omega)
 rwa [tg h he,z8 h he]at this
theorem V9{e:Int}(he:zj g e):rC (ff d e) (eD d (bt g e)).2 (eD d (bt g e)).1:=by
 have hl:=jx h he
 refine⟨0,by omega, ?_⟩
 have:=dU h he 0 (by omega)
 rw[<- tg h he]
 exact dr this eV
theorem Fb{e:Int}(he:zj g e):rC (ff d e) (eD d (bA g e)).2 (eD d (bA g e)).1:=by
 have hl:=jx h he
 obtain⟨m,hm⟩:∃m,(ff d e).length=m+2:=⟨(ff d e).length - 2,by omega⟩
 refine⟨m,by omega, ?_⟩
 have:=dU h he m (by omega)
 rw[<- z8 h he,hm,show m+2 - 1=m+1 by omega]
 exact dr this (by rw[fV];exact eV)
theorem nt{e y:Int}{X:Rat}(he:zj g e)(hX:rC (ff d e) y X):(eD d (bt g e)).2<=y/\y<=(eD d (bA g e)).2:=by
 obtain⟨j,hj,hc⟩:=hX
 have k1:=hc.lo
 have k2:=hc.hi
 have k3:((ff d e).getD j (0,0)).2<=y:=by exact_mod_cast k1
 have k4:y<=((ff d e).getD (j+1) (0,0)).2:=by exact_mod_cast k2
 have k5:=BY (dU h he) (afC j) (by omega)
 have k6:=BY (dU h he) (show j+1<=(ff d e).length - 1 by omega) (by omega)
 rw[tg h he]at k5
 rw[z8 h he]at k6
 omega
theorem Ca{e y:Int}(he:zj g e)(h0:(eD d (bt g e)).2<=y)(h1:y<=(eD d (bA g e)).2):∃X,rC (ff d e) y X:=
 VS (dU h he) (jx h he) (by rw[tg h he];exact h0) (by rw[z8 h he];exact h1)
theorem th{e:Int}(he:zj g e){j:Nat}(hj:j<(ff d e).length):bC ((ff d e).getD j (0,0)):=h.qx _ (iN h he.1 he.2) _ (az hj)
theorem Hv{i k:Int}(hi:zj g i)(hk:zj g k)(hlt:k<i){t X:Rat}(a:rC (ff d i) t X)(b:rC (ff d k) t X):
 ∃v:Int,(v=bt g i\/v=bA g i)/\(v=bt g k\/v=bA g k)/\t=((eD d v).2:Int):=by
 obtain⟨j,hj,ca⟩:=a
 obtain⟨m,hm,cb⟩:=b
 have i0:=hi.1;have i1:=hi.2;have k0:=hk.1;have k1:=hk.2
 have uj:=dU h hi j hj
 have um:=dU h hk m hm
 have hb:=h.apart i.toNat k.toNat (by omega) (by omega) _ (s6 (l:=ff d i) hj) _ (s6 (l:=ff d k) hm)
 have hM:=S6 uj um ca cb
 have hV:fF ((ff d i).getD j (0,0)) ((ff d i).getD (j+1) (0,0)) ((ff d k).getD m (0,0)) ((ff d k).getD (m+1) (0,0))=c8 ((ff d i).getD j (0,0)) ((ff d i).getD (j+1) (0,0)) ((ff d k).getD m (0,0)) ((ff d k).getD (m+1) (0,0)):=by
  rw[jX,ada ⟨th h hi (by omega),th h hi hj,th h hk (by omega),th h hk hm⟩]
 unfold dH at hb
 simp only[hV,aeq,adM,aeT,afF,adR,adg]at hb
 obtain⟨hb1,hb2⟩:=hb
 rcases hb2 with hb2|⟨p,hp,o1,o2⟩
 ·omega
 ·unfold gW uN at hp
  simp only[List.take_succ_cons,List.take_zero,adb,adJ,adw,aeo,or_false,MG,adL,ade]at hp
  obtain⟨v,⟨v1,v2⟩,rfl⟩:=hp
  have o1':iz ((ff d i).getD j (0,0)) ((ff d i).getD (j+1) (0,0)) (eD d v)=true:=by unfold nG at o1;rw[adg]at o1;exact o1.2
  have o2':iz ((ff d k).getD m (0,0)) ((ff d k).getD (m+1) (0,0)) (eD d v)=true:=by unfold nG at o2;rw[adg]at o2;exact o2.2
  have da:=dr uj o1'
  have db:=dr um o2'
  refine⟨v,v1,v2, ?_⟩
  rcases(show t<((eD d v).2:Int)\/t=((eD d v).2:Int)\/((eD d v).2:Int)<t by grind) with hlt|he|hlt
  ·have:=Hg uj um ca cb da db hlt;omega
  ·exact he
  ·have:=Hg uj um da db ca cb hlt;omega
theorem Aa{i k:Int}(hi:zj g i)(hk:zj g k)(hne:i≠k){t X:Rat}(a:rC (ff d i) t X)(b:rC (ff d k) t X):
 ∃v:Int,(v=bt g i\/v=bA g i)/\(v=bt g k\/v=bA g k)/\t=((eD d v).2:Int):=by
 rcases Int.lt_or_gt_of_ne hne with hlt|hlt
 ·obtain⟨v,v1,v2,v3⟩:=Hv h hk hi hlt b a
  exact⟨v,v2,v1,v3⟩
 ·exact Hv h hi hk hlt a b
theorem Q1{y c:Int}{t:Rat}(h1:(y:Rat)<t)(h2:t<((y+1:Int):Rat))(e:t=(c:Rat)):False:=by
 rw[e]at h1 h2
 have h3:y<c:=by exact_mod_cast h1
 have h4:c<y+1:=by exact_mod_cast h2
 omega
theorem DF{i k:Int}(hi:zj g i)(hk:zj g k)(hne:i≠k){y:Int}{X Z:Rat}(a:rC (ff d i) y X)(b:rC (ff d k) y Z)(hlt:X<Z):
 ∀n:Nat,∀X2 Z2:Rat,rC (ff d i) (y+n:Int) X2->rC (ff d k) (y+n:Int) Z2->X2<=Z2/\(X2=Z2->y+n=(eD d (bA g i)).2)
 |0,X2,Z2,a2,b2=>by
  rw[show y+((0:Nat):Int)=y by omega]at a2 b2
  obtain rfl:=jw (dU h hi) a a2
  obtain rfl:=jw (dU h hk) b b2
  exact⟨agj hlt,fun e=>by grind⟩
 |n+1,X2,Z2,a2,b2=>by
  have ra:=nt h hi a
  have rb:=nt h hk b
  have ra2:=nt h hi a2
  have rb2:=nt h hk b2
  have e1:y+((n+1:Nat):Int)=y+n+1:=by omega
  rw[e1]at a2 b2 ra2 rb2 ⊢
  obtain⟨X1,a1⟩:=Ca h hi (y:=y+n) (by omega) (by omega)
  obtain⟨Z1,b1⟩:=Ca h hk (y:=y+n) (by omega) (by omega)
  have ih:=DF hi hk hne a b hlt n X1 Z1 a1 b1
  have hs:X1<Z1:=by
   have hle:=ih.1
   rcases(show X1<Z1\/X1=Z1 by grind) with h1|h1
   ·exact h1
   ·have:=ih.2 h1;omega
  refine⟨afE.1 fun hgt=> ?_,fun e=> ?_⟩
  ·obtain⟨t,W,t1,t2,w1,w2⟩:=Hh (dU h hi) (dU h hk) (jx h hi) (jx h hk) a1 b1 a2 b2 hs hgt
   obtain⟨v,_,_,v3⟩:=Aa h hi hk hne w1 w2
   exact Q1 h t1 t2 v3
  ·rw[<- e]at b2
   obtain⟨v,v1,_,v3⟩:=Aa h hi hk hne a2 b2
   have v4:y+n+1=(eD d v).2:=by exact_mod_cast v3
   rcases v1 with rfl|rfl
   ·omega
   ·exact v4
theorem DG{i k:Int}(hi:zj g i)(hk:zj g k)(hne:i≠k){y:Int}{X Z:Rat}(a:rC (ff d i) y X)(b:rC (ff d k) y Z)(hlt:X<Z):
 ∀n:Nat,∀X2 Z2:Rat,rC (ff d i) (y - n:Int) X2->rC (ff d k) (y - n:Int) Z2->X2<=Z2/\(X2=Z2->y - n=(eD d (bt g i)).2)
 |0,X2,Z2,a2,b2=>by
  rw[show y - ((0:Nat):Int)=y by omega]at a2 b2
  obtain rfl:=jw (dU h hi) a a2
  obtain rfl:=jw (dU h hk) b b2
  exact⟨agj hlt,fun e=>by grind⟩
 |n+1,X2,Z2,a2,b2=>by
  have ra:=nt h hi a
  have rb:=nt h hk b
  have ra2:=nt h hi a2
  have rb2:=nt h hk b2
  obtain⟨w,hw⟩:∃w:Int,y - ((n+1:Nat):Int)=w:=⟨_,rfl⟩
  have e1:y - (n:Int)=w+1:=by omega
  rw[hw]at a2 b2 ra2 rb2 ⊢
  obtain⟨X1,a1⟩:=Ca h hi (y:=y - n) (by omega) (by omega)
  obtain⟨Z1,b1⟩:=Ca h hk (y:=y - n) (by omega) (by omega)
  have ih:=DG hi hk hne a b hlt n X1 Z1 a1 b1
  have hs:X1<Z1:=by
   have hle:=ih.1
   rcases(show X1<Z1\/X1=Z1 by grind) with h1|h1
   ·exact h1
   ·have:=ih.2 h1;omega
  rw[e1]at a1 b1
  refine⟨afE.1 fun hgt=> ?_,fun e=> ?_⟩
  ·obtain⟨t,W,t1,t2,w1,w2⟩:=Hh (dU h hk) (dU h hi) (jx h hk) (jx h hi) b2 a2 b1 a1 hgt hs
   obtain⟨v,_,_,v3⟩:=Aa h hi hk hne w2 w1
   exact Q1 h t1 t2 v3
  ·rw[<- e]at b2
   obtain⟨v,v1,_,v3⟩:=Aa h hi hk hne a2 b2
   have v4:w=(eD d v).2:=by exact_mod_cast v3
   rcases v1 with rfl|rfl
   ·exact v4
   ·omega
theorem rN{i k:Int}(hi:zj g i)(hk:zj g k){y z:Int}{X Z X2 Z2:Rat}(a:rC (ff d i) y X)(b:rC (ff d k) y Z)(hlt:X<Z)(a2:rC (ff d i) z X2)(b2:rC (ff d k) z Z2):X2<=Z2:=by
 have hne:i≠k:=fun e=>by
  subst e
  have:=jw (dU h hi) a b
  grind
 rcases agv y z with hyz|hyz
 ·obtain⟨n,hn⟩:∃n:Nat,z=y+n:=⟨(z - y).toNat,by omega⟩
  subst hn
  exact(DF h hi hk hne a b hlt n X2 Z2 a2 b2).1
 ·obtain⟨n,hn⟩:∃n:Nat,z=y - n:=⟨(y - z).toNat,by omega⟩
  subst hn
  exact(DG h hi hk hne a b hlt n X2 Z2 a2 b2).1
theorem Fe{e v:Int}(he:zj g e)(hv:fN g v)(n1:v≠bt g e)(n2:v≠bA g e):¬rC (ff d e) (eD d v).2 (eD d v).1:=by
 rintro⟨j,hj,hc⟩
 have h0:=he.1;have h1:=he.2;have v0:=hv.1;have v1:=hv.2
 have hnp:=h.np
 have hf:=h.free e.toNat v.toNat (by omega) (by omega) (by rw[afk v0];exact n1) (by rw[afk v0];exact n2)
 unfold SF at hf
 rw[adV]at hf
 refine hf _ (s6 (l:=ff d e) hj) ?_
 have Cs:=QG (dU h he j hj) hc
 have hP:bC (eD d v):=h.Zo _ (az (by omega))
 show nG ((ff d e).getD j (0,0)) ((ff d e).getD (j+1) (0,0)) (eD d v)=true
 unfold nG
 rw[Cs,ac7 ⟨th h he (by omega),th h he hj,hP⟩]
 rfl
end
def LQ(d:Dr)(i k:Int):Prop:=∃(y:Int) (X Z:Rat),rC (ff d i) y X/\rC (ff d k) y Z/\X<Z
section
variable {g:Gr} {d:Dr} {p:Pl} (h:yx g d) (hp:ug g d p)
include hp
theorem ug.ok:bq g p:=⟨hp.len,hp.perm,hp.outs⟩
theorem ug.lt{j k:Nat}(hj:j<k)(hk:k<g.n.toNat):JN d (aq p j) (aq p k):=by
 have hl:=aI hp.ok
 have:=aei.1 hp.sort j k (by omega) (by omega) hj
 rw[aq,aq,aas,aas,acF (by omega),acF (by omega)]
 exact this
include h
theorem Hw{v:Int}(hv:fN g v){k:Nat}(hn:v∉p.ord.take k):∃l,k<=l/\l<g.n.toNat/\aq p l=v:=by
 obtain⟨l,hl,e⟩:=cq hp.ok hv.1 hv.2
 refine⟨l,ago fun hlt=>hn ?_,hl,e⟩
 rw[<- e];exact yA hlt (by rw[aI hp.ok];exact hl)
theorem mF{k:Nat}(hk:k<g.n.toNat){a:Int}(ha:nL g p k a):zj g a/\(∃X,rC (ff d a) (eD d (aq p k)).2 X)/\aq p k≠bt g a:=by
 have hm:=ah h.AA
 have he:zj g a:=⟨ha.e0,ha.e1⟩
 have ht:fN g (bt g a):=aT hm (i:=a.toNat) (by have:=ha.e0;have:=ha.e1;omega)
 have hh:fN g (bA g a):=aU hm (i:=a.toNat) (by have:=ha.e0;have:=ha.e1;omega)
 obtain⟨j,j1,_,j3⟩:=lG ha.low
 obtain⟨l,l1,l2,l3⟩:=Hw h hp hh ha.top
 have c1:=hp.lt j1 hk
 rw[j3]at c1
 have c2:(eD d (aq p k)).2<=(eD d (bA g a)).2:=by
  rcases adk k l with h1|h1
  ·have:=hp.lt h1 l2
   rw[l3]at this
   unfold JN at this
   omega
  ·rw[<- l3,show l=k by omega];omega
 refine⟨he,Ca h he (by unfold JN at c1;omega) c2,fun e=>yC hp.ok hk (e ▸ ha.low)⟩
theorem xC{k:Nat}(hk:k<g.n.toNat){c:Int}(hc:c∈bE p (aq p k)):zj g c/\rC (ff d c) (eD d (aq p k)).2 (eD d (aq p k)).1:=by
 obtain⟨x0,x1⟩:=aD hp.ok hk
 obtain⟨⟨i0,i1⟩,i2⟩:=aX.1 ((aW hp.ok x0 x1).mem_iff.1 hc)
 refine⟨⟨i0,i1⟩, ?_⟩
 have:=V9 h (e:=c) ⟨i0,i1⟩
 rwa [show bt g c=aq p k from i2]at this
theorem Hy:Hp g p fun _=>LQ d:=by
 have hm:=ah h.AA
 refine⟨fun e e0 e1 k hk ek=> ?_,fun k hk a b c ha hb hc ea ec r1 r2=> ?_,fun k hk a c ha hc na nc r=>r,fun k hk a b c ha hb na eb hc r=> ?_,fun k hk a b c ha hb na eb hc r=> ?_,fun k hk=> ?_⟩
 ·have u1:=V8 h (e:=e) ⟨e0,e1⟩
  refine adm fun hn=> ?_
  obtain⟨l,l1,l2,l3⟩:=Hw h hp (aT hm (i:=e.toNat) (by omega)) hn
  have l3:aq p l=bt g e:=l3
  rcases adk k l with h1|h1
  ·have:=hp.lt h1 l2
   rw[l3,ek]at this
   unfold JN at this;omega
  ·rw[<- l3, <- ek,show l=k by omega]at u1
   omega
 ·obtain⟨ia,_,_⟩:=mF h hp hk ha
  obtain⟨ib,⟨X,hX⟩,nb⟩:=mF h hp hk hb
  obtain⟨ic,_,_⟩:=mF h hp hk hc
  refine adm fun hn=>Fe h ib (aD hp.ok hk) nb (Ne.symm hn) ?_
  obtain⟨y1,X1,Z1,a1,b1,l1⟩:=r1
  obtain⟨y2,X2,Z2,a2,b2,l2⟩:=r2
  have ta:=Fb h ia
  have tc:=Fb h ic
  rw[ea]at ta
  rw[ec]at tc
  have q1:=rN h ia ib a1 b1 l1 ta hX
  have q2:=rN h ib ic a2 b2 l2 hX tc
  have:X=((eD d (aq p k)).1:Int):=by grind
  rwa [this]at hX
 ·obtain⟨ia,⟨X,hX⟩,nb⟩:=mF h hp hk ha
  obtain⟨ib,_,_⟩:=mF h hp hk hb
  obtain⟨y1,X1,Z1,a1,b1,l1⟩:=r
  have tb:=Fb h ib
  rw[eb]at tb
  have q1:=rN h ia ib a1 b1 l1 hX tb
  have q2:X≠((eD d (aq p k)).1:Int):=fun e=>Fe h ia (aD hp.ok hk) nb (Ne.symm na) (e ▸ hX)
  exact⟨_,_,_,hX,(xC h hp hk hc).2,by grind⟩
 ·obtain⟨ia,⟨X,hX⟩,nb⟩:=mF h hp hk ha
  obtain⟨ib,_,_⟩:=mF h hp hk hb
  obtain⟨y1,X1,Z1,b1,a1,l1⟩:=r
  have tb:=Fb h ib
  rw[eb]at tb
  have q1:=rN h ib ia b1 a1 l1 tb hX
  have q2:X≠((eD d (aq p k)).1:Int):=fun e=>Fe h ia (aD hp.ok hk) nb (Ne.symm na) (e ▸ hX)
  exact⟨_,_,_,(xC h hp hk hc).2,hX,by grind⟩
 ·obtain⟨x0,x1⟩:=aD hp.ok hk
  have hs:=hp.Lq (aq p k).toNat (by omega)
  rw[show(((aq p k).toNat:Nat):Int)=aq p k by omega]at hs
  refine aeU (R:=mD d (aq p k)) (fun {i c} hi hc r=> ?_) hs
  have hit:bt g i=aq p k:=(aX.1 ((aW hp.ok x0 x1).mem_iff.1 hi)).2
  have hct:bt g c=aq p k:=(aX.1 ((aW hp.ok x0 x1).mem_iff.1 hc)).2
  have ii:=(xC h hp hk hi).1
  have ic:=(xC h hp hk hc).1
  have u1:=u6 h ii.1 ii.2 hit
  have u2:=u6 h ic.1 ic.2 hct
  have f1:=tg h ii
  have f2:=tg h ic
  rw[hit]at f1
  rw[hct]at f2
  have n1:=jx h ii
  have n2:=jx h ic
  unfold mD yy tm at r
  have hA:(ff d i).getD 1 (0,0)=jv d i:=rfl
  have hB:(ff d c).getD 1 (0,0)=jv d c:=rfl
  generalize eD d (aq p k)=P at*
  generalize jv d i=A at*
  generalize jv d c=B at*
  obtain⟨y,hy⟩:∃y,y=min A.2 B.2:=⟨_,rfl⟩
  obtain⟨X,hX⟩:=zh (p:=P) (q:=A) (y:=(y:Rat)) u1 (by exact_mod_cast (show P.2<=y by omega)) (by exact_mod_cast (show y<=A.2 by omega))
  obtain⟨Z,hZ⟩:=zh (p:=P) (q:=B) (y:=(y:Rat)) u2 (by exact_mod_cast (show P.2<=y by omega)) (by exact_mod_cast (show y<=B.2 by omega))
  refine⟨y,X,Z,⟨0,by omega, ?_⟩,⟨0,by omega, ?_⟩, ?_⟩
  ·rw[f1];rw[<- hA]at hX;exact hX
  ·rw[f2];rw[<- hB]at hZ;exact hZ
  ·have p1:(0:Rat)<(A.2:Rat) - P.2:=by
    have:(P.2:Rat)<A.2:=by exact_mod_cast u1
    grind
   have p2:(0:Rat)<(B.2:Rat) - P.2:=by
    have:(P.2:Rat)<B.2:=by exact_mod_cast u2
    grind
   have p3:(0:Rat)<(y:Rat) - P.2:=by
    have:(P.2:Rat)<y:=by exact_mod_cast (show P.2<y by omega)
    grind
   have p4:(0:Rat)<((B.1:Rat) - P.1)*(A.2 - P.2) - (B.2 - P.2)*(A.1 - P.1):=by exact_mod_cast r
   have e1:=hX.eq
   have e2:=hZ.eq
   have e:(Z - X)*(((A.2:Rat) - P.2)*(B.2 - P.2))=((y:Rat) - P.2)*(((B.1:Rat) - P.1)*(A.2 - P.2) - (B.2 - P.2)*(A.1 - P.1)):=by grind
   have q1:=aeK p3 p4
   have q2:=aeK p1 p2
   refine Rat.not_le.1 fun hn=> ?_
   have:=gn (show Z - X<=0 by grind) (agj q2)
   grind
theorem Hz:aG g p:=Dz h.AA hp.ok (Hy h hp)
end
def Yz(f:Pt->Pt)(d:Dr):Dr:=⟨d.pts.map f,d.ls.map fun l=>l.map f⟩
structure Aff (f:Pt->Pt):Prop where
 x:∃c e:Int,c≠0/\∀a,(f a).1=c*a.1+e
 y:∃c e:Int,0<c/\∀a,(f a).2=c*a.2+e
section
variable {f:Pt->Pt} (A:Aff f)
include A
def acX(f:Pt->Pt)(l:List Int):List Int:=key (f (l.getD 0 0,l.getD 1 0))
end
theorem Ac{p:Pt}(h:bC p):nF p=false:=by rw[sD,ac7 h];rfl
section
variable {f:Pt->Pt} (A:Aff f) {g:Gr} {d:Dr} (hP:yx g d) (i1:∀q∈d.pts,bC (f q)) (i2:∀l∈d.ls,∀q∈l,bC (f q))
include A hP i1 i2
end
def acY(by_ p:Pt):Pt:=(3*p.1+by_.1,5*p.2+by_.2)
def YA(p:Pt):Pt:=(-p.1,p.2)
def YB(l:List Int):Nat->List (List Int × Int)
 |0=> []
 |j+1=>zo (YB l j) [l.getD j 0] (gO (YB l j) [l.getD j 0]+1)
theorem Tf{ak:List (List Int × Int)}{k:List Int}{v:Int}(hn:(ak.map (·.1)).Nodup)(h:(k,v)∈ak):gO ak k=v:=by
 unfold gO
 cases hf:cA ak k with
 |none=>exact absurd rfl (lR hf _ h)
 |some i=>
  obtain⟨p,hp,e⟩:=fQ hf
  obtain⟨j,hj,e2⟩:=ads.1 h
  have hi:=(adi.1 hp).1
  have:i=j:=by
   have h1:(ak.map (·.1))[i]'(by simpa using hi)=(ak.map (·.1))[j]'(by simpa using hj):=by
    rw[afZ,afZ,e2]
    have:=(adi.1 hp).2
    rw[this,e]
   exact(agm hn).1 h1
  subst this
  simp only[hp,Option.map_some,Option.getD_some]
  have h2:=(adi.1 hp).2
  rw[e2]at h2
  rw[<- h2]
theorem Nw{ak:List (List Int × Int)}{k:List Int}(h:∀p∈ak,p.1≠k):gO ak k=0:=by
 unfold gO
 cases hf:cA ak k with
 |none=>rfl
 |some i=>
  obtain⟨p,hp,e⟩:=fQ hf
  exact absurd e (h p (adN hp))
theorem qb{ak:List (List Int × Int)}{i:Nat}{v:Int} :(mL ak i v).map (·.1)=ak.map (·.1):=by
 refine adZ fun j=> ?_
 rw[adn,adn,mL,afg]
 cases ak[j]? with
 |none=>rfl
 |some p=>by_cases h:i=j<;>simp[h]
theorem HA{ak:List (List Int × Int)}{i:Nat}{v:Int}{p:List Int × Int}(h:p∈mL ak i v):p∈ak\/p.2=v:=by
 obtain⟨j,hj,e⟩:=ads.1 h
 have h1:(mL ak i v)[j]? =some p:=by rw[acF hj,e]
 rw[mL,afg]at h1
 cases hq:ak[j]? with
 |none=>rw[hq]at h1;simp at h1
 |some q=>
  rw[hq]at h1
  by_cases hij:i=j
  ·simp[hij]at h1;right;rw[<- h1]
  ·simp[hij]at h1;left;rw[<- h1];exact adN hq
structure HB (ak:List (List Int × Int)) (j:Nat) (S:Int->Prop):Prop where
 nd:(ak.map (·.1)).Nodup
 mem:∀k,k∈ak.map (·.1)↔∃x,S x/\k= [x]
 lg:∀p∈ak,1<=p.2/\p.2<=j
theorem HB.val{ak:List (List Int × Int)}{j:Nat}{S:Int->Prop}(h:HB ak j S)(x:Int):0<=gO ak [x]/\gO ak [x]<=j/\(S x->1<=gO ak [x]):=by
 by_cases hx:S x
 ·have:=(h.mem [x]).2 ⟨x,hx,rfl⟩
  obtain⟨p,hp,e⟩:=adb.1 this
  have hr:=h.lg p hp
  have hv:gO ak [x]=p.2:=Tf h.nd (by rw[<- e];exact hp)
  rw[hv]
  exact⟨by omega,hr.2,fun _=>hr.1⟩
 ·have:gO ak [x]=0:=Nw fun p hp e=>by
   obtain⟨y,hy,e2⟩:=(h.mem p.1).1 (adb.2 ⟨p,hp,rfl⟩)
   rw[e]at e2
   have:x=y:=by injection e2
   subst this;exact hx hy
  rw[this]
  exact⟨by omega,by omega,fun h=>absurd h hx⟩
theorem HB.step{ak:List (List Int × Int)}{j:Nat}{S:Int->Prop}(h:HB ak j S)(x:Int):HB (zo ak [x] (gO ak [x]+1)) (j+1) (fun y=>S y\/y=x):=by
 obtain⟨v1,v2,v3⟩:=h.val x
 unfold zo eH jF
 cases hf:cA ak [x]with
 |some i=>
  simp only
  obtain⟨p,hp,e⟩:=fQ hf
  have hx:S x:=by
   obtain⟨y,hy,e2⟩:=(h.mem p.1).1 (adb.2 ⟨p,adN hp,rfl⟩)
   rw[e]at e2
   have:x=y:=by injection e2
   subst this;exact hy
  refine⟨by rw[qb];exact h.nd,fun k=> ?_,fun q hq=> ?_⟩
  ·rw[qb,h.mem]
   constructor
   ·rintro⟨y,hy,e⟩;exact⟨y, .inl hy,e⟩
   ·rintro⟨y,hy|hy,e⟩
    ·exact⟨y,hy,e⟩
    ·subst hy;exact⟨y,hx, ‹k= [y]›⟩
  ·rcases HA hq with h1|h1
   ·have:=h.lg q h1;omega
   ·omega
 |none=>
  simp only
  have hnk:([x]:List Int)∉ak.map (·.1):=fun hm=>by
   obtain⟨p,hp,e⟩:=adb.1 hm
   exact lR hf p hp e
  refine⟨?_,fun k=> ?_,fun q hq=> ?_⟩
  ·rw[qb,adt,adu]
   exact⟨h.nd,by simp,fun a ha b hb e=>by
    simp only[adD,adP,adv]at hb
    subst hb;subst e;exact hnk ha⟩
  ·rw[qb,adt,ac9,h.mem]
   simp only[adD,adP,adv]
   constructor
   ·rintro(⟨y,hy,e⟩|e)
    ·exact⟨y, .inl hy,e⟩
    ·exact⟨x, .inr rfl,e⟩
   ·rintro⟨y,hy|rfl,e⟩
    ·exact .inl ⟨y,hy,e⟩
    ·exact .inr e
  ·rcases HA hq with h1|h1
   ·rw[ac9,adv]at h1
    rcases h1 with h1|rfl
    ·have:=h.lg q h1;omega
    ·
     exfalso
     obtain⟨i,hi,e⟩:=ads.1 hq
     have h2:(mL (ak++ [([x],0)]) ak.length (gO ak [x]+1))[i]? =some ([x],0):=by rw[acF hi,e]
     rw[mL,afg]at h2
     by_cases hie:ak.length=i
     ·subst hie;simp at h2;omega
     ·simp only[hie,if_false]at h2
      rcases adk i ak.length with h3|h3
      ·rw[ady h3]at h2
       have h4:(([x],0):List Int × Int)∈ak:=by
        simp at h2;exact adN h2
       exact hnk (adb.2 ⟨_,h4,rfl⟩)
      ·rw[adp (by simp;omega)]at h2;simp at h2
   ·omega
section
variable {g:Gr} {p:Pl} (hrun:aG g p) (hI:q8 g=true) (h0:0<g.es.length) (YC:g.es.length<=60)
include hrun hI h0 YC
end
end Go.Ab
end
section
namespace Go.Ab
set_option maxRecDepth 10000
set_option linter.unusedSectionVars false
variable {P:PS}
section
variable (h:P.Ok)
include h
theorem Th{j:Nat}(hj:j<P.m){x:Int}(hx:x∈(P.st j).D):x∈(P.st (j+1)).D:=by
 obtain⟨B,hB,hc⟩:=mX h hj
 rcases hc with ⟨A',h1,h2,h3⟩|⟨h1,h3⟩
 ·rw[h3];exact ac9.2 (.inl hx)
 ·rw[h3];exact hx
theorem JS{j:Nat}{x:Int} :∀ {d:Nat},j+d<=P.m->x∈(P.st j).D->x∈(P.st (j+d)).D
 |0,_,hx=>hx
 |d+1,hj,hx=>Th h (j:=j+d) (by omega) (JS (d:=d) (by omega) hx)
theorem YD{i j:Nat}(hij:i<=j)(hj:j<=P.m){x:Int}(hx:x∈(P.st i).D):x∈(P.st j).D:=by
 obtain⟨d,rfl⟩:=afA hij
 exact JS h hj hx
theorem Ff{j:Nat}(hj:j<P.m):P.tl (P.sh j)∈(P.st j).D:=by
 obtain⟨B,hB⟩:=js h hj
 obtain⟨k,hr⟩:=pV h (agb hj)
 exact((h.eW hr (P.sh j)).1 (by rw[hB];simp)).2.1
theorem Wa{j:Nat}(hj:j<=P.m){e:Int}(he:P.E e)(hh:P.hd e∈(P.st j).D):P.tl e∈(P.st j).D:=by
 have h1:e∈P.xQ j:=((P.inv h j hj).sh e).2 ⟨he, .inr hh⟩
 obtain⟨i,hi,e1⟩:=PS.wZ.1 h1
 have:=Ff h (j:=i) (by omega)
 rw[e1]at this
 exact YD h (agb hi) hj this
theorem YE{j:Nat}(hj:j<=P.m){x y:Int}(hr:P.gD x y)(hy:y∈(P.st j).D):x∈(P.st j).D:=by
 induction hr with
 |refl=>exact hy
 |step _ he ih=>exact ih (Wa h hj he hy)
end
def PS.Zz(P:PS)(a b:Int):Prop:=∃j,j<=P.m/\a∈(P.st j).D/\b∉(P.st j).D
def PS.Ti(P:PS)(L R:Int->Int)(a b:Int):Prop:=∃u e f v,P.outs a=u++ [e]/\P.outs b=f::v/\P.Lp L R (R e) (L f)
section
variable (h:P.Ok) {L R:Int->Int} {f0 f1:Int} {low:Int->Int} (F:P.fM L R f0 f1 low)
include h F
theorem Q2{x e e':Int}(hx:x≠P.src)(he:e∈P.outs x)(he':e'∈P.outs x){i t k:Nat}(hi:P.sh i=e)(hk:P.sh k=e')(hkm:k<P.m)(h1:i<=t)(h2:t<=k):P.gD x (P.tl (P.sh t)):=by
 obtain⟨hE,ht⟩:=(h.bI x e).1 he
 obtain⟨hE',ht'⟩:=(h.bI x e').1 he'
 have N5:x∈(P.st i).D:=by have:=Ff h (j:=i) (by omega);rwa [hi,ht]at this
 obtain⟨q,A',B,h3,h4,h5,h6,h7,h8,h9⟩:=s9 h F hx (show i<=P.m by omega) N5
 obtain⟨v,w,hv⟩:=aeX he'
 have hB:(P.st (q+1)).B=v++e'::(w++B):=by rw[h9,hv];simp
 obtain⟨Z,hZ,hZ2⟩:=BD h F hkm (show q<k by omega) hB (fun z hz=>((h.bI x z).1 (by rw[hv];simp[hz])).2) ht' hk (t:=t) (by omega) h2
 by_cases Db:t=k
 ·subst Db;rw[hk,ht'];exact .refl
 ·cases Z with
  |nil=>
   exfalso
   obtain⟨B2,CI⟩:=js h (show t<P.m by omega)
   rw[hZ]at CI
   have:P.sh t=e':=by simpa using(af5 CI).1.symm
   exact Db (yj h (by omega) hkm (this.trans hk.symm))
  |cons z Z=>
   obtain⟨B2,CI⟩:=js h (show t<P.m by omega)
   rw[hZ]at CI
   have:P.sh t=z:=(af5 CI).1.symm
   rw[this]
   exact hZ2 z (by simp)
theorem Ad{a e:Int}(he:e∈P.outs a){y:Int}(hr:P.gD (P.hd e) y):P.gD a y:=by
 obtain⟨hE,ht⟩:=(h.bI a e).1 he
 have:P.gD a (P.tl e):=by rw[ht];exact .refl
 exact(PS.gD.step this hE).trans hr
theorem Nx{a b:Int}(ha:a≠P.src)(hb:b≠P.src)(hab:¬P.gD a b)(hba:¬P.gD b a)(ZA:P.outs a≠ [])(Km:P.outs b≠ []):P.Ti L R a b\/P.Ti L R b a:=by
 obtain⟨u,e,hu⟩:=iA ZA
 obtain⟨e',u',xN⟩:=jZ ZA
 obtain⟨v,f',hv⟩:=iA Km
 obtain⟨f,v',NU⟩:=jZ Km
 have m1:e∈P.outs a:=by rw[hu];simp
 have m2:e'∈P.outs a:=by rw[xN];simp
 have m3:f'∈P.outs b:=by rw[hv];simp
 have m4:f∈P.outs b:=by rw[NU];simp
 obtain⟨E1,t1⟩:=(h.bI a e).1 m1
 obtain⟨E2,t2⟩:=(h.bI a e').1 m2
 obtain⟨E3,t3⟩:=(h.bI b f').1 m3
 obtain⟨E4,t4⟩:=(h.bI b f).1 m4
 have hne:a≠b:=fun e1=>hab (e1 ▸ .refl)
 have c1:P.Lp L R (R e) (L f)\/P.Lp L R (R f) (L e):=by
  rcases Dl h F E1 E4 (fun e1=>hne (by rw[<- t1, <- t4,e1])) with g|g|g|g
  ·rw[t4]at g;exact absurd (Ad h F m1 g) hab
  ·rw[t1]at g;exact absurd (Ad h F m4 g) hba
  ·exact .inl g
  ·exact .inr g
 have c2:P.Lp L R (R e') (L f')\/P.Lp L R (R f') (L e'):=by
  rcases Dl h F E2 E3 (fun e1=>hne (by rw[<- t2, <- t3,e1])) with g|g|g|g
  ·rw[t3]at g;exact absurd (Ad h F m2 g) hab
  ·rw[t2]at g;exact absurd (Ad h F m3 g) hba
  ·exact .inl g
  ·exact .inr g
 rcases c1 with c1|c1
 ·exact .inl ⟨u,e,f,v',hu,NU,c1⟩
 rcases c2 with c2|c2
 rotate_left
 ·exact .inr ⟨v,f',e',u',hv,xN,c2⟩
 exfalso
 obtain⟨p1,q1,r1,r2,r3,r4⟩:=oy h F E4 E1 c1
 obtain⟨p2,q2,s1,s2,s3,s4⟩:=oy h F E2 E3 c2
 rcases adk p1 p2 with h1|h1
 ·have:=Q2 h F hb m4 m3 r3 s4 s2 (t:=p2) (by omega) (by omega)
  rw[s3,t2]at this;exact hba this
 ·have:=Q2 h F ha m2 m1 s3 r4 r2 (t:=p1) (by omega) (by omega)
  rw[r3,t4]at this;exact hab this
theorem Q3{a b:Int}(hl:P.Ti L R b a):∃p q e f,p<q/\q<P.m/\e∈P.outs b/\f∈P.outs a/\P.sh p=e/\P.sh q=f/\∃v,P.outs a=f::v:=by
 obtain⟨u,e,f,v,hu,hv,hp⟩:=hl
 have m1:e∈P.outs b:=by rw[hu];simp
 have m2:f∈P.outs a:=by rw[hv];simp
 obtain⟨i,j,h1,h2,h3,h4⟩:=oy h F ((h.bI b e).1 m1).1 ((h.bI a f).1 m2).1 hp
 exact⟨i,j,e,f,h1,h2,m1,m2,h3,h4,v,hv⟩
theorem Ae{a b:Int}(ha:a≠P.src)(hb:P.Zz a b)(hl:P.Ti L R b a):False:=by
 obtain⟨p,q,e,f,h1,h2,h3,h4,h5,h6,v,hv⟩:=Q3 h F hl
 obtain⟨j,hj,g1,g2⟩:=hb
 obtain⟨i,A',B,k1,k2,k3,k4,k5,k6,k7⟩:=s9 h F ha hj g1
 have hs:P.sh (i+1)=f:=by unfold PS.sh;rw[k7,hv];rfl
 have hq:q=i+1:=by
  by_cases hi:i+1<P.m
  ·exact yj h h2 hi (h6.trans hs.symm)
  ·exfalso
   have he:i+1=P.m:=by omega
   have:=S8 h F
   rw[<- he,k7,hv]at this
   simp at this
 have ht:=Ff h (j:=p) (by omega)
 rw[h5,((h.bI b e).1 h3).2]at ht
 exact g2 (YD h (by omega) hj ht)
theorem Lu{a b:Int}(ha:a≠P.src)(hb:b≠P.src)(hab:¬P.gD a b)(hba:¬P.gD b a)(ZA:P.outs a≠ [])(Km:P.outs b≠ [])(WV:P.Zz a b):P.Ti L R a b:=by
 rcases Nx h F ha hb hab hba ZA Km with h1|h1
 ·exact h1
 ·exact absurd h1 (Ae h F ha WV)
theorem Fg{a b:Int}(hr:P.gD a b)(hb:P.Zz b a):False:=by
 obtain⟨j,hj,h1,h2⟩:=hb
 exact h2 (YE h hj hr h1)
end
end Go.Ab
end
