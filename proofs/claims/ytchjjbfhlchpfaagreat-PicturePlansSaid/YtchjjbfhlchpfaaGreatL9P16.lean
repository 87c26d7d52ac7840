/- A part of the proof. -/
import Derived.Shelf.SlicesG.Cmp
import Derived.Deep.QuietTactic
import Derived.Deep.RegionHeld3
import Derived.WalkKit
import Derived.LoopNIn
import Derived.LoopIn
import Derived.Sort.WalkA
import Derived.Sort.Grow
import Derived.Shelf.SlSortCmp.NoneTotal
import Derived.Test.YtchjjbfhlchpfaaGreatL9P15
set_option linter.unusedSimpArgs false
set_option linter.unusedVariables false
section
namespace Go.Ab
open Go.Proofs Go.RowKit Go.Shelf Go.Lib Go.Sort
set_option maxRecDepth 10000
set_option maxHeartbeats 4000000
theorem yl (x y:Int) (W:World):Calls Tryz.prog 51 #[.int .i64 x, .int .i64 y] W fun e w'=>e= .returned (.int .i64 (compareInt x y))∧w'=W:=
 AnyG.cmp_Compare_int Tryz.Fh x y W
theorem A3 (W:World) (b:Nat) (c0 c1:Int) (h0:W.cell? ⟨b,0,none⟩=some (.int .i64 c0)) (h1:W.cell? ⟨b,1,none⟩=some (.int .i64 c1)):
 Calls Tryz.prog 50 #[.slice (some ⟨b,0,none⟩) 2 2] W fun e w'=>e= .returned (.int .i64 (if c0=0 then c1 else c0))∧w'=W:=by
 by_cases hc:c0=0
 ·subst hc
  rw [if_pos rfl]
  by_cases hd:c1=0
  ·subst hd
   go_enter Tryz.func50,Tryz.ntmps50
   go_wp2
   go_loopw [8] (fun i wr=>∃k:Nat,k≤2∧i= .int .i64 k∧wr=W) (fun i _=>2 - (Go.Proofs.intOf i).toNat)
   case atStart=>exact ⟨0,by omega,rfl,rfl⟩
   case round=>
    obtain ⟨k,hk,rfl,rfl⟩:=hrel
    match k,hk with
    |0,_=>
     go_wp2
     exact ⟨⟨1,by omega,rfl,trivial⟩,by decide⟩
    |1,_=>
     go_wp2
     exact ⟨⟨2,by omega,rfl,trivial⟩,by decide⟩
    |2,_=>
     go_wp2
     go_ret
     exact ⟨rfl,rfl⟩
  ·go_enter Tryz.func50,Tryz.ntmps50
   go_wp2
   go_loopw [8] (fun i wr=>∃k:Nat,k≤1∧i= .int .i64 k∧wr=W) (fun i _=>2 - (Go.Proofs.intOf i).toNat)
   case atStart=>exact ⟨0,by omega,rfl,rfl⟩
   case round=>
    obtain ⟨k,hk,rfl,rfl⟩:=hrel
    match k,hk with
    |0,_=>
     go_wp2
     exact ⟨⟨1,by omega,rfl,trivial⟩,by decide⟩
    |1,_=>
     go_wp2
     go_ret
     exact ⟨rfl,rfl⟩
 ·rw [if_neg hc]
  go_enter Tryz.func50,Tryz.ntmps50
  go_wp2
  go_loopw [8] (fun i wr=>i= .int .i64 0∧wr=W) (fun i _=>0)
  case atStart=>exact ⟨rfl,rfl⟩
  case round=>
   obtain ⟨rfl,rfl⟩:=hrel
   go_wp2
   go_ret
   exact ⟨rfl,rfl⟩
end Go.Ab
end
section
namespace Go.Ab
open Go.Proofs Go.RowKit Go.Shelf Go.Lib Go.Sort
set_option maxRecDepth 10000
set_option maxHeartbeats 4000000
def wX (p:Pt):Value:= .agg #[.int .i64 p.1, .int .i64 p.2]
theorem mK (p:Pt) (hp:bw p) (W:World):Calls Tryz.prog 159 #[wX p] W fun e w'=>e= .returned (.bool false)∧∃os',w'=grow W os':=by
 unfold wX
 have h1:max p.1 p.2≤262144:=by unfold bw at hp;omega
 have h2: -262144≤min p.1 p.2:=by unfold bw at hp;omega
 clear hp
 go_enter Tryz.func159,Tryz.ntmps159
 go_wp2
 go_ret
 refine ⟨?_,_,alloc_eq_grow _ _⟩
 show Ending.returned (.bool (decide (262144<max p.1 p.2)||decide (min p.1 p.2< -262144)))=_
 rw [decide_eq_false (by omega),decide_eq_false (by omega)];rfl
theorem A4 (a b c:Pt) (ha:bw a) (hb:bw b) (hc:bw c) (W:World) (blk:Nat) (h0:∀os,(grow W os).cell? ⟨blk,0,none⟩=some (.int .i64 a.1)) (h1:∀os,(grow W os).cell? ⟨blk,1,none⟩=some (.int .i64 a.2)) (h2:∀os,(grow W os).cell? ⟨blk,2,none⟩=some (.int .i64 b.1)) (h3:∀os,(grow W os).cell? ⟨blk,3,none⟩=some (.int .i64 b.2)) (h4:∀os,(grow W os).cell? ⟨blk,4,none⟩=some (.int .i64 c.1)) (h5:∀os,(grow W os).cell? ⟨blk,5,none⟩=some (.int .i64 c.2)):
 Calls Tryz.prog 185 #[.slice (some ⟨blk,0,none⟩) 3 3, .func (.func 159) #[] #[]] W fun e w'=>e= .returned (.int .i64 (-1))∧∃os',w'=grow W os':=by
 have ca:=mK a ha
 have cb:=mK b hb
 have cc:=mK c hc
 unfold wX at ca cb cc
 go_enter Tryz.func185,Tryz.ntmps185
 go_wp2
 go_loopw [8] (fun i wr=>∃k:Nat,k≤3∧i= .int .i64 k∧∃os,wr=grow W os) (fun i _=>3 - (Go.Proofs.intOf i).toNat)
 case atStart=>exact ⟨0,by omega,rfl, #[],(grow_empty W).symm⟩
 case round=>
  obtain ⟨k,hk,rfl,os,rfl⟩:=hrel
  have g0:=h0 os
  have g1:=h1 os
  have g2:=h2 os
  have g3:=h3 os
  have g4:=h4 os
  have g5:=h5 os
  clear h0 h1 h2 h3 h4 h5
  have q1:max a.1 a.2≤262144∧ -262144≤min a.1 a.2:=by unfold bw at ha;omega
  have q2:max b.1 b.2≤262144∧ -262144≤min b.1 b.2:=by unfold bw at hb;omega
  have q3:max c.1 c.2≤262144∧ -262144≤min c.1 c.2:=by unfold bw at hc;omega
  clear ha hb hc ca cb cc
  match k,hk with
  |0,_=>
   go_wp2
   all_goals first
    |(exfalso;omega)
    |exact ⟨⟨1,by omega,rfl,_,by rw [alloc_eq_grow,grow_grow]⟩,by decide⟩
  |1,_=>
   go_wp2
   all_goals first
    |(exfalso;omega)
    |exact ⟨⟨2,by omega,rfl,_,by rw [alloc_eq_grow,grow_grow]⟩,by decide⟩
  |2,_=>
   go_wp2
   all_goals first
    |(exfalso;omega)
    |exact ⟨⟨3,by omega,rfl,_,by rw [alloc_eq_grow,grow_grow]⟩,by decide⟩
  |3,_=>
   go_wp2
   go_ret
   exact ⟨rfl,os,rfl⟩
theorem bW (W:World) (os:Array Obj) (a:Addr) (h:a.block<W.heap.size):(grow W os).cell? a=W.cell? a:=by
 simp only [grow,World.cell?,Array.getElem?_append_left h]
theorem dV (w:World) (cs:Array Value) (e k i:Nat) (hk:k=w.heap.size):(w.alloc (.cells cs e)).cell? ⟨k,i,none⟩=cs[i]? :=by
 subst hk
 rw [alloc_eq_grow]
 simp only [grow,World.cell?]
 rw [Array.getElem?_append_right (Nat.le_refl _),Nat.sub_self]
 rfl
theorem A5 (a b c:Pt) (ha:bw a) (hb:bw b) (hc:bw c) (W:World) (blk:Nat) (hl:blk<W.heap.size) (h0:W.cell? ⟨blk,0,none⟩=some (.int .i64 a.1)) (h1:W.cell? ⟨blk,1,none⟩=some (.int .i64 a.2)) (h2:W.cell? ⟨blk,2,none⟩=some (.int .i64 b.1)) (h3:W.cell? ⟨blk,3,none⟩=some (.int .i64 b.2)) (h4:W.cell? ⟨blk,4,none⟩=some (.int .i64 c.1)) (h5:W.cell? ⟨blk,5,none⟩=some (.int .i64 c.2)):
 Calls Tryz.prog 101 #[.slice (some ⟨blk,0,none⟩) 3 3] W fun e w'=>e= .returned (.bool true)∧∃os',w'=grow W os':=by
 have hI:=A4 a b c ha hb hc W blk (fun os=>(bW W os _ hl).trans h0) (fun os=>(bW W os _ hl).trans h1) (fun os=>(bW W os _ hl).trans h2) (fun os=>(bW W os _ hl).trans h3) (fun os=>(bW W os _ hl).trans h4) (fun os=>(bW W os _ hl).trans h5)
 have hC:Calls Tryz.prog 145 #[.slice (some ⟨blk,0,none⟩) 3 3, .func (.func 159) #[] #[]] W fun e w'=>e= .returned (.bool false)∧∃os',w'=grow W os':=by
  go_enter Tryz.func145,Tryz.ntmps145
  go_wp2_with (go_at_call 185;refine hI.mono ?_;rintro e w' ⟨rfl,os',rfl⟩)
  go_ret
  exact ⟨rfl,os',rfl⟩
 clear hI h0 h1 h2 h3 h4 h5
 go_enter Tryz.func101,Tryz.ntmps101
 go_wp2_with (go_at_call 145;refine hC.mono ?_;rintro e w' ⟨rfl,os',rfl⟩)
 go_ret
 exact ⟨rfl,os',rfl⟩
theorem wY (a b c:Pt) (ha:bw a) (hb:bw b) (hc:bw c) (W:World):Calls Tryz.prog 102 #[wX a,wX b,wX c] W fun e w'=>e= .returned (.int .i64 (sd a b c))∧∃os',w'=grow W os':=by
 have hT:∀W,Calls Tryz.prog 160 #[wX a,wX b,wX a,wX c] W fun e w'=>e= .returned (.int .i64 (tm a b a c))∧∃os',w'=grow W os':=fun W=>by
  unfold wX tm
  obtain ⟨a1,a2⟩:=a
  obtain ⟨b1,b2⟩:=b
  obtain ⟨c1,c2⟩:=c
  simp only [bw] at ha hb hc
  simp only
  have m1:=ko (x:=b1 - a1) (y:=c2 - a2) (m:=524288) (n:=524288) (by omega) (by omega)
  have m2:=ko (x:=b2 - a2) (y:=c1 - a1) (m:=524288) (n:=524288) (by omega) (by omega)
  go_enter Tryz.func160,Tryz.ntmps160
  go_wp2
  go_ret
  refine ⟨rfl, ?_⟩
  simp only [alloc_eq_grow,grow_grow]
  exact ⟨_,rfl⟩
 have hK:∀(x y:Int) (W:World),Calls Tryz.prog 51 #[.int .i64 x, .int .i64 y] W fun e w'=>e= .returned (.int .i64 (compareInt x y))∧w'=W:=fun x y W=>AnyG.cmp_Compare_int Tryz.Fh x y W
 have hs:sd a b c=compareInt (tm a b a c) 0:=by
  unfold sd e9 compareInt
  repeat' split
  all_goals (first|rfl|omega)
 rw [hs]
 have hK:=hK (tm a b a c) 0
 generalize tm a b a c=t at*
 generalize compareInt t 0=r at*
 unfold wX at*
 go_enter Tryz.func102,Tryz.ntmps102
 go_wp2_with (first|(go_at_call 160;refine (hT _).mono ?_;rintro e w' ⟨rfl,os',rfl⟩)|(go_at_call 51;refine (hK _).mono ?_;rintro e w' ⟨rfl,rfl⟩))
 go_ret
 refine ⟨rfl, ?_⟩
 simp only [alloc_eq_grow,grow_grow]
 exact ⟨_,rfl⟩
theorem lR (w:World) (o:Obj) (a:Addr) (h:a.block<w.heap.size):(w.alloc o).cell? a=w.cell? a:=by
 rw [alloc_eq_grow];exact bW _ _ _ h
def Jv (p:Pt):Obj:= .cells #[.int .i64 p.1, .int .i64 p.2] 71
theorem ym (a b c:Pt) (ha:bw a) (hb:bw b) (hc:bw c) (W:World):Calls Tryz.prog 48 #[wX a,wX b,wX c] W fun e w'=>e= .returned (.int .i64 (sd a b c))∧∃os',w'=grow W os':=by
 obtain ⟨W3,Gq⟩:∃W3,((W.alloc (Jv a)).alloc (Jv b)).alloc (Jv c)=W3:=⟨_,rfl⟩
 obtain ⟨W4,A6⟩:∃W4,W3.alloc (.cells #[.int .i64 a.1, .int .i64 a.2, .int .i64 b.1, .int .i64 b.2, .int .i64 c.1, .int .i64 c.2] 71)=W4:=⟨_,rfl⟩
 have z3:W3.heap.size=W.heap.size+1+1+1:=by rw [← Gq];simp only [World.size_alloc]
 have z4:W4.heap.size=W.heap.size+1+1+1+1:=by rw [← A6,World.size_alloc,z3]
 have h1:=A5 a b c ha hb hc W4 (W.heap.size+1+1+1) (by omega) (by rw [← A6,dV _ _ _ _ _ z3.symm];rfl) (by rw [← A6,dV _ _ _ _ _ z3.symm];rfl) (by rw [← A6,dV _ _ _ _ _ z3.symm];rfl) (by rw [← A6,dV _ _ _ _ _ z3.symm];rfl) (by rw [← A6,dV _ _ _ _ _ z3.symm];rfl) (by rw [← A6,dV _ _ _ _ _ z3.symm];rfl)
 have c0:∀i,W4.cell? ⟨W.heap.size,i,none⟩= #[Value.int .i64 a.1, .int .i64 a.2][i]? :=fun i=>by
  rw [← A6,lR _ _ _ (by show W.heap.size<_;omega), ← Gq,lR _ _ _ (by simp only [World.size_alloc];omega),lR _ _ _ (by simp only [World.size_alloc];omega)]
  exact dV _ _ _ _ _ rfl
 have c1:∀i,W4.cell? ⟨W.heap.size+1,i,none⟩= #[Value.int .i64 b.1, .int .i64 b.2][i]? :=fun i=>by
  rw [← A6,lR _ _ _ (by show W.heap.size+1<_;omega), ← Gq,lR _ _ _ (by simp only [World.size_alloc];omega)]
  exact dV _ _ _ _ _ (by simp only [World.size_alloc])
 have c2:∀i,W4.cell? ⟨W.heap.size+1+1,i,none⟩= #[Value.int .i64 c.1, .int .i64 c.2][i]? :=fun i=>by
  rw [← A6,lR _ _ _ (by show W.heap.size+1+1<_;omega), ← Gq]
  exact dV _ _ _ _ _ (by simp only [World.size_alloc])
 have hW:∃os,W4=grow W os:=by
  rw [← A6, ← Gq]
  simp only [alloc_eq_grow,grow_grow]
  exact ⟨_,rfl⟩
 have xx:Calls Tryz.prog 101 #[.slice (some ⟨W.heap.size+1+1+1,0,none⟩) 3 3] W4 fun e w'=>e= .returned (.bool true)∧(∃os',grow W os'=w')∧w'.cell? ⟨W.heap.size,0,none⟩=some (.int .i64 a.1)∧w'.cell? ⟨W.heap.size,1,none⟩=some (.int .i64 a.2)∧w'.cell? ⟨W.heap.size+1,0,none⟩=some (.int .i64 b.1)∧w'.cell? ⟨W.heap.size+1,1,none⟩=some (.int .i64 b.2)∧w'.cell? ⟨W.heap.size+1+1,0,none⟩=some (.int .i64 c.1)∧w'.cell? ⟨W.heap.size+1+1,1,none⟩=some (.int .i64 c.2):=by
  refine h1.mono ?_
  rintro e w' ⟨he,os',rfl⟩
  obtain ⟨os,ho⟩:=hW
  refine ⟨he,⟨os++os',by rw [ho,grow_grow]⟩, ?_, ?_, ?_, ?_, ?_, ?_⟩
  ·rw [bW _ _ _ (by show W.heap.size<_;omega),c0];rfl
  ·rw [bW _ _ _ (by show W.heap.size<_;omega),c0];rfl
  ·rw [bW _ _ _ (by show W.heap.size+1<_;omega),c1];rfl
  ·rw [bW _ _ _ (by show W.heap.size+1<_;omega),c1];rfl
  ·rw [bW _ _ _ (by show W.heap.size+1+1<_;omega),c2];rfl
  ·rw [bW _ _ _ (by show W.heap.size+1+1<_;omega),c2];rfl
 rw [← A6, ← Gq] at xx
 clear h1 c0 c1 c2 hW z3 z4 A6 Gq W4 W3
 have h2:=fun W=>wY a b c ha hb hc W
 generalize sd a b c=r at*
 clear ha hb hc
 unfold Jv at*
 unfold wX at*
 go_enter Tryz.func48,Tryz.ntmps48
 go_wp2_with (first|(go_at_call 101;refine xx.mono ?_;rintro e w' ⟨rfl,⟨os',hw⟩,q0,q1,q2,q3,q4,q5⟩)|(go_at_call 102;refine (h2 _).mono ?_;rintro e w2 ⟨rfl,PA,PB⟩))
 go_ret
 refine ⟨rfl, ?_⟩
 rw [← hw,grow_grow]
 exact ⟨_,rfl⟩
theorem tv {W:World} {os:Array Obj} {a:Addr} {v:Value} (h:W.cell? a=some v):(grow W.drew os).cell? a=some v:=by
 by_cases hl:a.block<W.heap.size
 ·exact (bW W.drew os a hl).trans h
 ·unfold World.cell? at h
  rw [Array.getElem?_eq_none (Nat.le_of_not_lt hl)] at h
  cases h
theorem Dj (r:Int) (h: -1≤r∧r≤1):IntKind.i64.wrap (-r)= -r:=by
 have:r= -1∨r=0∨r=1:=by omega
 rcases this with rfl|rfl|rfl<;>decide
theorem Dk (a b c:Pt): -1≤sd a b c∧sd a b c≤1:=by
 unfold sd e9
 split
 ·decide
 ·split<;>decide
theorem Gs (W:World) (B Xb bp op lp cp bl ol ll cl x i k bi oi li ci bk ok lk ck:Nat) (P Li Lk:Pt) (hP:bw P) (Mt:bw Li) (Mu:bw Lk)
 (LG:W.cell? ⟨B,0,none⟩=some (.slice (some ⟨bp,op,none⟩) lp cp)) (uW:W.cell? ⟨B,1,none⟩=some (.slice (some ⟨bl,ol,none⟩) ll cl)) (hX:W.cell? ⟨Xb,0,none⟩=some (.int .i64 x))
 (hx:x<lp) (hi:i<ll) (hk:k<ll) (hi1:1<li) (zU:1<lk)
 (p0:W.cell? ⟨bp,op+x*2,none⟩=some (.int .i64 P.1)) (p1:W.cell? ⟨bp,op+x*2+1,none⟩=some (.int .i64 P.2))
 (si:W.cell? ⟨bl,ol+i,none⟩=some (.slice (some ⟨bi,oi,none⟩) li ci)) (sk:W.cell? ⟨bl,ol+k,none⟩=some (.slice (some ⟨bk,ok,none⟩) lk ck))
 (i0:W.cell? ⟨bi,oi+2,none⟩=some (.int .i64 Li.1)) (i1:W.cell? ⟨bi,oi+2+1,none⟩=some (.int .i64 Li.2)) (k0:W.cell? ⟨bk,ok+2,none⟩=some (.int .i64 Lk.1)) (k1:W.cell? ⟨bk,ok+2+1,none⟩=some (.int .i64 Lk.2)):
 Calls Tryz.prog 47 #[.int .i64 i, .int .i64 k, .pointer (some ⟨B,0,none⟩), .pointer (some ⟨Xb,0,none⟩)] W fun e w'=>e= .returned (.int .i64 (-(sd P Lk Li)))∧∃q os',w'=grow (W.drewN q) os':=by
 have h2:=fun W=>ym P Lk Li hP Mu Mt W
 have hn:=Dj _ (Dk P Lk Li)
 generalize sd P Lk Li=r at*
 clear hP Mt Mu
 have a1:(1:Int)<(li:Int):=by omega
 have a2:(1:Int)<(lk:Int):=by omega
 have a3:(1:Int)≤(li:Int):=by omega
 have a4:(1:Int)≤(lk:Int):=by omega
 have b1:(x:Int)<(lp:Int):=by omega
 have b2:(i:Int)<(ll:Int):=by omega
 have b3:(k:Int)<(ll:Int):=by omega
 unfold wX at h2
 go_enter Tryz.func47,Tryz.ntmps47
 go_wp2
 go_region_held3 (fun w'=>w'.cell? ⟨B,0,none⟩=some (.slice (some ⟨bp,op,none⟩) lp cp)∧w'.cell? ⟨B,1,none⟩=some (.slice (some ⟨bl,ol,none⟩) ll cl)∧w'.cell? ⟨Xb,0,none⟩=some (.int .i64 x)∧w'.cell? ⟨bp,op+x*2,none⟩=some (.int .i64 P.1)∧w'.cell? ⟨bp,op+x*2+1,none⟩=some (.int .i64 P.2)∧w'.cell? ⟨bl,ol+i,none⟩=some (.slice (some ⟨bi,oi,none⟩) li ci)∧w'.cell? ⟨bl,ol+k,none⟩=some (.slice (some ⟨bk,ok,none⟩) lk ck)∧w'.cell? ⟨bi,oi+2,none⟩=some (.int .i64 Li.1)∧w'.cell? ⟨bi,oi+2+1,none⟩=some (.int .i64 Li.2)∧w'.cell? ⟨bk,ok+2,none⟩=some (.int .i64 Lk.1)∧w'.cell? ⟨bk,ok+2+1,none⟩=some (.int .i64 Lk.2)) (first|(go_keep;done)|(repeat' (first|(refine And.intro ?_ ?_)|(exact tv (by assumption))|(show W.cell? _=_;assumption))))
  (first|(go_at_call 48;refine (h2 _).mono ?_;rintro e w' ⟨rfl,os',rfl⟩))
 go_wp2
 go_ret
 exact ⟨rfl,1,_,rfl⟩
theorem Gt (W:World) (B bp op lp cp i k:Nat) (Pi Pk:Pt)
 (LG:W.cell? ⟨B,0,none⟩=some (.slice (some ⟨bp,op,none⟩) lp cp)) (hi:i<lp) (hk:k<lp)
 (i0:W.cell? ⟨bp,op+i*2,none⟩=some (.int .i64 Pi.1)) (i1:W.cell? ⟨bp,op+i*2+1,none⟩=some (.int .i64 Pi.2)) (k0:W.cell? ⟨bp,op+k*2,none⟩=some (.int .i64 Pk.1)) (k1:W.cell? ⟨bp,op+k*2+1,none⟩=some (.int .i64 Pk.2)):
 Calls Tryz.prog 49 #[.int .i64 i, .int .i64 k, .pointer (some ⟨B,0,none⟩)] W fun e w'=>e= .returned (.int .i64 (if compareInt Pi.2 Pk.2=0 then compareInt Pi.1 Pk.1 else compareInt Pi.2 Pk.2))∧∃q os',w'=grow (W.drewN q) os':=by
 have b2:(i:Int)<(lp:Int):=by omega
 have b3:(k:Int)<(lp:Int):=by omega
 generalize Pi.1=f1 at*
 generalize Pi.2=y1 at*
 generalize Pk.1=f2 at*
 generalize Pk.2=y2 at*
 have h3:=fun W b=>A3 W b (compareInt y1 y2) (compareInt f1 f2)
 generalize (if compareInt y1 y2=0 then compareInt f1 f2 else compareInt y1 y2)=r at h3 ⊢
 go_enter Tryz.func49,Tryz.ntmps49
 go_wp2
 go_region_held3 (fun w'=>w'.cell? ⟨B,0,none⟩=some (.slice (some ⟨bp,op,none⟩) lp cp)∧w'.cell? ⟨bp,op+i*2,none⟩=some (.int .i64 f1)∧w'.cell? ⟨bp,op+i*2+1,none⟩=some (.int .i64 y1)∧w'.cell? ⟨bp,op+k*2,none⟩=some (.int .i64 f2)∧w'.cell? ⟨bp,op+k*2+1,none⟩=some (.int .i64 y2)) (first|(go_keep;done)|(repeat' (first|(refine And.intro ?_ ?_)|(exact tv (by assumption))|(show W.cell? _=_;assumption))))
  (first|(go_at_call 51;refine (yl _ _ _).mono ?_;rintro e w' ⟨rfl,rfl⟩)|(go_at_call 50;refine (h3 _ _ (by simp) (by simp)).mono ?_;rintro e w' ⟨rfl,rfl⟩))
 go_wp2
 go_ret
 exact ⟨rfl,1,_,by rw [alloc_eq_grow];rfl⟩
end Go.Ab
end
section
namespace Go.Ab
open Go.Proofs Go.RowKit Go.Shelf Go.Sort
set_option maxRecDepth 10000
theorem yo {α:Type} {R:α→α→Prop} {l m:List α} (hp:l.Perm m) (ha:∀a b,a∈l→b∈l→R a b→R b a→a=b) (h1:l.Pairwise R) (h2:m.Pairwise R):l=m:=by
 induction l generalizing m with
 |nil=>exact hp.symm.eq_nil.symm
 |cons a l ih=>
  cases m with
  |nil=>exact absurd hp.length_eq (by simp)
  |cons b m=>
   obtain ⟨a1,a2⟩:=List.pairwise_cons.1 h1
   obtain ⟨b1,b2⟩:=List.pairwise_cons.1 h2
   have hab:a=b:=by
    refine Classical.byContradiction fun hne=> ?_
    have ma:a∈b::m:=hp.mem_iff.1 (by simp)
    have mb:b∈a::l:=hp.mem_iff.2 (by simp)
    have ma:a∈m:=(List.mem_cons.1 ma).elim (fun e=>absurd e hne) id
    have N7:b∈l:=(List.mem_cons.1 mb).elim (fun e=>absurd e.symm hne) id
    exact hne (ha a b (by simp) mb (a1 b N7) (b1 a ma))
   subst hab
   rw [ih ((List.perm_cons a).1 hp) (fun c d hc hd=>ha c d (by simp [hc]) (by simp [hd])) a2 b2]
structure Bo (cf:Int→Int→Int) (l l':List Int):Prop where
 perm:l.Perm l'
 nd:l.Nodup
 ord:l'.Pairwise fun x y=>cf x y<0∧¬cf y x<0
 Jw:∀x∈l,¬cf x x<0
section
variable {cf:Int→Int→Int} {l l':List Int} (S:Bo cf l l')
include S
theorem Bo.idx {x:Int} (h:x∈l):∃i,i<l'.length∧l'.getD i 0=x:=by
 obtain ⟨i,hi,e⟩:=List.mem_iff_getElem.1 (S.perm.mem_iff.1 h)
 exact ⟨i,hi,by rw [List.getD_eq_getElem?_getD,List.getElem?_eq_getElem hi];exact e⟩
theorem Bo.lt {i j:Nat} (hi:i<l'.length) (hj:j<l'.length):cf (l'.getD i 0) (l'.getD j 0)<0↔i<j:=by
 rw [List.getD_eq_getElem?_getD,List.getElem?_eq_getElem hi,List.getD_eq_getElem?_getD,List.getElem?_eq_getElem hj,Option.getD_some,Option.getD_some]
 rcases Nat.lt_trichotomy i j with h|h|h
 ·have:=List.pairwise_iff_getElem.1 S.ord i j hi hj h
  exact ⟨fun _=>h,fun _=>this.1⟩
 ·subst h
  have:=S.Jw (l'[i]) (S.perm.mem_iff.2 (List.getElem_mem hi))
  exact ⟨fun h=>absurd h this,fun h=>by omega⟩
 ·have:=List.pairwise_iff_getElem.1 S.ord j i hj hi h
  exact ⟨fun h=>absurd h this.2,fun h=>by omega⟩
theorem Bo.swo:SWO (ltOf fun x y: {x // x∈l} =>cf x.1 y.1) where
 irrefl x:=decide_eq_false (S.Jw x.1 x.2)
 trans x y z h1 h2:=by
  obtain ⟨i,hi,ei⟩:=S.idx x.2
  obtain ⟨j,hj,ej⟩:=S.idx y.2
  obtain ⟨k,hk,ek⟩:=S.idx z.2
  simp only [ltOf,decide_eq_true_eq, ← ei, ← ej, ← ek,S.lt hi hj,S.lt hj hk,S.lt hi hk] at h1 h2 ⊢
  omega
 ntrans x y z h1 h2:=by
  obtain ⟨i,hi,ei⟩:=S.idx x.2
  obtain ⟨j,hj,ej⟩:=S.idx y.2
  obtain ⟨k,hk,ek⟩:=S.idx z.2
  simp only [ltOf,decide_eq_false_iff_not, ← ei, ← ej, ← ek,S.lt hi hj,S.lt hj hk,S.lt hi hk] at h1 h2 ⊢
  omega
theorem Bo.eq {d d':Array {x // x∈l}} [Inhabited {x // x∈l}] (hd:d.toList=l.attach) (hp:PermIn 0 d.size d d') (hs:SortedIn (ltOf fun x y: {x // x∈l} =>cf x.1 y.1) 0 d.size d'):d'.toList.map (·.1)=l':=by
 obtain ⟨h1,_,h3⟩:=hp
 have e1:d'.extract 0 d.size=d':=by rw [← h1];exact Array.extract_size
 have e2:d.extract 0 d.size=d:=Array.extract_size
 rw [e1,e2,hd] at h3
 have h4:(d'.toList.map (·.1)).Perm l:=by
  have:=h3.map (fun x: {x // x∈l} =>x.1)
  rwa [List.attach_map_subtype_val] at this
 refine yo (R:=fun x y=>¬cf y x<0) (h4.trans S.perm) (fun a b ha hb r1 r2=> ?_) ?_ (S.ord.imp fun h=>h.2)
 ·obtain ⟨i,hi,ei⟩:=S.idx (h4.mem_iff.1 ha)
  obtain ⟨j,hj,ej⟩:=S.idx (h4.mem_iff.1 hb)
  rw [← ei, ← ej,S.lt hj hi] at r1
  rw [← ei, ← ej,S.lt hi hj] at r2
  rw [← ei, ← ej,show i=j by omega]
 ·rw [List.pairwise_map,List.pairwise_iff_getElem]
  intro i j hi hj hij
  have:=hs i j (by omega) hij (by simpa [h1] using hj)
  rw [getElem!_pos d' j (by simpa using hj),getElem!_pos d' i (by simpa using hi)] at this
  simpa [ltOf] using this
end
def Dl (P:Program) (g:Nat) (cb:Array Value) (cf:Int→Int→Int) (l:List Int) (blk:Nat) (w:World):Prop:=
 ∀W:World,w.heap.size≤W.heap.size→(∀b,b<w.heap.size→b≠blk→W.heap[b]? =w.heap[b]?)→∀x,x∈l→∀y,y∈l→
  Calls P g (#[.int .i64 x, .int .i64 y]++cb) W fun e w'=>e= .returned (.int .i64 (cf x y))∧∃q os',w'=grow (W.drewN q) os'
theorem kY {α:Type} [Inhabited α] (enc:α→Value) (w:World) (blk m:Nat) (dk:Array α) (os:Array Obj) {b:Nat} (hb:b<w.heap.size) (hne:b≠blk):(sortWorld enc w blk 0 m dk os).heap[b]? =w.heap[b]? :=by
 show ((w.heap.modify blk _)++os)[b]? =_
 rw [Array.getElem?_append_left (by simpa using hb),Array.getElem?_modify,if_neg (by omega)]
theorem kZ {α:Type} [Inhabited α] (enc:α→Value) (w:World) (blk m:Nat) (dk:Array α) (os:Array Obj):w.heap.size≤(sortWorld enc w blk 0 m dk os).heap.size:=by
 show _≤((w.heap.modify blk _)++os).size
 simp
theorem sF {α:Type} [Inhabited α] (enc:α→Value) (w:World) (blk m:Nat) (dk:Array α) (os:Array Obj) {cur:Array Value} {e:TypeId} {fr:Nat × Nat} (hb:w.heap[blk]? =some (.cells cur e fr)):
 (sortWorld enc w blk 0 m dk os).heap[blk]? =some (.cells (putCells enc 0 dk cur) e fr):=by
 have hlt:blk<w.heap.size:=(Array.getElem?_eq_some_iff.1 hb).1
 show ((w.heap.modify blk _)++os)[blk]? =_
 rw [Array.getElem?_append_left (by simpa using hlt),Array.getElem?_modify,if_pos rfl,hb]
 rfl
theorem pG (g:Nat) (cb:Array Value) {cf:Int→Int→Int} {l l':List Int} (S:Bo cf l l') (hlen:l.length≤1000000) (eg:∀args w,(callFunc g args).run Tryz.prog w= .ok (.enter g args) w)
 (blk cap:Nat) (w:World) {cur:Array Value} {e:TypeId} (hb:w.heap[blk]? =some (.cells cur e (0,0))) (hc:∀i,i<l.length→cur[i]? =some (.int .i64 (l.getD i 0))) (hne:l≠ [])
 (hcmp:Dl Tryz.prog g cb cf l blk w):
 Calls Tryz.prog 46 #[.slice (some ⟨blk,0,none⟩) l.length cap, .func (.func g) #[] cb] w fun en w'=>en= .returned (.tuple #[])∧
  w'.os=w.os∧w'.tape=w.tape∧w'.output=w.output∧w.heap.size≤w'.heap.size∧(∀b,b<w.heap.size→b≠blk→w'.heap[b]? =w.heap[b]?)∧
  ∃cur',w'.heap[blk]? =some (.cells cur' e (0,0))∧cur'.size=cur.size∧∀i,i<l'.length→cur'[i]? =some (.int .i64 (l'.getD i 0)):=by
 have hlt:blk<w.heap.size:=(Array.getElem?_eq_some_iff.1 hb).1
 obtain ⟨a0,ha0⟩:∃a,a∈l:=by
  cases l with
  |nil=>exact absurd rfl hne
  |cons a l=>exact ⟨a,by simp⟩
 letI:Inhabited {x // x∈l} :=⟨⟨a0,ha0⟩⟩
 have hsz:(l.attach.toArray).size=l.length:=by simp
 have KY:∀j (hj:j<l.length),((l.attach.toArray)[j]!).1=l.getD j 0:=fun j hj=>by
  rw [getElem!_pos _ j (by simpa using hj),List.getD_eq_getElem?_getD,List.getElem?_eq_getElem hj]
  simp
 have hH:Holds (fun x: {x // x∈l} =>Value.int .i64 x.1) w blk 0 l.attach.toArray:=fun j hj=>by
  rw [hsz] at hj
  refine ⟨?_, ?_⟩
  ·show _=some (Value.int .i64 ((l.attach.toArray)[j]!).1)
   rw [Nat.zero_add,KY j hj, ← hc j hj]
   simp [World.cell?,hb]
  ·simp [World.frozen?,hb]
 have GK:CmpLays1 Tryz.prog g cb (fun x: {x // x∈l} =>Value.int .i64 x.1) (fun x y=>cf x.1 y.1) blk 0 (l.attach.toArray).size w:=fun m os dk _ x y=>
  hcmp _ (kZ ..) (fun b h1 h2=>kY _ _ _ _ _ _ h1 h2) x.1 x.2 y.1 y.2
 have IW:=Any.slices_SortFunc Tryz.Di (fun x: {x // x∈l} =>Value.int .i64 x.1) (fun _=>rfl) (fun x y=>cf x.1 y.1) S.swo g cb blk 0 cap l.attach.toArray w eg GK hH hlt (by rw [hsz];omega)
 rw [hsz] at IW
 refine Calls.mono IW ?_
 rintro en w' ⟨rfl,d',n,os,hp,hs,rfl⟩
 rw [← hsz] at hp hs
 have he:=S.eq (d:=l.attach.toArray) (by simp) hp hs
 have hds:d'.size=l.length:=by rw [hp.1,hsz]
 refine ⟨rfl,rfl,rfl,rfl,kZ ..,fun b h1 h2=>kY _ _ _ _ _ _ h1 h2,_,sF _ _ _ _ _ _ hb,by simp [putCells],fun i hi=> ?_⟩
 have hi2:i<l.length:=by rw [S.perm.length_eq];exact hi
 have hic:i<cur.size:=(Array.getElem?_eq_some_iff.1 (hc i hi2)).1
 simp only [putCells,Array.getElem?_mapIdx,Array.getElem?_eq_getElem hic,Option.map_some]
 rw [if_pos ⟨by omega,by omega⟩,Nat.sub_zero,getElem!_pos d' i (by omega)]
 have:l'.getD i 0=(d'[i]'(by omega)).1:=by
  rw [← he,List.getD_eq_getElem?_getD,List.getElem?_map,Array.getElem?_toList,Array.getElem?_eq_getElem (by omega)]
  rfl
 rw [this]
theorem gu (p:Option Addr) (cap:Nat) (fv:Value) (w:World):Calls Tryz.prog 46 #[.slice p 0 cap,fv] w fun e w'=>e= .returned (.tuple #[])∧w'=w:=
 AnyF.slices_SortFunc_none {Tryz.Di with} p cap fv w
end Go.Ab
end
section
namespace Go.Ab
open Go.Proofs Go.RowKit Go.Shelf Go.Sort
set_option maxRecDepth 10000
theorem LH {a b:AObj} (ha:a.isNest=false) (hb:b.isNest=false) {q:Nat} {o:AObj} (h:bz [(10000,a),(10001,b)] q=some o):(q=10000∧o=a)∨(q=10001∧o=b):=by
 have hl:look [(10000,a),(10001,b)] q=some o:=(gv (fun p hp=>by
  simp only [List.mem_cons,List.not_mem_nil,or_false] at hp
  rcases hp with rfl|rfl
  ·exact ha
  ·exact hb) h).1
 simp only [look] at hl
 split at hl
 ·rename_i e;cases hl;exact .inl ⟨e.symm,rfl⟩
 ·split at hl
  ·rename_i e;cases hl;exact .inr ⟨e.symm,rfl⟩
  ·cases hl
theorem yp {g:Nat} {cells:List AV} {cf:Int→Int→Int} {l l':List Int} (S:Bo cf l l') (hlen:l.length≤1000000) (eg:∀args w,(callFunc g args).run Tryz.prog w= .ok (.enter g args) w) (sn:AV.idss cells= [])
 (hcmp:∀(w:World) (E:Env) (B blk:Nat) (vs:List Value) (e:TypeId),w.heap[B]? =some (.cells vs.toArray e (0,0))→AVrs w E cells vs→B≠blk→E.z blk=0→Dl Tryz.prog g #[.pointer (some ⟨B,0,none⟩)] cf l blk w):
 Spec Tryz.prog 46 (Args [.ref 10000, .fn g [] [.ptr 10001 0]]) [(10000, .own 3 1 (l.map rI)),(10001, .box cells)] (.tup []) [(10000, .own 3 1 (l'.map rI)),(10001, .box cells)]:=by
 refine ⟨⟨Tryz.f46,_,Tryz.func46,by kernel_rfl,rfl⟩,fun E w vals hg hA=> ?_⟩
 obtain ⟨v,vs,rfl,h0,h3⟩:=hA
 obtain ⟨v2,N8,rfl,h1,h4⟩:=h3
 simp only [AVrs] at h4
 subst h4
 obtain ⟨us,us',rfl,h5,h6⟩:=h1
 obtain ⟨u,FI,rfl,h7,h8⟩:=h6
 simp only [AVrs] at h5 h8
 subst h5 h8
 obtain ⟨rfl,_⟩:=h0
 have o1:=hg.ir 10000 (.own 3 1 (l.map rI)) rfl
 obtain ⟨B,cs,e,g1,g2,g3,g4,g5⟩:=hg.ir 10001 (.box cells) rfl
 obtain ⟨B',hB,rfl⟩:=h7
 rw [g1] at hB
 cases hB
 obtain ⟨_,_,o2⟩:=o1
 have mL:l.length=l'.length:=S.perm.length_eq
 have hkeep:∀ {w':World},(∀b,0<E.z b→w'.heap[b]? =w.heap[b]?)→aH w E.z w' E.z:=fun h b=>⟨Nat.le_refl _,fun o ho=>by
  simp only [World.cell?,h b (by omega)]⟩
 rcases o2 with ⟨r0,r1,p,r2⟩|⟨b,cur,cap,r0,r1,r2,r3,r4,r5,r6,r7⟩
 ·have hl0:l= []:=List.map_eq_nil_iff.1 r1
  subst hl0
  have yq:l'= []:=S.perm.symm.eq_nil
  subst yq
  rw [r2]
  refine (gu p 0 _ w).mono ?_
  rintro en w' ⟨rfl,rfl⟩
  exact ⟨_,E,rfl,DM.refl _ _ _,hg,fun q o b hq hro hb=> .inr ⟨q,o,hq,hro,hb⟩,⟨[],rfl,rfl⟩⟩
 ·rw [List.length_map] at r2 r3
  rw [r2]
  by_cases hl0:l= []
  ·subst hl0
   have yq:l'= []:=S.perm.symm.eq_nil
   subst yq
   refine (gu _ cap _ w).mono ?_
   rintro en w' ⟨rfl,rfl⟩
   exact ⟨_,E,rfl,DM.refl _ _ _,hg,fun q o b hq hro hb=> .inr ⟨q,o,hq,hro,hb⟩,⟨[],rfl,rfl⟩⟩
  have hne:B≠b:=fun e=>by
   subst e
   have:=hg.inj 10000 10001 B (by simp [bD,look]) (by simp [bD,look]) r0 g1
   omega
  have Bg:b<w.heap.size:=(Array.getElem?_eq_some_iff.1 r1).1
  have Gu:∀i,i<l.length→cur[i]? =some (.int .i64 (l.getD i 0)):=fun i hi=>by
   obtain ⟨v,h1,h2⟩:=r7 i 0 (rI l[i]) (.sc (.int .i64 l[i])) (by simp [List.getElem?_eq_getElem hi]) rfl
   rw [uC h2] at h1
   simpa [List.getD_eq_getElem?_getD,List.getElem?_eq_getElem hi] using h1
  refine (pG g #[.pointer (some ⟨B,0,none⟩)] S hlen eg b cap w r1 Gu hl0 (hcmp w E B b cs e g2 g4 hne r6)).mono ?_
  rintro en w' ⟨rfl,k1,k2,k3,k4,k5,cur',k6,k7,k8⟩
  have hst:aH w E.z w' E.z:=hkeep fun q hq=>by
   by_cases LI:q<w.heap.size
   ·exact k5 q LI fun e=>by subst e;omega
   ·have:=hg.fresh q (by omega);omega
  have hs2:∀ {q o},bz [(10000, .own 3 1 (l'.map rI)),(10001, .box cells)] q=some o→(q=10000∧o= .own 3 1 (l'.map rI))∨(q=10001∧o= .box cells):=fun h=>LH rfl rfl h
  have IX:∀ {q:Nat},bz [(10000, .own 3 1 (l'.map rI)),(10001, .box cells)] q≠none→bz [(10000, .own 3 1 (l.map rI)),(10001, .box cells)] q≠none:=fun {q} h=>by
   obtain ⟨o,ho⟩:=Option.ne_none_iff_exists'.1 h
   rcases hs2 ho with ⟨rfl,_⟩|⟨rfl,_⟩
   ·simp [bD,look]
   ·simp [bD,look]
  refine ⟨_,E,rfl,⟨k1,k2,k3,k4,hst,fun q hq hnm=>⟨k5 q hq fun e=> ?_,rfl⟩,fun _ _=>⟨rfl,rfl⟩⟩,⟨fun q hq=> ?_,fun q q' c hq kq=>hg.inj q q' c (IX hq) (IX kq),fun q o hq=> ?_,fun q hq=>hg.fresh q (by omega)⟩,fun q o c hq hro hc=> ?_,⟨[],rfl,rfl⟩⟩
  ·subst e
   exact hnm ⟨10000,_,rfl,rfl,r0⟩
  ·simp only [look] at hq
   split at hq
   ·omega
   ·split at hq
    ·omega
    ·exact absurd rfl hq
  ·rcases hs2 hq with ⟨rfl,rfl⟩|⟨rfl,rfl⟩
   ·refine ⟨fun r hr=> ?_,by decide, .inr ⟨b,cur',cap,r0,k6, ?_, ?_,by rw [k7];exact r4,r5,r6,fun i j r x h1 h2=> ?_⟩⟩
    ·obtain ⟨v,_,rfl⟩:=List.mem_map.1 hr
     rfl
    ·rw [List.length_map, ← mL];exact r2
    ·rw [List.length_map, ← mL];exact r3
    ·rw [List.getElem?_map] at h1
     obtain ⟨v,h3,rfl⟩:=Option.map_eq_some_iff.1 h1
     cases j with
     |succ j=>simp [rI] at h2
     |zero=>
      simp only [rI,List.getElem?_cons_zero,Option.some.injEq] at h2
      subst h2
      have hi:i<l'.length:=(List.getElem?_eq_some_iff.1 h3).1
      refine ⟨_,by simpa using k8 i hi, ?_⟩
      rw [h3]
      exact .sc _ rfl
   ·have Fi:B<w.heap.size:=(Array.getElem?_eq_some_iff.1 g2).1
    exact ⟨B,cs,e,g1,(k5 B Fi hne).trans g2,g3,AVrs.mono ⟨hst,fun _ _=>rfl,fun _ _=>rfl⟩ (fun _ _=>trivial) (live:=fun _=>True) g4,g5⟩
  ·refine .inr ?_
   rcases hs2 hq with ⟨rfl,rfl⟩|⟨rfl,rfl⟩
   ·exact ⟨10000,_,rfl,rfl,hc⟩
   ·exact ⟨10001,_,rfl,rfl,hc⟩
end Go.Ab
end
section
namespace Go.Ab
open Go.Proofs Go.RowKit Go.Shelf Go.Sort
set_option maxRecDepth 10000
theorem LJ {a b c:AObj} (ha:a.isNest=false) (hb:b.isNest=false) (hc:c.isNest=false) {q:Nat} {o:AObj} (h:bz [(10000,a),(10001,b),(10002,c)] q=some o):(q=10000∧o=a)∨(q=10001∧o=b)∨(q=10002∧o=c):=by
 have hl:look [(10000,a),(10001,b),(10002,c)] q=some o:=(gv (fun p hp=>by
  simp only [List.mem_cons,List.not_mem_nil,or_false] at hp
  rcases hp with rfl|rfl|rfl
  ·exact ha
  ·exact hb
  ·exact hc) h).1
 simp only [look] at hl
 split at hl
 ·rename_i e;cases hl;exact .inl ⟨e.symm,rfl⟩
 ·split at hl
  ·rename_i e;cases hl;exact .inr (.inl ⟨e.symm,rfl⟩)
  ·split at hl
   ·rename_i e;cases hl;exact .inr (.inr ⟨e.symm,rfl⟩)
   ·cases hl
theorem wZ {g:Nat} {c1 c2:List AV} {cf:Int→Int→Int} {l l':List Int} (S:Bo cf l l') (hlen:l.length≤1000000) (eg:∀args w,(callFunc g args).run Tryz.prog w= .ok (.enter g args) w)
 (hcmp:∀(w:World) (E:Env) (B1 B2 blk:Nat) (v1 v2:List Value) (e1 e2:TypeId),w.heap[B1]? =some (.cells v1.toArray e1 (0,0))→w.heap[B2]? =some (.cells v2.toArray e2 (0,0))→AVrs w E c1 v1→AVrs w E c2 v2→B1≠blk→B2≠blk→E.z blk=0→Dl Tryz.prog g #[.pointer (some ⟨B1,0,none⟩), .pointer (some ⟨B2,0,none⟩)] cf l blk w):
 Spec Tryz.prog 46 (Args [.ref 10000, .fn g [] [.ptr 10001 0, .ptr 10002 0]]) [(10000, .own 3 1 (l.map rI)),(10001, .box c1),(10002, .box c2)] (.tup []) [(10000, .own 3 1 (l'.map rI)),(10001, .box c1),(10002, .box c2)]:=by
 refine ⟨⟨Tryz.f46,_,Tryz.func46,by kernel_rfl,rfl⟩,fun E w vals hg hA=> ?_⟩
 obtain ⟨v,vs,rfl,h0,h3⟩:=hA
 obtain ⟨v2,N8,rfl,h1,h4⟩:=h3
 simp only [AVrs] at h4
 subst h4
 obtain ⟨us,us',rfl,h5,h6⟩:=h1
 obtain ⟨u,FI,rfl,h7,h8⟩:=h6
 obtain ⟨u2,PC,rfl,h9,Jr⟩:=h8
 simp only [AVrs] at h5 Jr
 subst h5 Jr
 obtain ⟨rfl,_⟩:=h0
 have o1:=hg.ir 10000 (.own 3 1 (l.map rI)) rfl
 obtain ⟨B,cs,e,g1,g2,g3,g4,g5⟩:=hg.ir 10001 (.box c1) rfl
 obtain ⟨D,ds,e',G7,G8,JM,Mv,N9⟩:=hg.ir 10002 (.box c2) rfl
 obtain ⟨B',hB,rfl⟩:=h7
 rw [g1] at hB
 cases hB
 obtain ⟨D',hD,rfl⟩:=h9
 rw [G7] at hD
 cases hD
 obtain ⟨_,_,o2⟩:=o1
 have mL:l.length=l'.length:=S.perm.length_eq
 have hkeep:∀ {w':World},(∀b,0<E.z b→w'.heap[b]? =w.heap[b]?)→aH w E.z w' E.z:=fun h b=>⟨Nat.le_refl _,fun o ho=>by
  simp only [World.cell?,h b (by omega)]⟩
 rcases o2 with ⟨r0,r1,p,r2⟩|⟨b,cur,cap,r0,r1,r2,r3,r4,r5,r6,r7⟩
 ·have hl0:l= []:=List.map_eq_nil_iff.1 r1
  subst hl0
  have yq:l'= []:=S.perm.symm.eq_nil
  subst yq
  rw [r2]
  refine (gu p 0 _ w).mono ?_
  rintro en w' ⟨rfl,rfl⟩
  exact ⟨_,E,rfl,DM.refl _ _ _,hg,fun q o b hq hro hb=> .inr ⟨q,o,hq,hro,hb⟩,⟨[],rfl,rfl⟩⟩
 ·rw [List.length_map] at r2 r3
  rw [r2]
  by_cases hl0:l= []
  ·subst hl0
   have yq:l'= []:=S.perm.symm.eq_nil
   subst yq
   refine (gu _ cap _ w).mono ?_
   rintro en w' ⟨rfl,rfl⟩
   exact ⟨_,E,rfl,DM.refl _ _ _,hg,fun q o b hq hro hb=> .inr ⟨q,o,hq,hro,hb⟩,⟨[],rfl,rfl⟩⟩
  have hne:B≠b:=fun e=>by
   subst e
   have:=hg.inj 10000 10001 B (by simp [bD,look]) (by simp [bD,look]) r0 g1
   omega
  have A7:D≠b:=fun e=>by
   subst e
   have:=hg.inj 10000 10002 D (by simp [bD,look]) (by simp [bD,look]) r0 G7
   omega
  have Bg:b<w.heap.size:=(Array.getElem?_eq_some_iff.1 r1).1
  have Gu:∀i,i<l.length→cur[i]? =some (.int .i64 (l.getD i 0)):=fun i hi=>by
   obtain ⟨v,h1,h2⟩:=r7 i 0 (rI l[i]) (.sc (.int .i64 l[i])) (by simp [List.getElem?_eq_getElem hi]) rfl
   rw [uC h2] at h1
   simpa [List.getD_eq_getElem?_getD,List.getElem?_eq_getElem hi] using h1
  refine (pG g #[.pointer (some ⟨B,0,none⟩), .pointer (some ⟨D,0,none⟩)] S hlen eg b cap w r1 Gu hl0 (hcmp w E B D b cs ds e e' g2 G8 g4 Mv hne A7 r6)).mono ?_
  rintro en w' ⟨rfl,k1,k2,k3,k4,k5,cur',k6,k7,k8⟩
  have hst:aH w E.z w' E.z:=hkeep fun q hq=>by
   by_cases LI:q<w.heap.size
   ·exact k5 q LI fun e=>by subst e;omega
   ·have:=hg.fresh q (by omega);omega
  have hs2:∀ {q o},bz [(10000, .own 3 1 (l'.map rI)),(10001, .box c1),(10002, .box c2)] q=some o→(q=10000∧o= .own 3 1 (l'.map rI))∨(q=10001∧o= .box c1)∨(q=10002∧o= .box c2):=fun h=>LJ rfl rfl rfl h
  have IX:∀ {q:Nat},bz [(10000, .own 3 1 (l'.map rI)),(10001, .box c1),(10002, .box c2)] q≠none→bz [(10000, .own 3 1 (l.map rI)),(10001, .box c1),(10002, .box c2)] q≠none:=fun {q} h=>by
   obtain ⟨o,ho⟩:=Option.ne_none_iff_exists'.1 h
   rcases hs2 ho with ⟨rfl,_⟩|⟨rfl,_⟩|⟨rfl,_⟩
   ·simp [bD,look]
   ·simp [bD,look]
   ·simp [bD,look]
  refine ⟨_,E,rfl,⟨k1,k2,k3,k4,hst,fun q hq hnm=>⟨k5 q hq fun e=> ?_,rfl⟩,fun _ _=>⟨rfl,rfl⟩⟩,⟨fun q hq=> ?_,fun q q' c hq kq=>hg.inj q q' c (IX hq) (IX kq),fun q o hq=> ?_,fun q hq=>hg.fresh q (by omega)⟩,fun q o c hq hro hc=> ?_,⟨[],rfl,rfl⟩⟩
  ·subst e
   exact hnm ⟨10000,_,rfl,rfl,r0⟩
  ·simp only [look] at hq
   split at hq
   ·omega
   ·split at hq
    ·omega
    ·split at hq
     ·omega
     ·exact absurd rfl hq
  ·rcases hs2 hq with ⟨rfl,rfl⟩|⟨rfl,rfl⟩|⟨rfl,rfl⟩
   ·refine ⟨fun r hr=> ?_,by decide, .inr ⟨b,cur',cap,r0,k6, ?_, ?_,by rw [k7];exact r4,r5,r6,fun i j r x h1 h2=> ?_⟩⟩
    ·obtain ⟨v,_,rfl⟩:=List.mem_map.1 hr
     rfl
    ·rw [List.length_map, ← mL];exact r2
    ·rw [List.length_map, ← mL];exact r3
    ·rw [List.getElem?_map] at h1
     obtain ⟨v,h3,rfl⟩:=Option.map_eq_some_iff.1 h1
     cases j with
     |succ j=>simp [rI] at h2
     |zero=>
      simp only [rI,List.getElem?_cons_zero,Option.some.injEq] at h2
      subst h2
      have hi:i<l'.length:=(List.getElem?_eq_some_iff.1 h3).1
      refine ⟨_,by simpa using k8 i hi, ?_⟩
      rw [h3]
      exact .sc _ rfl
   ·have Fi:B<w.heap.size:=(Array.getElem?_eq_some_iff.1 g2).1
    exact ⟨B,cs,e,g1,(k5 B Fi hne).trans g2,g3,AVrs.mono ⟨hst,fun _ _=>rfl,fun _ _=>rfl⟩ (fun _ _=>trivial) (live:=fun _=>True) g4,g5⟩
   ·have Oa:D<w.heap.size:=(Array.getElem?_eq_some_iff.1 G8).1
    exact ⟨D,ds,e',G7,(k5 D Oa A7).trans G8,JM,AVrs.mono ⟨hst,fun _ _=>rfl,fun _ _=>rfl⟩ (fun _ _=>trivial) (live:=fun _=>True) Mv,N9⟩
  ·refine .inr ?_
   rcases hs2 hq with ⟨rfl,rfl⟩|⟨rfl,rfl⟩|⟨rfl,rfl⟩
   ·exact ⟨10000,_,rfl,rfl,hc⟩
   ·exact ⟨10001,_,rfl,rfl,hc⟩
   ·exact ⟨10002,_,rfl,rfl,hc⟩
end Go.Ab
end
section
namespace Go.Ab
open Go.Proofs
set_option maxRecDepth 10000
structure uQ (g:Gr) (p:Pl) (k:Nat) (e:Int):Prop where
 e0:0≤e
 e1:e<g.es.length
 low:uN g e∈p.ord.take k
 top:wT g e∉p.ord.take k
structure Mw (g:Gr) (p:Pl) (L:Nat→Int→Int→Prop):Prop where
 up:∀e:Int,0≤e→e<g.es.length→∀k,k<g.n.toNat→dM p k=wT g e→uN g e∈p.ord.take k
 PD:∀k,k<g.n.toNat→∀a b c:Int,uQ g p k a→uQ g p k b→uQ g p k c→wT g a=dM p k→wT g c=dM p k→L k a b→L k b c→wT g b=dM p k
 keep:∀k,k<g.n.toNat→∀a b:Int,uQ g p k a→uQ g p k b→wT g a≠dM p k→wT g b≠dM p k→L k a b→L (k+1) a b
 left:∀k,k<g.n.toNat→∀a b c:Int,uQ g p k a→uQ g p k b→wT g a≠dM p k→wT g b=dM p k→c∈oO p (dM p k)→L k a b→L (k+1) a c
 right:∀k,k<g.n.toNat→∀a b c:Int,uQ g p k a→uQ g p k b→wT g a≠dM p k→wT g b=dM p k→c∈oO p (dM p k)→L k b a→L (k+1) c a
 outs:∀k,k<g.n.toNat→(oO p (dM p k)).Pairwise (L (k+1))
section
variable {g:Gr} {p:Pl}
end
end Go.Ab
end
section
namespace Go.Ab
open Go.Proofs
attribute [local congr] ACall.congr gd.congr Nx.congr
set_option maxRecDepth 20000
set_option maxHeartbeats 8000000
def Jx (g:Gr) (st:List Int) (x:Nat) (l:List Int):Nat→List Int
 |0=>st
 |j+1=>(Jx g st x l j).set x (max ((Jx g st x l j).getD x 0) ((Jx g st x l j).getD (uN g (l.getD j 0)).toNat 0+1))
def Mx (g:Gr):Nat→List Int
 |0=>List.replicate g.n.toNat 0
 |k+1=>Jx g (Mx g k) ((Et g).getD k 0).toNat (aU (fun e=>e.2) g.es g.es.length ((Et g).getD k 0)) (aU (fun e=>e.2) g.es g.es.length ((Et g).getD k 0)).length
def My (g:Gr):List Int:=Mx g (Et g).length
end Go.Ab
end
section
namespace Go.Ab
open Go.Proofs
set_option maxRecDepth 10000
set_option linter.unusedSectionVars false
structure Ob (g:Gr) (st:List Int) (D:List Int):Prop where
 out:∀v:Nat,(v:Int)∉D→st.getD v 0=0
 up:∀i,i<g.es.length→hd g i∈D→st.getD (tl g i).toNat 0+1≤st.getD (hd g i).toNat 0
 why:∀v:Nat,(v:Int)∈D→st.getD v 0=0∨∃i,i<g.es.length∧hd g i=v∧st.getD v 0=st.getD (tl g i).toNat 0+1
end Go.Ab
end
section
namespace Go.Ab
set_option maxRecDepth 10000
set_option linter.unusedSectionVars false
variable {P:PS}
structure PS.Hi (P:PS) (R:Int→Int) (f0 f1:Int) (hi:Int→Int):Prop where
 mid:∀ {x u a b v},P.ins x=u++a::b::v→hi (R a)=x
 h0:hi f0=P.IE
 h1:hi f1=P.IE
def PS.PE (P:PS) (a:Int):Prop:=∃x u b v,P.outs x=u++a::b::v
section
variable (h:P.Ok) {L R:Int→Int} {f0 f1:Int} {low:Int→Int} (F:P.jx L R f0 f1 low)
include h F
theorem PS.Hi.Bm {hi:Int→Int} (H:P.Hi R f0 f1 hi):P.Bm.Hi L f1 f0 hi:=
 {mid:=fun {x u a b v} e=>by
   have e:=gD (show (P.ins x).reverse=_ from e)
   rw [← F.yf e];exact H.mid e
  h0:=H.h1
  h1:=H.h0}
variable {L' R':Int→Int} {Oc Od:Int} {low':Int→Int} (F':P.jx L' R' Oc Od low')
include F'
end
section
variable (h:P.Ok) {L R:Int→Int} {f0 f1:Int} {low:Int→Int} (F:P.jx L R f0 f1 low)
include h F
variable {hi:Int→Int} (H:P.Hi R f0 f1 hi)
include H
end
def LL (t h:Int→Int) (l:List Int) (x:Int):Int:=match l.find? (fun i=>decide (t i=x)) with
 |some i=>h i
 |none=>x
def LM (t h:Int→Int) (l:List Int) (x:Int):Nat→Int
 |0=>x
 |k+1=>LL t h l (LM t h l x k)
section
variable (h:P.Ok) {L R:Int→Int} {f0 f1:Int} {low:Int→Int} (F:P.jx L R f0 f1 low) {hi:Int→Int} (H:P.Hi R f0 f1 hi)
include h F H
end
end Go.Ab
end
section
namespace Go.Ab
open Go.Proofs
set_option maxRecDepth 10000
set_option linter.unusedSectionVars false
section
variable (g:Gr) (p:Pl)
def cK:Nat→Nat
 |0=>1
 |k+1=>cK k+((oO p (dM p k)).length - 1)
def Jy (e:Int):Nat:=(oO p (uN g e)).findIdx (fun i=>decide (i=e))
def w5 (x:Int):Int:=(lW g p x).headD 0
def IY (x:Int):Int:=(lW g p x).getLastD 0
def LK:Nat→Int→Int
 |0,_=>0
 |k+1,e=>if uN g e=dM p k then (if Jy g p e=0 then (if k=0 then 0 else LK k (w5 g p (dM p k))) else (cK p k:Int)+Jy g p e - 1) else LK k e
def RK (r:Int):Nat→Int→Int
 |0,_=>0
 |k+1,e=>if uN g e=dM p k then (if Jy g p e+1<(oO p (dM p k)).length then (cK p k:Int)+Jy g p e else (if k=0 then r else RK r k (IY g p (dM p k)))) else RK r k e
def Gv:Nat→List Int
 |0=> [dM p 0]
 |k+1=>Gv k++List.replicate ((oO p (dM p k)).length - 1) (dM p k)
end
section
variable {g:Gr} {p:Pl}
variable (h:jv g p)
include h
def WK (g:Gr) (p:Pl) (k:Nat):List Int:=(jE (fK g p k).row).map (·.1)
end
end Go.Ab
end
section
namespace Go.Ab
open Go.Proofs
attribute [local congr] ACall.congr gd.congr Nx.congr
set_option maxRecDepth 10000
set_option maxHeartbeats 8000000
def zM (A o:List Int) (f:Nat→Int):Nat→List Int
 |0=>A
 |j+1=>(zM A o f j).set (o.getD j 0).toNat (f j)
def Mz (A o:List Int) (left:Int) (c:Nat) (j:Nat):List Int:=zM A o (fun j=>if j=0 then left else (c:Int)+j - 1) j
def MA (A o:List Int) (right:Int) (c:Nat) (j:Nat):List Int:=zM A o (fun j=>if j+1<o.length then (c:Int)+j else right) j
def Fj (c k:Nat):List Int:=(List.range k).map fun i:Nat=>((c+i:Nat):Int)
def PF (left:Int) (c d j:Nat):Int:=if min j (d - 1)=0 then left else (c:Int)+(min j (d - 1):Nat) - 1
def PG (ed gp:D) (A B lo hi:List Int):List (Nat × AObj):= [(10000, .box [.d ed, .d gp, .ref 10001, .ref 10002, .ref 10003, .ref 10004]),(10001, .own 3 1 (A.map rI)),(10002, .own 3 1 (B.map rI)),(10003, .tip 3 1 (lo.map rI)),(10004, .own 3 1 (hi.map rI))]
def PI (ed gp:D) (A B lo hi:List Int):List (Nat × AObj):= [(10000, .box [.d ed, .d gp, .ref 10001, .ref 10002, .ref 10005, .ref 10006]),(10001, .own 3 1 (A.map rI)),(10002, .own 3 1 (B.map rI)),(10005, .tip 3 1 (lo.map rI)),(10006, .own 3 1 (hi.map rI))]
end Go.Ab
end
section
namespace Go.Ab
open Go.Proofs
attribute [local congr] ACall.congr gd.congr Nx.congr
set_option maxRecDepth 10000
set_option maxHeartbeats 8000000
def IZ (A fs:List Int) (x:Int) (j:Nat):List Int:=zM A fs (fun _=>x) j
end Go.Ab
end
section
namespace Go.Ab
open Go.Proofs
set_option maxRecDepth 10000
set_option linter.unusedSectionVars false
def arr (f:Int→Int) (m:Nat):List Int:=(List.range m).map fun i:Nat=>f (i:Int)
section
variable {g:Gr} {p:Pl} (h:jv g p)
include h
end
section
variable (g:Gr) (p:Pl)
def yu:Nat→List Int
 |0=>oO p (dM p 0)
 |j+1=>if oO p (dM p (j+1))= [] then yu j else (yu j).take (eY (yu j) (w5 g p (dM p (j+1)))).toNat++oO p (dM p (j+1))++(yu j).drop ((eY (yu j) (w5 g p (dM p (j+1)))).toNat+(lW g p (dM p (j+1))).length)
def I1:Nat→List Int
 |0=> [0]++Fj 1 ((oO p (dM p 0)).length - 1)++ [-1]
 |j+1=>(I1 j).take ((eY (yu g p j) (w5 g p (dM p (j+1)))).toNat+1)++Fj (cK p (j+1)) ((oO p (dM p (j+1))).length - 1)++(I1 j).drop ((eY (yu g p j) (w5 g p (dM p (j+1)))).toNat+(lW g p (dM p (j+1))).length)
def I2 (k:Nat):List Int:=((lW g p (dM p k)).dropLast).map (RK g p (-1) k)
def LN:Nat→List Int
 |0=> [dM p (g.n.toNat - 1)]
 |k+1=>IZ (LN k) (I2 g p k) (dM p k) (I2 g p k).length++List.replicate ((oO p (dM p k)).length - 1) 0
end
section
variable {g:Gr} {p:Pl}
variable (h:jv g p)
include h
end
end Go.Ab
end
section
namespace Go.Ab
open Go.Proofs
attribute [local congr] ACall.congr gd.congr Nx.congr
set_option maxRecDepth 10000
set_option maxHeartbeats 8000000
def swapT (l:List It) (k:Nat):List It:=(List.range l.length).map fun p=>if p<k∨l.length - 1<p+k then l.getD (l.length - 1 - p) (0,0,0) else l.getD p (0,0,0)
def MB (rs:List Int) (l:List It):Int:=match l.find? (fun t=>decide (t.2.2∈rs)) with
 |some t=>t.2.2
 |none=>rs.headD (-1)
end Go.Ab
end
section
namespace Go.Ab
open Go.Proofs
attribute [local congr] ACall.congr gd.congr Nx.congr
set_option maxRecDepth 10000
set_option maxHeartbeats 8000000
def PJ (b:Bool) (g:Gr) (p:Pl):List Int × List Int × Int:=
 if (uL b g p).2.1=0∧IP g=true then (Da g p false g.n.toNat,Da g p true g.n.toNat,0) else ([], [],1)
end Go.Ab
end
section
namespace Go.Ab
open Go.Proofs
attribute [local congr] ACall.congr gd.congr Nx.congr
set_option maxRecDepth 10000
set_option maxHeartbeats 8000000
end Go.Ab
end
section
namespace Go.Ab
open Go.Proofs
attribute [local congr] ACall.congr gd.congr Nx.congr
set_option maxRecDepth 60000
set_option maxHeartbeats 8000000
structure Fc where
 L:List Int
 R:List Int
 lo:List Int
 hi:List Int
def LO (g:Gr) (p:Pl) (f:Int):Int:=if f= -1 then (cK p g.n.toNat:Int) else f
def Oe (g:Gr) (p:Pl):Fc:=⟨arr (LK g p g.n.toNat) g.es.length,(arr (RK g p (-1) g.n.toNat) g.es.length).map (LO g p),Gv p g.n.toNat++ [dM p 0],LN g p g.n.toNat++ [dM p (g.n.toNat - 1)]⟩
def Of:Fc:=⟨[], [], [], []⟩
def PK (b:Bool) (g:Gr) (p:Pl):Fc × Int:=if ((uL b g p).2.1=0∧IP g=true)∧0<g.es.length then (Oe g p,0) else (Of,1)
def PL (f:Fc):AV:= .agg [.d (sI f.L), .d (sI f.R), .d (sI f.lo), .d (sI f.hi)]
def Og (l:List Int) (f:Int→Int) (j:Nat):List Int:=(l.take j).map f++l.drop j
end Go.Ab
end
section
namespace Go.Ab
open Go.Proofs
set_option maxRecDepth 10000
set_option linter.unusedSectionVars false
section
variable (g:Gr) (p:Pl)
def cN:Nat:=cK p g.n.toNat
def Lf (e:Int):Int:=LK g p g.n.toNat e
def Rf (e:Int):Int:=RK g p (cN g p) g.n.toNat e
def Oh:List Int:=Gv p g.n.toNat++ [dM p 0]
def Oi:List Int:=LN g p g.n.toNat++ [dM p (g.n.toNat - 1)]
def PM (f:Int):Int:=(Oh g p).getD f.toNat 0
def PN (f:Int):Int:=(Oi g p).getD f.toNat 0
end
section
variable {g:Gr} {p:Pl}
variable (h:jv g p) (hI:IP g=true)
include h hI
end
end Go.Ab
end
section
namespace Go.Ab
open Go.Proofs
set_option maxRecDepth 10000
def Dm (q:Nat→Bool):Nat→Nat
 |0=>0
 |n+1=>Dm q n ||| (if q n then 2 ^ n else 0)
theorem nP {q:Nat→Bool} {y:Nat} :∀ {n:Nat},(Dm q n).testBit y=(decide (y<n)&&q y)
 |0=>by simp [Dm]
 |n+1=>by
  rw [Dm,Nat.testBit_or,nP]
  by_cases h:y=n
  ·subst h
   cases hq:q y<;>simp [Nat.testBit_two_pow_self]
  ·have h2:(if q n then 2 ^ n else 0).testBit y=false:=by
    split
    ·rw [Nat.testBit_two_pow];exact decide_eq_false fun e=>h e.symm
    ·simp
   rw [h2,Bool.or_false]
   congr 1
   rw [decide_eq_decide];omega
inductive Bp (g:Gr) (both:Bool) (c:Nat→Bool) (x:Nat):Nat→Prop
 |refl:Bp g both c x x
 |fwd {i:Nat} :i<g.es.length→c i=true→Bp g both c x (tl g i).toNat→Bp g both c x (hd g i).toNat
 |MC {i:Nat} :i<g.es.length→c i=true→both=true→Bp g both c x (hd g i).toNat→Bp g both c x (tl g i).toNat
theorem Bp.trans {g:Gr} {both:Bool} {c:Nat→Bool} {x y z:Nat} (h1:Bp g both c x y) (h2:Bp g both c y z):Bp g both c x z:=by
 induction h2 with
 |refl=>exact h1
 |fwd a b _ ih=>exact .fwd a b ih
 |MC a b d _ ih=>exact .MC a b d ih
open Classical in
noncomputable def LP (g:Gr) (both:Bool) (c:Nat→Bool) (x:Nat):Nat:=Dm (fun y=>decide (Bp g both c x y)) g.n.toNat
noncomputable def Oj (g:Gr) (both:Bool) (c:Nat→Bool):List Nat:=(List.range g.n.toNat).map (LP g both c)
open Classical in
theorem Jz {g:Gr} {both:Bool} {c:Nat→Bool} {x y:Nat} :(LP g both c x).testBit y=true↔y<g.n.toNat∧Bp g both c x y:=by
 unfold LP
 rw [nP]
 simp
def I3 (g:Gr) (both:Bool) (c:Nat→Bool) (a:List Nat):Nat→List Nat × Bool
 |0=>(a,false)
 |k+1=>
  let s:=I3 g both c a k
  if c k=true then
   let t:=s.1.getD (tl g k).toNat 0 ||| s.1.getD (hd g k).toNat 0
   let h:=if both=true then t else s.1.getD (hd g k).toNat 0
   ((s.1.set (tl g k).toNat t).set (hd g k).toNat h,s.2||(decide (t≠s.1.getD (tl g k).toNat 0)||decide (h≠s.1.getD (hd g k).toNat 0)))
  else s
structure MD (g:Gr) (both:Bool) (c:Nat→Bool) (a:List Nat):Prop where
 len:a.length=g.n.toNat
 own:∀x,x<g.n.toNat→(a.getD x 0).testBit x=true
 snd:∀x y,x<g.n.toNat→(a.getD x 0).testBit y=true→y<g.n.toNat∧Bp g both c x y
theorem MD.lt {g:Gr} {both:Bool} {c:Nat→Bool} {a:List Nat} (h:MD g both c a) (hn:g.n.toNat≤64) (x:Nat):a.getD x 0<18446744073709551616:=by
 by_cases hx:x<g.n.toNat
 ·have:a.getD x 0<2 ^ 64:=Nat.lt_pow_two_of_testBit _ fun i hi=>by
   cases hb:(a.getD x 0).testBit i with
   |false=>rfl
   |true=>have:=(h.snd x i hx hb).1;omega
  simpa using this
 ·rw [List.getD_eq_getElem?_getD,List.getElem?_eq_none (by rw [h.len];omega)];simp
def Ol (a:List Nat):Nat:=a.foldr (· + ·) 0
end Go.Ab
end
section
namespace Go.Ab
open Go.Proofs
attribute [local congr] ACall.congr gd.congr Nx.congr
set_option maxRecDepth 20000
set_option maxHeartbeats 8000000
def rU (n:Nat):List D:= [.sc (.int .u64 (n:Int))]
def eU (n:Nat):AV:= .d (.sc (.int .u64 (n:Int)))
def sU (l:List Nat):D:= .sl 1 (l.map rU)
theorem getD_rU (ps:List Nat) (i:Nat):(ps.map rU).getD i [.sc (.int .u64 0)]= [.sc (.int .u64 ((ps.getD i 0:Nat):Int))]:=by
 rw [List.getD_eq_getElem?_getD,List.getElem?_map,List.getD_eq_getElem?_getD]
 cases ps[i]? <;>rfl
attribute [go_sem] eU sU getD_rU InU
end Go.Ab
end
section
namespace Go.Ab
open Go.Proofs
attribute [local congr] ACall.congr gd.congr Nx.congr
set_option maxRecDepth 20000
set_option maxHeartbeats 8000000
def LQ (k:Nat):List Nat:=(List.range k).map fun x=>2 ^ x
def ME (g:Gr):List Nat:=if aV g=true then LQ g.n.toNat else []
theorem zN {l:List Nat} :∀r∈l.map rU,∀x∈r,∃v,x=D.sc v:=by
 intro r hr x hx
 obtain ⟨y,_,rfl⟩:=List.mem_map.1 hr
 simp only [rU,List.mem_singleton] at hx
 exact ⟨_,hx⟩
noncomputable def PO (g:Gr):List Nat:=if aV g=true then Oj g false (fun _=>true) else []
end Go.Ab
end
section
namespace Go.Ab
open Go.Proofs
set_option maxRecDepth 10000
set_option linter.unusedSectionVars false
def Om (s:Nat) (x:Int):Bool:=decide (0≤x)&&decide (x<64)&&s.testBit x.toNat
section
variable {P:PS} (h:P.Ok) {L R:Int→Int} {f0 f1:Int} {low:Int→Int} (F:P.jx L R f0 f1 low)
def On (P:PS) (R:Int→Int) (f:Int):Nat→Nat
 |0=>0
 |j+1=>if R (P.sh j)=f then j+1 else On P R f j
include h F
end
section
variable (g:Gr) (p:Pl)
def Oo:Gr:=⟨(cN g p:Int)+1,(List.range g.es.length).map fun i:Nat=>(Lf g p i,Rf g p i)⟩
end
section
variable {g:Gr} {p:Pl}
variable (h:jv g p) (hI:IP g=true)
include h hI
end
end Go.Ab
end
section
namespace Go.Ab
open Go.Proofs
attribute [local congr] ACall.congr gd.congr Nx.congr
set_option maxRecDepth 10000
set_option maxHeartbeats 16000000
end Go.Ab
end
section
namespace Go.Ab
open Go.Proofs
attribute [local congr] ACall.congr gd.congr Nx.congr
set_option maxRecDepth 20000
set_option maxHeartbeats 8000000
end Go.Ab
end
section
namespace Go.Ab
open Go.Proofs
attribute [local congr] ACall.congr gd.congr Nx.congr
set_option maxRecDepth 20000
set_option maxHeartbeats 8000000
def PR (f:Fc) (k:Nat):List Edge:=(List.range k).map fun i:Nat=>(f.L.getD i 0,f.R.getD i 0)
def Oq (b:Bool) (g:Gr) (p:Pl):Bool:= !Lu g p&&IP g&&decide ((uL b g p).2.1=0)&&decide (0<(g.es.length:Int))&&decide ((g.es.length:Int)≤60)
def g18:Gr:=⟨4, [(0,1),(1,3),(0,2),(2,3)]⟩
def PT:Pl:=⟨[0,1,2,3], [[0,2], [1], [3], []]⟩
end Go.Ab
end
section
namespace Go.Ab
open Go.Proofs
attribute [local congr] ACall.congr gd.congr Nx.congr
set_option maxRecDepth 20000
set_option maxHeartbeats 16000000
structure Br where
 y:List Int
 fr:List Int
 to:List Int
 x:List Int
def I4 (b:Br):AV:= .agg [.d (sI b.y), .d (sI b.fr), .d (sI b.to), .d (sI b.x)]
section
variable (g:Gr) (p:Pl)
def JA (f:Int):Int:=(My (Oo g p)).getD f.toNat 0
def Ot (e:Int):Int:=JA g p (Lf g p e)
def Ou (l:List Int):Int:=if l= [] then 0 else JA g p (Lf g p (l.getD 0 0))
def toV (l:List Int):Int:=(if l= [] then JA g p (cN g p) else JA g p (Rf g p (l.getD (l.length - 1) 0))) - 1
def PU:Br:=⟨My g,p.outs.map (Ou g p),p.outs.map (toV g p),arr (Ot g p) g.es.length⟩
end
end Go.Ab
end
section
namespace Go.Ab
open Go.Proofs
attribute [local congr] ACall.congr gd.congr Nx.congr
set_option maxRecDepth 20000
set_option maxHeartbeats 16000000
def hasB (b:Br) (x:Nat) (q:Int):Bool:=decide (b.fr.getD x 0≤q)&&decide (q≤b.to.getD x 0)
def Ov (b:Br) (x z:Nat):Bool:=decide (b.y.getD z 0=b.y.getD x 0)&&decide (b.fr.getD z 0≤b.to.getD x 0)&&decide (b.fr.getD x 0≤b.to.getD z 0)
def Ow (b:Br) (x:Nat):Bool:=decide (b.fr.getD x 0≤b.to.getD x 0)&&(List.range x).all fun z=> !Ov b x z
def Gw (b:Br):Bool:=(List.range b.y.length).all (Ow b)
end Go.Ab
end
section
namespace Go.Ab
open Go.Proofs
attribute [local congr] ACall.congr gd.congr Nx.congr
set_option maxRecDepth 20000
set_option maxHeartbeats 32000000
def Fk (b:Br) (g:Gr):Bool:=decide ((b.y.length:Int)=g.n)&&decide ((b.fr.length:Int)=g.n)&&decide ((b.to.length:Int)=g.n)&&decide ((b.x.length:Int)=(g.es.length:Int))
def Ox (b:Br) (lo hi q:Int) (x:Nat):Bool:=decide (lo<b.y.getD x 0)&&decide (b.y.getD x 0<hi)&&hasB b x q
def Dn (b:Br) (s t:Nat) (q:Int):Bool:=decide (b.y.getD s 0<b.y.getD t 0)&&hasB b s q&&hasB b t q&&(List.range b.y.length).all fun x=> !Ox b (b.y.getD s 0) (b.y.getD t 0) q x
def Oy (g:Gr) (b:Br) (i k:Nat):Bool:=decide (b.x.getD k 0=b.x.getD i 0)&&decide (b.y.getD (tl g i).toNat 0<b.y.getD (hd g k).toNat 0)&&decide (b.y.getD (tl g k).toNat 0<b.y.getD (hd g i).toNat 0)
def Oz (g:Gr) (b:Br) (i:Nat):Bool:=Dn b (tl g i).toNat (hd g i).toNat (b.x.getD i 0)&&(List.range i).all fun k=> !Oy g b i k
def I5 (g:Gr) (b:Br):Bool:=decide ((dR g).1=0)&&Fk b g&&Gw b&&(List.range g.es.length).all (Oz g b)
end Go.Ab
end
section
namespace Go.Ab
open Go.Proofs
attribute [local congr] ACall.congr gd.congr Nx.congr
set_option maxRecDepth 20000
set_option maxHeartbeats 32000000
def OA (b:Br) (x z:Nat):Bool:= !decide ((x:Int)=(z:Int))&&decide (b.y.getD x 0=b.y.getD z 0)&& !(decide (b.to.getD x 0<b.fr.getD z 0)||decide (b.to.getD z 0<b.fr.getD x 0))
def OB (b:Br) (n x:Nat):Bool:=decide (b.fr.getD x 0≤b.to.getD x 0)&&(List.range n).all fun z=> !OA b x z
def OC (g:Gr) (b:Br) (i k:Nat):Bool:= !decide ((k:Int)=(i:Int))&&decide (b.x.getD k 0=b.x.getD i 0)&& !(decide (b.y.getD (hd g i).toNat 0≤b.y.getD (tl g k).toNat 0)||decide (b.y.getD (hd g k).toNat 0≤b.y.getD (tl g i).toNat 0))
def OD (g:Gr) (b:Br) (i:Nat):Bool:=Dn b (tl g i).toNat (hd g i).toNat (b.x.getD i 0)&&(List.range g.es.length).all fun k=> !OC g b i k
def GX (g:Gr) (b:Br):Bool:=decide ((dR g).1=0)&&Fk b g&&(List.range b.y.length).all (OB b b.y.length)&&(List.range g.es.length).all (OD g b)
end Go.Ab
end
section
namespace Go.Ab
open Go.Proofs
attribute [local congr] ACall.congr gd.congr Nx.congr
set_option maxRecDepth 20000
set_option maxHeartbeats 32000000
end Go.Ab
end
section
namespace Go.Ab
open Go.Proofs
attribute [local congr] ACall.congr gd.congr Nx.congr
set_option maxRecDepth 20000
set_option maxHeartbeats 8000000
def MF (g:Gr) (b:Br):Bool:=decide (80<(g.es.length:Int))||decide (70<(b.y.length:Int))||decide (70<(b.fr.length:Int))||decide (70<(b.to.length:Int))||decide (80<(b.x.length:Int))
end Go.Ab
end
section
namespace Go.Ab
open Go.Proofs
set_option maxRecDepth 10000
structure Gx (g:Gr) (b:Br):Prop where
 qj:(dR g).1=0
 ly:(b.y.length:Int)=g.n
 lf:(b.fr.length:Int)=g.n
 lt:(b.to.length:Int)=g.n
 lx:b.x.length=g.es.length
 PV:∀v,v<b.y.length→b.fr.getD v 0≤b.to.getD v 0
 apart:∀v,v<b.y.length→∀z,z<v→¬(b.y.getD z 0=b.y.getD v 0∧b.fr.getD z 0≤b.to.getD v 0∧b.fr.getD v 0≤b.to.getD z 0)
 up:∀i,i<g.es.length→b.y.getD (tl g i).toNat 0<b.y.getD (hd g i).toNat 0∧(b.fr.getD (tl g i).toNat 0≤b.x.getD i 0∧b.x.getD i 0≤b.to.getD (tl g i).toNat 0)∧(b.fr.getD (hd g i).toNat 0≤b.x.getD i 0∧b.x.getD i 0≤b.to.getD (hd g i).toNat 0)
 clear:∀i,i<g.es.length→∀v,v<b.y.length→¬(b.y.getD (tl g i).toNat 0<b.y.getD v 0∧b.y.getD v 0<b.y.getD (hd g i).toNat 0∧b.fr.getD v 0≤b.x.getD i 0∧b.x.getD i 0≤b.to.getD v 0)
 MG:∀i,i<g.es.length→∀k,k<i→¬(b.x.getD k 0=b.x.getD i 0∧b.y.getD (tl g i).toNat 0<b.y.getD (hd g k).toNat 0∧b.y.getD (tl g k).toNat 0<b.y.getD (hd g i).toNat 0)
def MH (b:Br):Br:=⟨b.y.map fun y=>3*y - 7,(List.range b.y.length).map fun v=>5*b.fr.getD v 0+1,(List.range b.y.length).map fun v=>5*b.to.getD v 0+2,b.x.map fun x=>5*x+1⟩
def MI (b:Br):Br:=⟨b.y,(List.range b.y.length).map fun v=> -b.to.getD v 0,(List.range b.y.length).map fun v=> -b.fr.getD v 0,b.x.map fun x=> -x⟩
end Go.Ab
end
section
namespace Go.Ab
open Go.Proofs
set_option maxRecDepth 10000
set_option linter.unusedSectionVars false
def yB (b:Br) (v:Int):Int:=b.y.getD v.toNat 0
def fB (b:Br) (v:Int):Int:=b.fr.getD v.toNat 0
def tB (b:Br) (v:Int):Int:=b.to.getD v.toNat 0
def xB (b:Br) (e:Int):Int:=b.x.getD e.toNat 0
def MJ (b:Br) (u v:Int):Prop:=yB b u<yB b v∨yB b u=yB b v∧fB b u<fB b v
structure Dp (g:Gr) (b:Br) (p:Pl):Prop where
 perm:p.ord.Perm (ef g.n.toNat)
 sort:p.ord.Pairwise (MJ b)
 len:p.outs.length=g.n.toNat
 outs:∀x:Nat,x<g.n.toNat→(p.outs.getD x []).Perm (cS g x)
 Dq:∀x:Nat,x<g.n.toNat→(p.outs.getD x []).Pairwise fun i k=>xB b i<xB b k
section
variable {g:Gr} {b:Br} {p:Pl} (h:Gx g b) (hp:Dp g b p)
include hp
theorem Dp.ok:fJ g p:=⟨hp.len,hp.perm,hp.outs⟩
theorem Dp.lt {j k:Nat} (hj:j<k) (hk:k<g.n.toNat):MJ b (dM p j) (dM p k):=by
 have hl:=gX hp.ok
 have:=List.pairwise_iff_getElem.1 hp.sort j k (by omega) (by omega) hj
 rw [dM,dM,List.getD_eq_getElem?_getD,List.getD_eq_getElem?_getD,List.getElem?_eq_getElem (by omega),List.getElem?_eq_getElem (by omega)]
 exact this
include h
end
end Go.Ab
end
section
namespace Go.Ab
open Go.Proofs
attribute [local congr] ACall.congr gd.congr Nx.congr
set_option maxRecDepth 10000
set_option maxHeartbeats 8000000
def MK (l:List Int) (k:Nat):List Int:=(List.range l.length).map fun p=>if p<k∨l.length - 1<p+k then l.getD (l.length - 1 - p) 0 else l.getD p 0
theorem uR (ps:List Int) (hl:ps.length≤1000000):
 Spec Tryz.prog 71 (Args [.d (sI ps)]) [] (.ref 10000) [(10000, .own 3 1 (ps.map rI))]:=by
 (refine Spec.HL (C:=T.cfg [5,7] []) (rs:= [.t 2]) [(10000,7)] (T.ai _ _) Tryz.func71 rfl rfl Tryz.ntmps71 Tryz.results71 (by simp [AObj.isNest]) (by simp [AObj.isNest]) (by first|(simp [look];done)|(simp [asN];done)|(intro l hl;simp only [asN];repeat (rw [if_neg (fun e=>by subst e;simp [look] at hl)]))) (by first|(simp [look];done)|(simp [asN];done)|(intro l hl;simp only [asN];repeat (rw [if_neg (fun e=>by subst e;simp [look] at hl)]))) (by kernel_rfl) T.mixed fun X hX hP hC aG b9=> ?_)
 repeat' (first|(show cD _ .ret _ _;(try simp only [go_sem,simprocAttr]);refine jO hX 2 7 (.own 3 1 []) ?_ ?_ (by decide) ⟨3,1,by decide, .inl rfl⟩ ?_;(iterate 2 (focus (simp only [go_sem,simprocAttr];done)));simp only [go_sem,simprocAttr])|refine Rn.p ?_|(with_reducible apply And.intro)|((first|(refine hK _ ?_;clear hK K)|with_reducible intro K hK|refine Rs.p ?_|((with_reducible first|apply oP|apply oQ);exact rfl));try simp only [go_sem,simprocAttr])|((with_reducible refine oD ?_ ?_);kernel_rfl)|((with_reducible intro h);try simp only [go_sem,simprocAttr] at h)|omega|intro h)
 exact h.symm
end Go.Ab
end
section
namespace Go.Ab
open Go.Proofs
attribute [local congr] ACall.congr gd.congr Nx.congr
set_option maxRecDepth 20000
set_option maxHeartbeats 16000000
theorem w6 (f:Edge→Int) (g:Gr) (hm:aV g=true) (x:Int) (hx:0≤x∧x<g.n):Spec Tryz.prog 98 (Args [.d (vw g), .d (.sl 1 (Eh f g)),eN x]) [] (.ref 10000) [(10000, .own 3 1 ((aU f g.es g.es.length x).map rI))]:=by
 rw [eZ]
 have hn:=bL hm
 have hl':(aU f g.es g.es.length x).length≤1000000:=by have:=gB (f:=f) (es:=g.es) (k:=g.es.length) (x:=x);omega
 have hv:=nr (f:=f) (g:=g) (x:=x.toNat) (by omega)
 have he:eL f g.es g.es.length x.toNat=aU f g.es g.es.length x:=by rw [nv,show ((x.toNat:Nat):Int)=x from by omega]
 rw [he] at hv
 have bC:decide (x<0)=false:=decide_eq_false (by omega)
 have bn:decide (g.n≤x)=false:=decide_eq_false (by omega)
 have OE:=uR (aU f g.es g.es.length x) hl'
 (refine Spec.HL (C:=T.cfg [] []) (rs:= [.t 6]) [(10000,22)] (T.ai _ _) Tryz.func98 rfl rfl Tryz.ntmps98 Tryz.results98 (by simp [AObj.isNest]) (by simp [AObj.isNest]) (by first|(simp [look];done)|(simp [asN];done)|(intro l hl;simp only [asN];repeat (rw [if_neg (fun e=>by subst e;simp [look] at hl)]))) (by first|(simp [look];done)|(simp [asN];done)|(intro l hl;simp only [asN];repeat (rw [if_neg (fun e=>by subst e;simp [look] at hl)]))) (by kernel_rfl) T.mixed fun X hX hP hC aG b9=> ?_)
 repeat' (first|refine Rn.p ?_|(with_reducible apply And.intro)|((first|(refine hK _ ?_;clear hK K)|with_reducible intro K hK|refine Rs.p ?_|((with_reducible first|apply oP|apply oQ);exact rfl)|(refine gm hX hC hP 22 (OE) rfl rfl rfl ?_ ?_ (by first|exact ⟨_,_,_,rfl,zj⟩|exact ⟨_,_,_,rfl,zk⟩|exact ⟨_,_,_,rfl,zN⟩) rfl (by decide) ?_;(iterate 2 (focus (simp only [go_sem,simprocAttr,hv,bC,bn];done)));simp only [go_sem,simprocAttr,hv,bC,bn]));try simp only [go_sem,simprocAttr,hv,bC,bn])|((with_reducible refine oD ?_ ?_);kernel_rfl)|((with_reducible intro h);try simp only [go_sem,simprocAttr,hv,bC,bn] at h)|omega|intro h)
theorem yw (g:Gr) (hm:aV g=true) (x:Int) (hx:0≤x∧x<g.n):Spec Tryz.prog 45 (Args [.d (vw g),eN x]) [] (.ref 10000) [(10000, .own 3 1 ((cS g x).map rI))]:=by
 have hT:=w6 (·.1) g hm x hx
 (refine Spec.HL (C:=T.cfg [] []) (rs:= [.t 4]) [(10000,11)] (T.ai _ _) Tryz.func45 rfl rfl Tryz.ntmps45 Tryz.results45 (by simp [AObj.isNest]) (by simp [AObj.isNest]) (by first|(simp [look];done)|(simp [asN];done)|(intro l hl;simp only [asN];repeat (rw [if_neg (fun e=>by subst e;simp [look] at hl)]))) (by first|(simp [look];done)|(simp [asN];done)|(intro l hl;simp only [asN];repeat (rw [if_neg (fun e=>by subst e;simp [look] at hl)]))) (by kernel_rfl) T.mixed fun X hX hP hC aG b9=> ?_)
 repeat' (first|refine Rn.p ?_|(with_reducible apply And.intro)|((first|(refine hK _ ?_;clear hK K)|with_reducible intro K hK|refine Rs.p ?_|((with_reducible first|apply oP|apply oQ);exact rfl)|(refine gm hX hC hP 11 (hT) rfl rfl rfl ?_ ?_ (by first|exact ⟨_,_,_,rfl,zj⟩|exact ⟨_,_,_,rfl,zk⟩|exact ⟨_,_,_,rfl,zN⟩) rfl (by decide) ?_;(iterate 2 (focus (simp only [go_sem,simprocAttr,eZ];done)));simp only [go_sem,simprocAttr,eZ]));try simp only [go_sem,simprocAttr,eZ])|((with_reducible refine oD ?_ ?_);kernel_rfl)|((with_reducible intro h);try simp only [go_sem,simprocAttr,eZ] at h)|omega|intro h)
 rfl
section
open Go.RowKit Go.Shelf Go.Sort Go.Lib
def PW (b:Br) (i k:Int):Int:=compareInt (xB b i) (xB b k)
def PX (b:Br) (u v:Int):Int:=if compareInt (yB b u) (yB b v)=0 then compareInt (fB b u) (fB b v) else compareInt (yB b u) (yB b v)
theorem zO {x y:Int} :compareInt x y<0↔x<y:=by
 unfold compareInt
 split
 ·simp [*]
 ·split<;>simp<;>omega
theorem zP {x y:Int} :compareInt x y=0↔x=y:=by
 unfold compareInt
 split
 ·simp;omega
 ·split<;>simp<;>omega
def PY (b:Br):List AV:= [.d (sI b.y), .d (sI b.fr), .d (sI b.to), .d (sI b.x)]
theorem bO {w W:World} {b o:Nat} {blk:Nat} (hW:∀b,b<w.heap.size→b≠blk→W.heap[b]? =w.heap[b]?) (hb:b<w.heap.size) (hne:b≠blk):W.cell? ⟨b,o,none⟩=w.cell? ⟨b,o,none⟩:=by
 simp only [World.cell?,hW b hb hne]
end
end Go.Ab
end
section
namespace Go.Ab
open Go.Proofs
attribute [local congr] ACall.congr gd.congr Nx.congr
set_option maxRecDepth 20000
set_option maxHeartbeats 16000000
section
open Go.RowKit Go.Shelf Go.Sort Go.Lib
def JB (d:Dr) (x i k:Int):Int:= -(sd (fq d x) (fe d k) (fe d i))
def JC (d:Dr) (u v:Int):Int:=if compareInt (fq d u).2 (fq d v).2=0 then compareInt (fq d u).1 (fq d v).1 else compareInt (fq d u).2 (fq d v).2
def A8 (d:Dr) (u v:Int):Prop:=(fq d u).2<(fq d v).2∨((fq d u).2=(fq d v).2∧(fq d u).1<(fq d v).1)
theorem yx {d:Dr} {x i k:Int} :JB d x i k<0↔j4 d x i k:=by
 unfold JB j4 DK sd e9
 split
 ·omega
 ·split<;>omega
theorem yy {d:Dr} {u v:Int} :JC d u v<0↔A8 d u v:=by
 unfold JC A8
 by_cases h:(fq d u).2=(fq d v).2
 ·rw [if_pos (zP.2 h),zO];omega
 ·rw [if_neg (fun e=>h (zP.1 e)),zO];omega
theorem zQ {w:World} {z:Nat→Nat} {v:Value} {l:List Pt} (h:Rd w z v (sP l)) (hne:l≠ []):∃b off cap,v= .slice (some ⟨b,off,none⟩) l.length cap∧b<w.heap.size∧0<z b∧∀j,j<l.length→w.cell? ⟨b,off+j*2,none⟩=some (.int .i64 (l.getD j (0,0)).1)∧w.cell? ⟨b,off+j*2+1,none⟩=some (.int .i64 (l.getD j (0,0)).2):=by
 generalize hx:sP l=x at h
 cases h with
 |sc v h=>cases hx
 |pt b off cells vs hz hc hr=>cases hx
 |nil p sz=>
  simp only [sP,D.sl.injEq,List.map_eq_nil_iff] at hx
  exact absurd hx.2 hne
 |sl b off n cap sz rows vs hn hsz hz hcap hc hr=>
  simp only [sP,D.sl.injEq] at hx
  obtain ⟨rfl,rfl⟩:=hx
  rw [List.length_map] at hn
  subst hn
  have hpos:0<l.length:=List.length_pos_iff.2 hne
  refine ⟨b,off,cap,rfl, ?_,by omega,fun j hj=>⟨?_, ?_⟩⟩
  ·have:=hc 0 (by omega)
   by_cases hlt:b<w.heap.size
   ·exact hlt
   ·exfalso
    simp [World.cell?,Array.getElem?_eq_none (Nat.le_of_not_lt hlt)] at this
  ·have h1:=hc (j*2+0) (by omega)
   have h2:=hr j 0 (rP l[j]) (.sc (.int .i64 l[j].1)) (by simp [List.getElem?_eq_getElem hj]) rfl
   have h3:=uC h2
   simp only [Nat.add_zero] at h1 h3
   rw [h1,h3]
   simp [List.getD_eq_getElem?_getD,List.getElem?_eq_getElem hj]
  ·have h1:=hc (j*2+1) (by omega)
   have h2:=hr j 1 (rP l[j]) (.sc (.int .i64 l[j].2)) (by simp [List.getElem?_eq_getElem hj]) rfl
   have h3:=uC h2
   rw [Nat.add_assoc,h1,h3]
   simp [List.getD_eq_getElem?_getD,List.getElem?_eq_getElem hj]
theorem Gy {w:World} {z:Nat→Nat} {v:Value} {l:List (List Pt)} (h:Rd w z v (sLn l)) (hne:l≠ []):∃b off cap,v= .slice (some ⟨b,off,none⟩) l.length cap∧b<w.heap.size∧0<z b∧∀j,j<l.length→∃u,w.cell? ⟨b,off+j,none⟩=some u∧Rd w z u (sP (l.getD j [])):=by
 generalize hx:sLn l=x at h
 cases h with
 |sc v h=>cases hx
 |pt b off cells vs hz hc hr=>cases hx
 |nil p sz=>
  simp only [sLn,vP,D.sl.injEq,List.map_eq_nil_iff] at hx
  exact absurd hx.2 hne
 |sl b off n cap sz rows vs hn hsz hz hcap hc hr=>
  simp only [sLn,vP,D.sl.injEq] at hx
  obtain ⟨rfl,rfl⟩:=hx
  rw [List.length_map] at hn
  subst hn
  have hpos:0<l.length:=List.length_pos_iff.2 hne
  refine ⟨b,off,cap,rfl, ?_,by omega,fun j hj=> ?_⟩
  ·have:=hc 0 (by omega)
   by_cases hlt:b<w.heap.size
   ·exact hlt
   ·exfalso
    simp [World.cell?,Array.getElem?_eq_none (Nat.le_of_not_lt hlt)] at this
  ·have h1:=hc j (by omega)
   have h2:=hr j 0 [sP l[j]] (sP l[j]) (by simp [List.getElem?_eq_getElem hj]) rfl
   simp only [Nat.mul_one,Nat.add_zero] at h2
   refine ⟨_,h1, ?_⟩
   rw [List.getD_eq_getElem?_getD,List.getElem?_eq_getElem hj]
   exact h2
def nQ (d:Dr):List AV:= [.d (sP d.pts), .d (sLn d.ls)]
theorem Ds {d:Dr} {w:World} {E:Env} {vs:List Value} (h:AVrs w E (nQ d) vs):∃v0 v1,vs= [v0,v1]∧Rd w E.z v0 (sP d.pts)∧Rd w E.z v1 (sLn d.ls):=by
 obtain ⟨v0,r0,rfl,h0,h⟩:=h
 obtain ⟨v1,r1,rfl,h1,h⟩:=h
 simp only [AVrs] at h
 subst h
 exact ⟨v0,v1,rfl,h0,h1⟩
theorem yz {g:Gr} {d:Dr} (R:sD g d) {x:Int} (hx0:0≤x∧x<g.n) {l l':List Int} (S:Bo (JB d x) l l') (hl:∀i∈l,0≤i∧i<g.es.length) (hlen:l.length≤1000000):
 Spec Tryz.prog 46 (Args [.ref 10000, .fn 47 [] [.ptr 10001 0, .ptr 10002 0]]) [(10000, .own 3 1 (l.map rI)),(10001, .box (nQ d)),(10002, .box [eN x])] (.tup []) [(10000, .own 3 1 (l'.map rI)),(10001, .box (nQ d)),(10002, .box [eN x])]:=by
 refine wZ S hlen (enters_of Tryz.func47 (by kernel_rfl) rfl) ?_
 intro w E B Xb blk v1 v2 e1 e2 hB hX hA LR hne A7 hz W hsz hW i hi k hk
 obtain ⟨va,vb,rfl,ha,hb⟩:=Ds hA
 obtain ⟨xv,r2,rfl,OF,EW⟩:=LR
 simp only [AVrs] at EW
 subst EW
 have OG:xv= .int .i64 x:=bg OF
 subst OG
 have hi2:=hl i hi
 have hk2:=hl k hk
 have hnl:=R.nl
 have hnp:=R.np
 obtain ⟨bp,op,cp,rfl,g1,g2,g3⟩:=zQ ha (fun e=>by rw [e] at hnp;simp at hnp;omega)
 obtain ⟨bl,ol,cl,rfl,g4,g5,g6⟩:=Gy hb (fun e=>by rw [e] at hnl;simp at hnl;omega)
 have Fi:B<w.heap.size:=(Array.getElem?_eq_some_iff.1 hB).1
 have IA:Xb<w.heap.size:=(Array.getElem?_eq_some_iff.1 hX).1
 obtain ⟨ui,c1,r1⟩:=g6 i.toNat (by omega)
 obtain ⟨uk,c2,r2⟩:=g6 k.toNat (by omega)
 have li:=R.len _ (eC R hi2.1 hi2.2)
 have lk:=R.len _ (eC R hk2.1 hk2.2)
 obtain ⟨bi,oi,ci,rfl,i1,i2,i3⟩:=zQ r1 (fun e=>by have:(r8 d i).length=0:=by unfold r8;rw [e];rfl
                                                  omega)
 obtain ⟨bk,ok,ck,rfl,k1,k2,k3⟩:=zQ r2 (fun e=>by have:(r8 d k).length=0:=by unfold r8;rw [e];rfl
                                                  omega)
 have nz:∀b,0<E.z b→b≠blk:=fun b hb e=>by rw [e] at hb;omega
 have hq:=g3 x.toNat (by omega)
 have hqi:=i3 1 (by show 1<(r8 d i).length;omega)
 have Ej:=k3 1 (by show 1<(r8 d k).length;omega)
 have OH:(d.ls.getD i.toNat []).getD 1 (0,0)=fe d i:=rfl
 have OI:(d.ls.getD k.toNat []).getD 1 (0,0)=fe d k:=rfl
 rw [OH] at hqi
 rw [OI] at Ej
 have iP:bw (fq d x):=R.LF _ (bf (by omega))
 have iI:bw (fe d i):=R.kJ _ (eC R hi2.1 hi2.2) _ (bf (by omega))
 have iK:bw (fe d k):=R.kJ _ (eC R hk2.1 hk2.2) _ (bf (by omega))
 have hc:=Gs W B Xb bp op d.pts.length cp bl ol d.ls.length cl x.toNat i.toNat k.toNat bi oi (d.ls.getD i.toNat []).length ci bk ok (d.ls.getD k.toNat []).length ck (fq d x) (fe d i) (fe d k) iP iI iK
  (by rw [bO hW Fi hne];simp [World.cell?,hB]) (by rw [bO hW Fi hne];simp [World.cell?,hB]) (by rw [bO hW IA A7];simp [World.cell?,hX];omega)
  (by omega) (by omega) (by omega) (by show 1<(r8 d i).length;omega) (by show 1<(r8 d k).length;omega)
  (by rw [bO hW g1 (nz _ g2)];exact hq.1) (by rw [bO hW g1 (nz _ g2)];exact hq.2)
  (by rw [bO hW g4 (nz _ g5)];exact c1) (by rw [bO hW g4 (nz _ g5)];exact c2)
  (by rw [bO hW i1 (nz _ i2)];exact hqi.1) (by rw [bO hW i1 (nz _ i2)];exact hqi.2) (by rw [bO hW k1 (nz _ k2)];exact Ej.1) (by rw [bO hW k1 (nz _ k2)];exact Ej.2)
 rw [show ((i.toNat:Nat):Int)=i by omega,show ((k.toNat:Nat):Int)=k by omega] at hc
 exact hc
theorem yA {g:Gr} {d:Dr} (R:sD g d) {l l':List Int} (S:Bo (JC d) l l') (hl:∀i∈l,0≤i∧i<g.n) (hlen:l.length≤1000000):
 Spec Tryz.prog 46 (Args [.ref 10000, .fn 49 [] [.ptr 10001 0]]) [(10000, .own 3 1 (l.map rI)),(10001, .box (nQ d))] (.tup []) [(10000, .own 3 1 (l'.map rI)),(10001, .box (nQ d))]:=by
 refine yp S hlen (enters_of Tryz.func49 (by kernel_rfl) rfl) rfl ?_
 intro w E B blk vs e hB hA hne hz W hsz hW i hi k hk
 obtain ⟨va,vb,rfl,ha,hb⟩:=Ds hA
 have hi2:=hl i hi
 have hk2:=hl k hk
 have hnp:=R.np
 obtain ⟨bp,op,cp,rfl,g1,g2,g3⟩:=zQ ha (fun e=>by rw [e] at hnp;simp at hnp;omega)
 have Fi:B<w.heap.size:=(Array.getElem?_eq_some_iff.1 hB).1
 have nz:∀b,0<E.z b→b≠blk:=fun b hb e=>by rw [e] at hb;omega
 have hqi:=g3 i.toNat (by omega)
 have Ej:=g3 k.toNat (by omega)
 have hc:=Gt W B bp op d.pts.length cp i.toNat k.toNat (fq d i) (fq d k) (by rw [bO hW Fi hne];simp [World.cell?,hB]) (by omega) (by omega)
  (by rw [bO hW g1 (nz _ g2)];exact hqi.1) (by rw [bO hW g1 (nz _ g2)];exact hqi.2) (by rw [bO hW g1 (nz _ g2)];exact Ej.1) (by rw [bO hW g1 (nz _ g2)];exact Ej.2)
 rw [show ((i.toNat:Nat):Int)=i by omega,show ((k.toNat:Nat):Int)=k by omega] at hc
 exact hc
end
structure rW (g:Gr) (d:Dr) (p:Pl):Prop where
 perm:p.ord.Perm (ef g.n.toNat)
 sort:p.ord.Pairwise (A8 d)
 len:p.outs.length=g.n.toNat
 outs:∀x:Nat,x<g.n.toNat→(p.outs.getD x []).Perm (cS g x)
 Dq:∀x:Nat,x<g.n.toNat→(p.outs.getD x []).Pairwise (j4 d x)
theorem A9 {g:Gr} {d:Dr} {p:Pl} (hp:rW g d p) {x:Nat} (hx:x<g.n.toNat):Bo (JB d x) (cS g x) (p.outs.getD x []):=
 {perm:=(hp.outs x hx).symm,nd:=iL,ord:=(hp.Dq x hx).imp fun h=>⟨yx.2 h,fun h2=>nO h (yx.1 h2)⟩,Jw:=fun i _ h=>by have:=yx.1 h;exact nO this this}
theorem Dt {g:Gr} {d:Dr} {p:Pl} (hp:rW g d p):Bo (JC d) (ef g.n.toNat) p.ord:=
 {perm:=hp.perm.symm,nd:=fG,ord:=hp.sort.imp fun h=>⟨yy.2 h,fun h2=>by have:=yy.1 h2;unfold A8 at*;omega⟩,Jw:=fun i _ h=>by have:=yy.1 h;unfold A8 at this;omega}
end Go.Ab
end
section
namespace Go.Ab
open Go.Proofs
attribute [local congr] ACall.congr gd.congr Nx.congr
set_option maxRecDepth 20000
set_option maxHeartbeats 16000000
theorem Ba {k:Nat} :(ef (k+1)).map rI=(ef k).map rI++ [rI (k:Int)]:=by simp [ef,List.range_succ]
end Go.Ab
end
section
namespace Go.Ab
open Go.Proofs
attribute [local congr] ACall.congr gd.congr Nx.congr
set_option maxRecDepth 20000
set_option maxHeartbeats 16000000
theorem yC (g:Gr) (d:Dr) (tI:g.es.length≤1000) (hp:d.pts.length≤1000) (hls:d.ls.length≤1000) (mL:∀l∈d.ls,l.length≤1000) (hno:(fF g d).1≠0):Spec Tryz.prog 16 (Args [eG g,eDr d]) [] (.tup [ePl ⟨[], []⟩,eN 3]) []:=by
 have hR:=dB g d tI hp hls mL
 have hb:decide ((fF g d).1=0)=false:=decide_eq_false hno
 (refine Spec.hd (C:=T.cfg [] []) (rs:= [.c 4 34, .t 5]) (T.ai _ _) Tryz.func16 rfl rfl Tryz.ntmps16 Tryz.results16 (by simp [AObj.isNest]) (by simp [AObj.isNest]) (by kernel_rfl) T.mixed fun X hX hP hC aG b9=> ?_)
 repeat' (first|refine Rn.p ?_|(with_reducible apply And.intro)|((first|(refine hK _ ?_;clear hK K)|with_reducible intro K hK|refine Rs.p ?_|((with_reducible first|apply oP|apply oQ);exact rfl)|refine aa hX hC hP (hR) rfl rfl rfl (by simp only [go_sem,simprocAttr,hb,vI,List.map_nil]) rfl ?_);try simp only [go_sem,simprocAttr,hb,vI,List.map_nil])|((with_reducible refine oD ?_ ?_);kernel_rfl)|((with_reducible intro h);try simp only [go_sem,simprocAttr,hb,vI,List.map_nil] at h)|omega|intro h)
theorem uS (g:Gr) (d:Dr) (p:Pl) (tI:g.es.length≤1000) (ij:d.pts.length≤1000) (hls:d.ls.length≤1000) (mL:∀l∈d.ls,l.length≤1000) (h0:(fF g d).1=0) (hp:rW g d p):Spec Tryz.prog 16 (Args [eG g,eDr d]) [] (.tup [ePl p,eN 0]) []:=by
 have hR:=dB g d tI ij hls mL
 obtain ⟨hc0,h⟩:=IV h0
 rw [hc0] at hR
 have hm:=dc h.qj
 have hn:=bL hm
 obtain ⟨N,hN⟩:∃N:Nat,g.n=N:=⟨g.n.toNat,by omega⟩
 have DL:g.n.toNat=N:=by omega
 have lo:p.outs.length=N:=by rw [hp.len,DL]
 have ML:=lE g hm
 have MM:=Dt hp
 rw [DL] at MM
 have OJ:=yA h MM (fun i hi=>by have:=cO.1 hi;omega) (by rw [dN];omega)
 have hO:=fun (x:Nat) (hx:x<N)=>yw g hm x ⟨by omega,by omega⟩
 have I6:=fun (x:Nat) (hx:x<N)=>yz h (x:=(x:Int)) ⟨by omega,by omega⟩ (A9 hp (x:=x) (by omega)) (fun i hi=>by have:=(gC hi).1;omega) (by have:=gB (f:=(·.1)) (es:=g.es) (k:=g.es.length) (x:=(x:Int));show (aU (·.1) g.es g.es.length (x:Int)).length≤_;omega)
 have LS:eG g= .agg [eN N, .d (sE g.es)]:=by rw [eG,hN]
 rw [LS] at hR ML ⊢
 have OK:eDr d= .agg [.d (sP d.pts), .d (sLn d.ls)]:=rfl
 (refine Spec.hd (C:=T.cfg [28] []) (rs:= [.c 4 34, .t 5]) (T.ai _ _) Tryz.func16 rfl rfl Tryz.ntmps16 Tryz.results16 (by simp [AObj.isNest]) (by simp [AObj.isNest]) (by kernel_rfl) T.mixed fun X hX hP hC aG b9=> ?_)
 repeat' (first|refine Rn.p ?_|(with_reducible apply And.intro)|((first|(refine hK _ ?_;clear hK K)|with_reducible intro K hK|refine Rs.p ?_|((with_reducible first|apply oP|apply oQ);exact rfl)|refine aa hX hC hP (hR) rfl rfl rfl (by simp only [go_sem,simprocAttr,nQ]) rfl ?_|refine aa hX hC hP (ML) rfl rfl rfl (by simp only [go_sem,simprocAttr,nQ]) rfl ?_);try simp only [go_sem,simprocAttr,nQ])|((with_reducible refine oD ?_ ?_);kernel_rfl)|((with_reducible intro h);try simp only [go_sem,simprocAttr,nQ] at h)|omega|intro h)
 (refine qE hX 7 0 200 (.own 3 1 []) rfl rfl rfl (by simp only [go_sem,simprocAttr,nQ]) (by decide) (by simp [go_sem,simprocAttr,nQ]) ⟨3,1,by decide, .inl rfl⟩ ?_;simp only [List.set_cons_zero,List.set_cons_succ,go_sem,simprocAttr,nQ])
 (refine qE hX 7 1 201 (.tip 31 1 []) rfl rfl rfl (by simp only [go_sem,simprocAttr,nQ]) (by decide) (by simp [go_sem,simprocAttr,nQ]) ⟨31,1,by decide, .inr rfl⟩ ?_;simp only [List.set_cons_zero,List.set_cons_succ,go_sem,simprocAttr,nQ])
 refine ag (fun k:Nat=>k≤N) (fun k=>⟨[(2, .ptr 2 0),(3, .ptr 3 0),(4, .ptr 4 0),(5,eN 0),(6, .d (vw g)),(7, .ptr 7 0),(20,eN N),(21,eN k)], [(2, .box [eN N, .d (sE g.es)]),(3, .box [.d (sP d.pts), .d (sLn d.ls)]),(4, .box [.nil 3, .nil 31]),(7, .box [.ref 200, .ref 201]),(200, .own 3 1 ((ef k).map rI)),(201, .tip 31 1 (vI (p.outs.take k)))]⟩) (fun k=>N - k) 0 (by omega) ?_ ?_
 ·refine Le.of ?_ ?_<;>simp [go_sem,simprocAttr,ef,vI]
 rintro k hk
 rcases Nat.lt_or_ge k N with b8|DA
 ·have hb:decide ((k:Int)<(N:Int))=true:=decide_eq_true (by omega)
  have hO:=hO k b8
  have I6:=I6 k b8
  have iE:vI (p.outs.take (k+1))=vI (p.outs.take k)++ [[sI (p.outs.getD k [])]]:=by
   simp only [vI];rw [x4 (d:= []) (show k<p.outs.length by omega)]
  have hna:=Ba (k:=k)
  have lS:(p.outs.take k).length=k:=by rw [List.length_take];omega
  have Du:(ef k).length=k:=dN
  generalize p.outs.getD k []=L at I6 iE
  generalize cS g (k:Int)=l at hO I6
  generalize G4:p.outs.take (k+1)=T2 at iE
  generalize p.outs.take k=T1 at iE lS
  generalize LR:(ef (k+1)).map rI=A2 at hna
  generalize ef k=A1 at hna Du
  repeat' (first|(show cD _ (.seq (.region 8 _ _) _) _ _;(refine tW hX 7 0 28 200 rfl rfl rfl (by first|exact .inl rfl|exact .inr rfl) (by decide) (by decide) ?_;simp only [List.set_cons_zero,List.set_cons_succ,go_sem,simprocAttr,hb,lS,Du,nQ]))|(show cD _ (.region 10 _ _) _ _;(refine cH hX 32 rfl (.inl rfl) ?_;simp only [go_sem,simprocAttr,hb,lS,Du,nQ]))|(show cD _ (.region 11 _ _) _ _;(refine tW hX 7 1 40 201 rfl rfl rfl (by first|exact .inl rfl|exact .inr rfl) (by decide) (by decide) ?_;simp only [List.set_cons_zero,List.set_cons_succ,go_sem,simprocAttr,hb,lS,Du,nQ]))|refine Rn.p ?_|(with_reducible apply And.intro)|((first|(refine hK _ ?_;clear hK K)|with_reducible intro K hK|refine Rs.p ?_|((with_reducible first|apply oP|apply oQ);exact rfl)|(refine gm hX hC hP 32 (hO) rfl rfl rfl ?_ ?_ (by first|exact ⟨_,_,_,rfl,zj⟩|exact ⟨_,_,_,rfl,zk⟩|exact ⟨_,_,_,rfl,zN⟩) rfl (by decide) ?_;(iterate 2 (focus (simp only [go_sem,simprocAttr,hb,lS,Du,nQ];done)));simp only [go_sem,simprocAttr,hb,lS,Du,nQ])|(refine bN hX hC hP [(10000,32),(10001,3),(10002,8)] (I6) rfl rfl rfl ?_ ?_ ?_ ?_ ?_ ?_ ?_ ?_ ?_ ?_ ?_ ?_ ?_ ?_;(focus (simp only [go_sem,simprocAttr,hb,lS,Du,nQ];done));(iterate 12 (focus (simp [go_sem,simprocAttr,hb,lS,Du,nQ];done)));try simp only [List.map_cons,List.map_nil]));try simp only [go_sem,simprocAttr,hb,lS,Du,nQ])|((with_reducible refine oD ?_ ?_);kernel_rfl)|((with_reducible intro h);try simp only [go_sem,simprocAttr,hb,lS,Du,nQ] at h)|omega|intro h)
  refine ⟨k+1,by omega, ?_,by omega⟩
  rw [LR,G4,hna,iE]
  refine Le.of ?_ ?_<;>simp [go_sem,simprocAttr,hb,lS,Du,nQ,rI]
 have hb:decide ((k:Int)<(N:Int))=false:=decide_eq_false (by omega)
 obtain rfl:k=N:=by omega
 rw [show p.outs.take k=p.outs by rw [← lo];exact List.take_length]
 generalize ef k=A1 at*
 repeat' (first|refine Rn.p ?_|(with_reducible apply And.intro)|((first|(refine hK _ ?_;clear hK K)|with_reducible intro K hK|refine Rs.p ?_|((with_reducible first|apply oP|apply oQ);exact rfl)|(refine bN hX hC hP [(10000,200),(10001,3)] (OJ) rfl rfl rfl ?_ ?_ ?_ ?_ ?_ ?_ ?_ ?_ ?_ ?_ ?_ ?_ ?_ ?_;(focus (simp only [go_sem,simprocAttr,hb,nQ];done));(iterate 12 (focus (simp [go_sem,simprocAttr,hb,nQ];done)));try simp only [List.map_cons,List.map_nil]));try simp only [go_sem,simprocAttr,hb,nQ])|((with_reducible refine oD ?_ ?_);kernel_rfl)|((with_reducible intro h);try simp only [go_sem,simprocAttr,hb,nQ] at h)|omega|intro h)
end Go.Ab
end
section
namespace Go.Ab
open Go.Proofs
attribute [local congr] ACall.congr gd.congr Nx.congr
set_option maxRecDepth 20000
set_option maxHeartbeats 16000000
theorem yD (g:Gr) (x:Int) (hl:g.es.length≤1000):Spec Tryz.prog 56 (Args [eG g,eN x,eB true]) [] (.ref 10000) [(10000, .own 3 1 ((cS g x).map rI))]:=by
 (refine Spec.HL (C:=T.cfg [9,45] []) (rs:= [.t 6]) [(10000,45)] (T.ai _ _) Tryz.func56 rfl rfl Tryz.ntmps56 Tryz.results56 (by simp [AObj.isNest]) (by simp [AObj.isNest]) (by first|(simp [look];done)|(simp [asN];done)|(intro l hl;simp only [asN];repeat (rw [if_neg (fun e=>by subst e;simp [look] at hl)]))) (by first|(simp [look];done)|(simp [asN];done)|(intro l hl;simp only [asN];repeat (rw [if_neg (fun e=>by subst e;simp [look] at hl)]))) (by kernel_rfl) T.mixed fun X hX hP hC aG b9=> ?_)
 repeat' (first|refine Rn.p ?_|(with_reducible apply And.intro)|((first|(refine hK _ ?_;clear hK K)|with_reducible intro K hK|refine Rs.p ?_|((with_reducible first|apply oP|apply oQ);exact rfl));try simp only [go_sem,simprocAttr])|((with_reducible refine oD ?_ ?_);kernel_rfl)|((with_reducible intro h);try simp only [go_sem,simprocAttr] at h)|omega|intro h)
 (refine qD hX 7 9 45 (by simp only [go_sem,simprocAttr]) rfl (by first|exact .inl rfl|exact .inr rfl) (by decide) ?_;simp only [go_sem,simprocAttr])
 refine ag (fun k:Nat=>k≤g.es.length) (fun k=>⟨[(1,eN x),(2,eB true),(3, .ptr 3 0),(8,eN k),(7, .ref 45)], [(3, .box [eN g.n, .d (sE g.es)]),(45, .own 3 1 ((aU (·.1) g.es k x).map rI))]⟩) (fun k=>g.es.length - k) 0 (by simp) ?_ ?_
 ·refine Le.of ?_ ?_<;>simp [go_sem,simprocAttr,aU]
 rintro k hk
 rcases Nat.lt_or_ge k g.es.length with hlt|hge
 ·have hb:decide ((k:Int)<(g.es.length:Int))=true:=decide_eq_true (by omega)
  have mL:=gB (f:=(·.1)) (es:=g.es) (k:=k) (x:=x)
  have iE:aU (·.1) g.es (k+1) x=aU (·.1) g.es k x++if (g.es.getD k (0,0)).1=x then [(k:Int)] else []:=mE
  repeat' (first|refine Rn.p ?_|(with_reducible apply And.intro)|((first|(refine hK _ ?_;clear hK K)|with_reducible intro K hK|refine Rs.p ?_|((with_reducible first|apply oP|apply oQ);exact rfl));try simp only [go_sem,simprocAttr,hb])|((with_reducible refine oD ?_ ?_);kernel_rfl)|((with_reducible intro h);try simp only [go_sem,simprocAttr,hb] at h)|omega|intro h)
  all_goals (first|rw [if_pos (by assumption)] at iE|rw [if_neg (by assumption),List.append_nil] at iE)
  all_goals (refine ⟨k+1,by omega, ?_,by omega⟩;refine Le.of ?_ ?_<;>simp [go_sem,simprocAttr,hb,iE,rI])
 ·have hb:decide ((k:Int)<(g.es.length:Int))=false:=decide_eq_false (by omega)
  obtain rfl:k=g.es.length:=by omega
  repeat' (first|refine Rn.p ?_|(with_reducible apply And.intro)|((first|(refine hK _ ?_;clear hK K)|with_reducible intro K hK|refine Rs.p ?_|((with_reducible first|apply oP|apply oQ);exact rfl));try simp only [go_sem,simprocAttr,hb])|((with_reducible refine oD ?_ ?_);kernel_rfl)|((with_reducible intro h);try simp only [go_sem,simprocAttr,hb] at h)|omega|intro h)
  rfl
def ic (n:Nat) (us:List Int):List Bool:=(List.range n).map fun x:Nat=>decide ((x:Int)∈us)
theorem jB {n:Nat} {us:List Int} :(ic n us).length=n:=by simp [ic]
theorem jC {n:Nat} :List.replicate n [D.sc (.bool false)]=(ic n []).map rB:=by
 refine List.ext_getElem? fun i=> ?_
 by_cases hi:i<n
 ·simp [ic,hi,rB,List.getElem?_range hi]
 ·simp [ic,hi]
theorem Dv {n x:Nat} {us:List Int} (h:x<n):(ic n us).getD x false=decide ((x:Int)∈us):=by
 simp [ic,List.getD_eq_getElem?_getD,List.getElem?_range h]
theorem Bb {n v:Nat} {us:List Int} :(ic n us).set v true=ic n (us++ [(v:Int)]):=by
 refine List.ext_getElem? fun i=> ?_
 by_cases hi:i<n
 ·rw [List.getElem?_set,jB]
  simp only [ic,List.getElem?_map,List.getElem?_range hi,Option.map_some,List.mem_append,List.mem_singleton]
  by_cases hv:v=i
  ·subst hv;simp [hi]
  ·rw [if_neg hv]
   congr 1
   have:¬(i:Int)=(v:Int):=by omega
   simp [this]
 ·rw [List.getElem?_eq_none (by rw [List.length_set,jB];omega),List.getElem?_eq_none (by rw [jB];omega)]
def fT (n:Nat) (ls:List (List Int)) (k:Nat):List (List Int):=(List.range n).map fun x=>if x<k then ls.getD x [] else []
theorem jD {n k:Nat} {ls:List (List Int)} :(fT n ls k).length=n:=by simp [fT]
theorem ig {n:Nat} {ls:List (List Int)} :List.replicate n [D.sl 1 []]=vI (fT n ls 0):=by
 refine List.ext_getElem? fun i=> ?_
 by_cases hi:i<n
 ·simp [vI,fT,hi,List.getElem?_range hi,sI]
 ·simp [vI,fT,hi]
theorem yE {n k:Nat} {ls:List (List Int)} (hk:k<n):(vI (fT n ls k)).set k [sI (ls.getD k [])]=vI (fT n ls (k+1)):=by
 refine List.ext_getElem? fun i=> ?_
 rw [List.getElem?_set,vI_length,jD]
 by_cases hi:i<n
 ·simp only [vI,fT,List.getElem?_map,List.getElem?_range hi,Option.map_some]
  by_cases hv:k=i
  ·subst hv;simp [hk]
  ·rw [if_neg hv]
   by_cases h2:i<k
   ·rw [if_pos h2,if_pos (by omega)]
   ·rw [if_neg h2,if_neg (by omega)]
 ·rw [if_neg (by omega),List.getElem?_eq_none (by rw [vI_length,jD];omega),List.getElem?_eq_none (by rw [vI_length,jD];omega)]
theorem Bc {ls:List (List Int)} :fT ls.length ls ls.length=ls:=by
 refine List.ext_getElem? fun i=> ?_
 by_cases hi:i<ls.length
 ·simp [fT,List.getElem?_range hi,hi]
 ·rw [List.getElem?_eq_none (by rw [jD];omega),List.getElem?_eq_none (by omega)]
def OL (b:Br) (u v:Int):Bool:=decide (yB b u<yB b v)||(decide (yB b u=yB b v)&&decide (fB b u<fB b v))
def PZ (b:Br) (a c:Int):Bool:=decide (xB b c<xB b a)
end Go.Ab
end
section
namespace Go.Ab
open Go.Proofs
attribute [local congr] ACall.congr gd.congr Nx.congr
set_option maxRecDepth 20000
set_option maxHeartbeats 16000000
def j5 (d:Dr) (u v:Int):Bool:=decide ((fq d u).2<(fq d v).2)||(decide ((fq d u).2=(fq d v).2)&&decide ((fq d u).1<(fq d v).1))
theorem Gz {d:Dr} {u v:Int} (h:A8 d u v):Ln (j5 d) u v:=by
 unfold A8 at h
 refine ⟨?_, ?_⟩
 ·simp only [j5,Bool.or_eq_true,Bool.and_eq_true,decide_eq_true_eq];omega
 ·simp only [j5,Bool.or_eq_false_iff,Bool.and_eq_false_iff,decide_eq_false_iff_not];omega
def Bq (d:Dr) (x a c:Int):Bool:=decide (kO (fq d x) (fe d a) (fe d c)=1)
instance {d:Dr} {x i k:Int} :Decidable (j4 d x i k):=inferInstanceAs (Decidable (0<_))
theorem GA {d:Dr} {x a c:Int} (hx:bw (fq d x)) (ha:bw (fe d a)) (hc:bw (fe d c)):Bq d x a c=decide (j4 d x c a):=by
 unfold Bq kO
 rw [if_pos ⟨hx,ha,hc⟩]
 have e:aq (fq d x) (fe d a) (fe d c)=DK d x c a:=by unfold aq DK tm;grind
 rw [e]
 unfold j4 e9
 congr 1
 refine propext ⟨fun h=> ?_,fun h=> ?_⟩<;>split at* <;>(try split at*)<;>omega
theorem w8 {g:Gr} {d:Dr} (R:sD g d) {x:Nat} (hx:x<g.n.toNat):(ya (Bq d x) (cS g x).length (cS g x)).Pairwise (j4 d x):=by
 have eW:(cS g (x:Int)).Nodup:=iL
 have hin:∀i∈cS g (x:Int),(0≤i∧i<g.es.length)∧uN g i=x:=fun i hi=>gC hi
 have hX:bw (fq d x):=R.LF _ (bf (by have:=R.np;omega))
 have hF:∀i∈cS g (x:Int),bw (fe d i):=fun i hi=>R.kJ _ (eC R (hin i hi).1.1 (hin i hi).1.2) _ (bf (by have:=(R.len _ (eC R (hin i hi).1.1 (hin i hi).1.2)).1;omega))
 refine mI (S:=fun i=>i∈cS g (x:Int)) (fun a c e ha hc he h1 h2=>AY R (hin a ha).1 (hin c hc).1 (hin e he).1 (hin a ha).2 (hin c hc).2 (hin e he).2 h1 h2) (fun a c ha hc hne=> ?_) (Nat.le_refl _) eW fun i hi=>hi
 rw [GA hX (hF a ha) (hF c hc)]
 rcases AZ R (hin a ha).1 (hin c hc).1 (hin a ha).2 (hin c hc).2 hne with h|h
 ·rw [if_neg (by simp;exact fun h2=>nO h h2)];exact h
 ·rw [if_pos (by simpa using h)];exact h
theorem Bd {g:Gr} {d:Dr} {p:Pl} (R:sD g d) (hp:rW g d p) {x:Nat} (hx:x<g.n.toNat):ya (Bq d x) (cS g x).length (cS g x)=p.outs.getD x []:=
 AP (R:=j4 d x) (kX.trans (hp.outs x hx).symm) (fun a c h1 h2=>nO h1 h2) (w8 R hx) (hp.Dq x hx)
theorem rX (g:Gr) (d:Dr) (p:Pl) (h:sD g d) (hp:rW g d p):Spec Tryz.prog 19 (Args [eG g,eDr d]) [] (ePl p) []:=by
 have hm:=dc h.qj
 have hn:=bL hm
 obtain ⟨N,hN⟩:∃N:Nat,g.n=N:=⟨g.n.toNat,by omega⟩
 have DL:g.n.toNat=N:=by omega
 have ly:d.pts.length=N:=by have:=h.np;omega
 have lx:=h.nl
 have OK:eDr d= .agg [.d (sP d.pts), .d (sLn d.ls)]:=rfl
 have lo:p.outs.length=N:=by rw [hp.len,DL]
 have DB:p.ord.Perm (ef N):=by rw [← DL];exact hp.perm
 have hps:p.ord.Pairwise (Ln (j5 d)):=hp.sort.imp fun h=>Gz h
 have DC:p.ord.length=N:=by rw [DB.length_eq,dN]
 (refine Spec.hd (C:=T.cfg [] []) (rs:= [.c 4 34]) (T.ai _ _) Tryz.func19 rfl rfl Tryz.ntmps19 Tryz.results19 (by simp [AObj.isNest]) (by simp [AObj.isNest]) (by kernel_rfl) T.mixed fun X hX hP hC aG b9=> ?_)
 repeat' (first|refine Rn.p ?_|(with_reducible apply And.intro)|((first|(refine hK _ ?_;clear hK K)|with_reducible intro K hK|refine Rs.p ?_|((with_reducible first|apply oP|apply oQ);exact rfl));try simp only [go_sem,simprocAttr,I4,hN,DL,jC,ig (ls:=p.outs)])|((with_reducible refine oD ?_ ?_);kernel_rfl)|((with_reducible intro h);try simp only [go_sem,simprocAttr,I4,hN,DL,jC,ig (ls:=p.outs)] at h)|omega|intro h)
 (refine qE hX 5 0 200 (.tip 3 1 []) rfl rfl rfl (by simp only [go_sem,simprocAttr,I4,hN,DL,jC,ig (ls:=p.outs)]) (by decide) (by simp [go_sem,simprocAttr,I4,hN,DL,jC,ig (ls:=p.outs)]) ⟨3,1,by decide, .inr rfl⟩ ?_;simp only [List.set_cons_zero,List.set_cons_succ,go_sem,simprocAttr,I4,hN,DL,jC,ig (ls:=p.outs)])
 refine ag (fun k:Nat=>k≤N) (fun k=>⟨[(2, .ptr 2 0),(3, .ptr 3 0),(4, .ptr 4 0),(5, .ptr 5 0),(6, .ref 21),(7,eN k)], [(2, .box [eN N, .d (sE g.es)]),(3, .box [.d (sP d.pts), .d (sLn d.ls)]),(4, .box [.nil 3, .nil 31]),(5, .box [.ref 200, .ref 17]),(200, .tip 3 1 ((p.ord.take k).map rI)),(17, .own 31 1 (vI (fT N p.outs 0))),(21, .own 4 1 ((ic N (p.ord.take k)).map rB))]⟩) (fun k=>N - k) 0 (by omega) ?_ ?_
 ·refine Le.of ?_ ?_<;>simp [go_sem,simprocAttr]
 rintro k hk
 rcases Nat.lt_or_ge k N with b8|DA
 ·have hb:decide ((k:Int)<(N:Int))=true:=decide_eq_true (by omega)
  repeat' (first|refine Rn.p ?_|(with_reducible apply And.intro)|((first|(refine hK _ ?_;clear hK K)|with_reducible intro K hK|refine Rs.p ?_|((with_reducible first|apply oP|apply oQ);exact rfl));try simp only [go_sem,simprocAttr,hb])|((with_reducible refine oD ?_ ?_);kernel_rfl)|((with_reducible intro h);try simp only [go_sem,simprocAttr,hb] at h)|omega|intro h)
  refine ag (fun x:Nat=>x≤N) (fun x=>⟨[(2, .ptr 2 0),(3, .ptr 3 0),(4, .ptr 4 0),(5, .ptr 5 0),(6, .ref 21),(7,eN k),(8,eN (b7 (j5 d) (p.ord.take k) x)),(9,eN x)], [(2, .box [eN N, .d (sE g.es)]),(3, .box [.d (sP d.pts), .d (sLn d.ls)]),(4, .box [.nil 3, .nil 31]),(5, .box [.ref 200, .ref 17]),(200, .tip 3 1 ((p.ord.take k).map rI)),(17, .own 31 1 (vI (fT N p.outs 0))),(21, .own 4 1 ((ic N (p.ord.take k)).map rB))]⟩) (fun x=>N - x) 0 (by omega) ?_ ?_
  ·refine Le.of ?_ ?_<;>simp [go_sem,simprocAttr,b7]
  rintro x hx
  rcases Nat.lt_or_ge x N with hxl|Jp
  ·have gL:decide ((x:Int)<(N:Int))=true:=decide_eq_true (by omega)
   have hU:=Dv (us:=p.ord.take k) hxl
   have pM:=jB (n:=N) (us:=p.ord.take k)
   have LU:=rD DB hps (j:=k) (by omega) (k:=x) (by omega)
   have GB:b7 (j5 d) (p.ord.take k) (x+1)=if ((!decide ((x:Int)∈p.ord.take k))&&(decide (b7 (j5 d) (p.ord.take k) x<0)||j5 d x (b7 (j5 d) (p.ord.take k) x)))=true then (x:Int) else b7 (j5 d) (p.ord.take k) x:=by
    rw [b7]
   generalize P3:decide ((x:Int)∈p.ord.take k)=ud at hU GB
   generalize GY:b7 (j5 d) (p.ord.take k) (x+1)=B1 at GB
   generalize b7 (j5 d) (p.ord.take k) x=B0 at GB LU
   generalize ic N (p.ord.take k)=UL at hU pM
   have LG:B0= -1∨∃m:Nat,B0=m∧m<N:=by
    rcases LU with h1|h1
    ·exact .inl h1.1
    ·exact .inr ⟨B0.toNat,by omega,by omega⟩
   clear LU
   cases ud with
   |true=>
    have uW:B1=B0:=by rw [GB];simp
    repeat' (first|refine Rn.p ?_|(with_reducible apply And.intro)|((first|(refine hK _ ?_;clear hK K)|with_reducible intro K hK|refine Rs.p ?_|((with_reducible first|apply oP|apply oQ);exact rfl));try simp only [go_sem,simprocAttr,gL,hU,pM])|((with_reducible refine oD ?_ ?_);kernel_rfl)|((with_reducible intro h);try simp only [go_sem,simprocAttr,gL,hU,pM] at h)|omega|intro h)
    refine ⟨x+1,by omega, ?_,by omega⟩
    rw [GY,uW]
    refine Le.of ?_ ?_<;>simp [go_sem,simprocAttr,gL,hU,pM]
   |false=>
    rcases LG with rfl|⟨m,rfl,P4⟩
    ·have uW:B1=x:=by rw [GB];simp
     repeat' (first|refine Rn.p ?_|(with_reducible apply And.intro)|((first|(refine hK _ ?_;clear hK K)|with_reducible intro K hK|refine Rs.p ?_|((with_reducible first|apply oP|apply oQ);exact rfl));try simp only [go_sem,simprocAttr,gL,hU,pM])|((with_reducible refine oD ?_ ?_);kernel_rfl)|((with_reducible intro h);try simp only [go_sem,simprocAttr,gL,hU,pM] at h)|omega|intro h)
     refine ⟨x+1,by omega, ?_,by omega⟩
     rw [GY,uW]
     refine Le.of ?_ ?_<;>simp [go_sem,simprocAttr,gL,hU,pM]
    ·have uW:B1=if j5 d x m=true then (x:Int) else (m:Int):=by
      rw [GB,decide_eq_false (show ¬(m:Int)<0 by omega)];simp
     have hlt:j5 d x m=(decide ((d.pts.getD x (0,0)).2<(d.pts.getD m (0,0)).2)||(decide ((d.pts.getD x (0,0)).2=(d.pts.getD m (0,0)).2)&&decide ((d.pts.getD x (0,0)).1<(d.pts.getD m (0,0)).1))):=by
      simp only [j5,fq,Int.toNat_natCast];rfl
     have Bs:decide ((m:Int)<0)=false:=decide_eq_false (by omega)
     rw [hlt] at uW
     clear hlt GB
     cases xo:decide ((d.pts.getD x (0,0)).2<(d.pts.getD m (0,0)).2) with
     |true=>
      rw [xo] at uW
      simp only [Bool.true_or,if_true] at uW
      repeat' (first|refine Rn.p ?_|(with_reducible apply And.intro)|((first|(refine hK _ ?_;clear hK K)|with_reducible intro K hK|refine Rs.p ?_|((with_reducible first|apply oP|apply oQ);exact rfl));try simp only [go_sem,simprocAttr,gL,hU,pM,Bs,ly,xo])|((with_reducible refine oD ?_ ?_);kernel_rfl)|((with_reducible intro h);try simp only [go_sem,simprocAttr,gL,hU,pM,Bs,ly,xo] at h)|omega|intro h)
      refine ⟨x+1,by omega, ?_,by omega⟩
      rw [GY,uW]
      refine Le.of ?_ ?_<;>simp [go_sem,simprocAttr,gL,hU,pM,Bs,ly,xo]
     |false=>
      cases hd2:decide ((d.pts.getD x (0,0)).2=(d.pts.getD m (0,0)).2) with
      |false=>
       rw [xo,hd2] at uW
       simp only [Bool.false_or,Bool.false_and,Bool.false_eq_true,if_false] at uW
       repeat' (first|refine Rn.p ?_|(with_reducible apply And.intro)|((first|(refine hK _ ?_;clear hK K)|with_reducible intro K hK|refine Rs.p ?_|((with_reducible first|apply oP|apply oQ);exact rfl));try simp only [go_sem,simprocAttr,gL,hU,pM,Bs,ly,xo,hd2])|((with_reducible refine oD ?_ ?_);kernel_rfl)|((with_reducible intro h);try simp only [go_sem,simprocAttr,gL,hU,pM,Bs,ly,xo,hd2] at h)|omega|intro h)
       refine ⟨x+1,by omega, ?_,by omega⟩
       rw [GY,uW]
       refine Le.of ?_ ?_<;>simp [go_sem,simprocAttr,gL,hU,pM,Bs,ly,xo,hd2]
      |true=>
       cases Fl:decide ((d.pts.getD x (0,0)).1<(d.pts.getD m (0,0)).1) with
       |false=>
        rw [xo,hd2,Fl] at uW
        simp only [Bool.false_or,Bool.and_false,Bool.false_eq_true,if_false] at uW
        repeat' (first|refine Rn.p ?_|(with_reducible apply And.intro)|((first|(refine hK _ ?_;clear hK K)|with_reducible intro K hK|refine Rs.p ?_|((with_reducible first|apply oP|apply oQ);exact rfl));try simp only [go_sem,simprocAttr,gL,hU,pM,Bs,ly,xo,hd2,Fl])|((with_reducible refine oD ?_ ?_);kernel_rfl)|((with_reducible intro h);try simp only [go_sem,simprocAttr,gL,hU,pM,Bs,ly,xo,hd2,Fl] at h)|omega|intro h)
        refine ⟨x+1,by omega, ?_,by omega⟩
        rw [GY,uW]
        refine Le.of ?_ ?_<;>simp [go_sem,simprocAttr,gL,hU,pM,Bs,ly,xo,hd2,Fl]
       |true=>
        rw [xo,hd2,Fl] at uW
        simp only [Bool.false_or,Bool.and_self,if_true] at uW
        repeat' (first|refine Rn.p ?_|(with_reducible apply And.intro)|((first|(refine hK _ ?_;clear hK K)|with_reducible intro K hK|refine Rs.p ?_|((with_reducible first|apply oP|apply oQ);exact rfl));try simp only [go_sem,simprocAttr,gL,hU,pM,Bs,ly,xo,hd2,Fl])|((with_reducible refine oD ?_ ?_);kernel_rfl)|((with_reducible intro h);try simp only [go_sem,simprocAttr,gL,hU,pM,Bs,ly,xo,hd2,Fl] at h)|omega|intro h)
        refine ⟨x+1,by omega, ?_,by omega⟩
        rw [GY,uW]
        refine Le.of ?_ ?_<;>simp [go_sem,simprocAttr,gL,hU,pM,Bs,ly,xo,hd2,Fl]
  have gL:decide ((x:Int)<(N:Int))=false:=decide_eq_false (by omega)
  obtain rfl:x=N:=by omega
  have mM:=EA DB hps b8
  have GU:=zB DB hps b8
  have hnt:p.ord.take (k+1)=p.ord.take k++ [p.ord.getD k 0]:=by
   rw [List.take_add_one,List.getElem?_eq_getElem (by omega),List.getD_eq_getElem?_getD,List.getElem?_eq_getElem (by omega)];rfl
  have lS:(p.ord.take k).length=k:=by rw [List.length_take];omega
  rw [mM]
  obtain ⟨v,hv⟩:∃v:Nat,p.ord.getD k 0=v:=⟨(p.ord.getD k 0).toNat,by omega⟩
  rw [hv] at hnt GU ⊢
  have I9:=Bb (n:=x) (v:=v) (us:=p.ord.take k)
  have pM:=jB (n:=x) (us:=p.ord.take k)
  generalize ic x (p.ord.take k)=U1 at I9 pM
  generalize p.ord.take k=T1 at hnt lS I9
  repeat' (first|(show cD _ (.region 5 _ _) _ _;(refine tW hX 5 0 96 200 rfl rfl rfl (by first|exact .inl rfl|exact .inr rfl) (by decide) (by decide) ?_;simp only [List.set_cons_zero,List.set_cons_succ,go_sem,simprocAttr,gL,pM,fU,lS]))|refine Rn.p ?_|(with_reducible apply And.intro)|((first|(refine hK _ ?_;clear hK K)|with_reducible intro K hK|refine Rs.p ?_|((with_reducible first|apply oP|apply oQ);exact rfl));try simp only [go_sem,simprocAttr,gL,pM,fU,lS])|((with_reducible refine oD ?_ ?_);kernel_rfl)|((with_reducible intro h);try simp only [go_sem,simprocAttr,gL,pM,fU,lS] at h)|omega|intro h)
  refine ⟨k+1,by omega, ?_,by omega⟩
  rw [hnt, ← I9]
  refine Le.of ?_ ?_<;>simp [go_sem,simprocAttr,gL,pM,fU,lS,rI]
 have hb:decide ((k:Int)<(N:Int))=false:=decide_eq_false (by omega)
 obtain rfl:k=N:=by omega
 rw [show p.ord.take k=p.ord by rw [← DC];exact List.take_length]
 generalize ic k p.ord=UL
 repeat' (first|refine Rn.p ?_|(with_reducible apply And.intro)|((first|(refine hK _ ?_;clear hK K)|with_reducible intro K hK|refine Rs.p ?_|((with_reducible first|apply oP|apply oQ);exact rfl));try simp only [go_sem,simprocAttr,hb])|((with_reducible refine oD ?_ ?_);kernel_rfl)|((with_reducible intro h);try simp only [go_sem,simprocAttr,hb] at h)|omega|intro h)
 refine ag (fun x:Nat=>x≤k) (fun x=>⟨[(2, .ptr 2 0),(3, .ptr 3 0),(4, .ptr 4 0),(5, .ptr 5 0),(10,eN x)], [(2, .box [eN k, .d (sE g.es)]),(3, .box [.d (sP d.pts), .d (sLn d.ls)]),(4, .box [.nil 3, .nil 31]),(5, .box [.ref 200, .ref 17]),(200, .tip 3 1 (p.ord.map rI)),(17, .own 31 1 (vI (fT k p.outs x)))]⟩) (fun x=>k - x) 0 (by omega) ?_ ?_
 ·refine Le.of ?_ ?_<;>simp [go_sem,simprocAttr]
 rintro x hx
 rcases Nat.lt_or_ge x k with hxl|Jp
 ·have gL:decide ((x:Int)<(k:Int))=true:=decide_eq_true (by omega)
  have hE:=yD g x (by omega)
  have hS:=Bd h hp (x:=x) (by omega)
  have GU:∀i∈cS g (x:Int),0≤i∧i<g.es.length:=fun i hi=>(gC hi).1
  have Es:(cS g (x:Int)).length≤1000:=by have:=gB (f:=(·.1)) (es:=g.es) (k:=g.es.length) (x:=(x:Int));show (aU (·.1) g.es g.es.length (x:Int)).length≤_;omega
  have LS:eG g= .agg [eN k, .d (sE g.es)]:=by rw [eG,hN]
  rw [LS] at hE
  have iE:=yE (ls:=p.outs) hxl
  have I7:=jD (n:=k) (ls:=p.outs) (k:=x)
  generalize OM:vI (fT k p.outs (x+1))=V2 at iE
  have DG:=zn (ls:=fT k p.outs x) (k:=x) (by omega)
  generalize fT k p.outs x=V1 at iE I7 DG
  generalize p.outs.getD x []=L at hS iE
  generalize cS g (x:Int)=l at hE hS GU Es
  have hml:l.length≤1000:=Es
  repeat' (first|refine Rn.p ?_|(with_reducible apply And.intro)|((first|(refine hK _ ?_;clear hK K)|with_reducible intro K hK|refine Rs.p ?_|((with_reducible first|apply oP|apply oQ);exact rfl)|(refine gm hX hC hP 106 (hE) rfl rfl rfl ?_ ?_ (by first|exact ⟨_,_,_,rfl,zj⟩|exact ⟨_,_,_,rfl,zk⟩|exact ⟨_,_,_,rfl,zN⟩) rfl (by decide) ?_;(iterate 2 (focus (simp only [go_sem,simprocAttr,gL];done)));simp only [go_sem,simprocAttr,gL]));try simp only [go_sem,simprocAttr,gL])|((with_reducible refine oD ?_ ?_);kernel_rfl)|((with_reducible intro h);try simp only [go_sem,simprocAttr,gL] at h)|omega|intro h)
  refine ag (ι:=List Int × List Int) (fun q=>q.1++ya (Bq d x) q.2.length q.2=L∧q.1.length+q.2.length=l.length∧∀i∈q.1++q.2,0≤i∧i<g.es.length) (fun q=>⟨[(2, .ptr 2 0),(3, .ptr 3 0),(4, .ptr 4 0),(5, .ptr 5 0),(10,eN x),(11, .ref 106),(12,eN q.1.length)], [(2, .box [eN k, .d (sE g.es)]),(3, .box [.d (sP d.pts), .d (sLn d.ls)]),(4, .box [.nil 3, .nil 31]),(5, .box [.ref 200, .ref 17]),(200, .tip 3 1 (p.ord.map rI)),(17, .own 31 1 (vI V1)),(106, .own 3 1 ((q.1++q.2).map rI))]⟩) (fun q=>q.2.length) ([],l) ⟨hS,by simp,by simpa using GU⟩ ?_ ?_
  ·refine Le.of ?_ ?_<;>simp [go_sem,simprocAttr]
  rintro ⟨pre,rest⟩ ⟨hF,hlen,hr⟩
  simp only at hF hlen hr
  cases rest with
  |nil=>
   have ij:pre=L:=by simpa [ya] using hF
   subst ij
   rw [List.append_nil]
   have Fm:decide ((pre.length:Int)<(pre.length:Int))=false:=decide_eq_false (by omega)
   repeat' (first|(show cD _ (.region 28 _ _) _ _;(refine cH hX 106 rfl (.inl rfl) ?_;simp only [go_sem,simprocAttr,Fm,I7,DG,List.drop_succ_cons,List.drop_zero]))|refine Rn.p ?_|(with_reducible apply And.intro)|((first|(refine hK _ ?_;clear hK K)|with_reducible intro K hK|refine Rs.p ?_|((with_reducible first|apply oP|apply oQ);exact rfl));try simp only [go_sem,simprocAttr,Fm,I7,DG,List.drop_succ_cons,List.drop_zero])|((with_reducible refine oD ?_ ?_);kernel_rfl)|((with_reducible intro h);try simp only [go_sem,simprocAttr,Fm,I7,DG,List.drop_succ_cons,List.drop_zero] at h)|omega|intro h)
   refine ⟨x+1,by omega, ?_,by omega⟩
   rw [OM, ← iE]
   refine Le.of ?_ ?_<;>simp [go_sem,simprocAttr,Fm,I7,DG,List.drop_succ_cons,List.drop_zero]
  |cons a0 r0=>
   have MN:(pre++a0::r0).length=l.length:=by simpa using hlen
   have Fm:decide ((pre.length:Int)<((pre++a0::r0).length:Int))=true:=decide_eq_true (by rw [MN];simp at hlen;omega)
   have ON:pre++Bl (Bq d x) a0 [] r0=L:=by rw [EC];exact hF
   obtain ⟨M0,MO⟩:∃M0,pre++a0::r0=M0:=⟨_,rfl⟩
   rw [MO] at Fm MN ⊢
   repeat' (first|refine Rn.p ?_|(with_reducible apply And.intro)|((first|(refine hK _ ?_;clear hK K)|with_reducible intro K hK|refine Rs.p ?_|((with_reducible first|apply oP|apply oQ);exact rfl));try simp only [go_sem,simprocAttr,Fm])|((with_reducible refine oD ?_ ?_);kernel_rfl)|((with_reducible intro h);try simp only [go_sem,simprocAttr,Fm] at h)|omega|intro h)
   rw [← MO]
   refine ag (ι:=Int × List Int × List Int) (fun q=>pre++Bl (Bq d x) q.1 q.2.1 q.2.2=L∧pre.length+1+q.2.1.length+q.2.2.length=l.length∧∀i∈pre++q.1::(q.2.1++q.2.2),0≤i∧i<g.es.length) (fun q=>⟨[(2, .ptr 2 0),(3, .ptr 3 0),(4, .ptr 4 0),(5, .ptr 5 0),(10,eN x),(11, .ref 106),(12,eN pre.length),(13,eN ((pre.length+1+q.2.1.length:Nat):Int))], [(2, .box [eN k, .d (sE g.es)]),(3, .box [.d (sP d.pts), .d (sLn d.ls)]),(4, .box [.nil 3, .nil 31]),(5, .box [.ref 200, .ref 17]),(200, .tip 3 1 (p.ord.map rI)),(17, .own 31 1 (vI V1)),(106, .own 3 1 ((pre++q.1::(q.2.1++q.2.2)).map rI))]⟩) (fun q=>q.2.2.length) (a0, [],r0) ⟨ON,by simp at hlen ⊢;omega,by simpa using hr⟩ ?_ ?_
   ·refine Le.of ?_ ?_<;>simp [go_sem,simprocAttr]
   rintro ⟨a,done,todo⟩ ⟨GC,pH,sK⟩
   simp only at GC pH sK
   cases todo with
   |nil=>
    have zR:decide (((pre.length+1+done.length:Nat):Int)<(((pre++a::(done++ [])).length:Nat):Int))=false:=decide_eq_false (by simp;omega)
    obtain ⟨M,hM⟩:∃M,pre++a::(done++ [])=M:=⟨_,rfl⟩
    have OO:M.length=l.length:=by rw [← hM];simp at pH ⊢;omega
    rw [hM] at zR ⊢
    repeat' (first|refine Rn.p ?_|(with_reducible apply And.intro)|((first|(refine hK _ ?_;clear hK K)|with_reducible intro K hK|refine Rs.p ?_|((with_reducible first|apply oP|apply oQ);exact rfl));try simp only [go_sem,simprocAttr,zR])|((with_reducible refine oD ?_ ?_);kernel_rfl)|((with_reducible intro h);try simp only [go_sem,simprocAttr,zR] at h)|omega|intro h)
    refine ⟨(pre++ [a],done),⟨?_, ?_, ?_⟩, ?_, ?_⟩
    ·rw [ED] at GC
     simpa using GC
    ·simp at pH ⊢;omega
    ·simpa using sK
    ·rw [← hM]
     refine Le.of ?_ ?_<;>simp [go_sem,simprocAttr,zR]
    ·simp at pH hlen ⊢;omega
   |cons c td=>
    have uT:=Gi (pre:=pre) (r:=done++c::td) (a:=a) (d:=0)
    have uU:=Gj (pre:=pre) (q:=done) (r:=td) (a:=a) (c:=c) (d:=0)
    have hsw:=EE (pre:=pre) (d:=done) (r:=td) (a:=a) (c:=c)
    have MP:=sK a (by simp)
    have hrc:=sK c (by simp)
    have zR:decide (((pre.length+1+done.length:Nat):Int)<(((pre++a::(done++c::td)).length:Nat):Int))=true:=decide_eq_true (by simp;omega)
    obtain ⟨M,hM⟩:∃M,pre++a::(done++c::td)=M:=⟨_,rfl⟩
    have OO:M.length=l.length:=by rw [← hM];simp at pH ⊢;omega
    rw [hM] at zR uT uU hsw ⊢
    obtain ⟨an,rfl⟩:∃n:Nat,a=n:=⟨a.toNat,by omega⟩
    obtain ⟨cn,rfl⟩:∃n:Nat,c=n:=⟨c.toNat,by omega⟩
    have P5:pre.length<M.length:=by omega
    have hi1:pre.length+1+done.length<M.length:=by simp at pH;omega
    have hla:=(h.len _ (eC h MP.1 MP.2)).1
    have hlc:=(h.len _ (eC h hrc.1 hrc.2)).1
    have JD:=um (fq d x) (fe d an) (fe d cn)
    simp only [r8,fq,fe,Int.toNat_natCast] at hla hlc JD
    cases hd:decide (kO (d.pts.getD x (0,0)) ((d.ls.getD an []).getD 1 (0,0)) ((d.ls.getD cn []).getD 1 (0,0))=1) with
    |true=>
     have LV:Bq d x an cn=true:=by simpa [Bq,fq,fe,r8] using hd
     rw [C3 LV] at GC
     generalize GD:pre.length+1+done.length=i1 at*
     repeat' (first|refine Rn.p ?_|(with_reducible apply And.intro)|((first|(refine hK _ ?_;clear hK K)|with_reducible intro K hK|refine Rs.p ?_|((with_reducible first|apply oP|apply oQ);exact rfl)|refine aa hX hC hP (JD) rfl rfl rfl (by simp only [go_sem,simprocAttr,zR,uT,uU,hd,lx,n0,List.length_set]) rfl ?_);try simp only [go_sem,simprocAttr,zR,uT,uU,hd,lx,n0,List.length_set])|((with_reducible refine oD ?_ ?_);kernel_rfl)|((with_reducible intro h);try simp only [go_sem,simprocAttr,zR,uT,uU,hd,lx,n0,List.length_set] at h)|omega|intro h)
     refine ⟨((cn:Int),done++ [(an:Int)],td),⟨GC, ?_, ?_⟩, ?_, ?_⟩
     ·simp at pH ⊢;omega
     ·intro i hi;exact sK i (by simp at hi ⊢;rcases hi with h|h|h|h|h<;>simp [h])
     ·rw [hsw, ← GD]
      refine Le.of ?_ ?_<;>simp [go_sem,simprocAttr,zR,uT,uU,hd,lx,n0,List.length_set]<;>omega
     ·simp
    |false=>
     have LV:Bq d x an cn=false:=by simpa [Bq,fq,fe,r8] using hd
     rw [C4 LV] at GC
     generalize GD:pre.length+1+done.length=i1 at*
     repeat' (first|refine Rn.p ?_|(with_reducible apply And.intro)|((first|(refine hK _ ?_;clear hK K)|with_reducible intro K hK|refine Rs.p ?_|((with_reducible first|apply oP|apply oQ);exact rfl)|refine aa hX hC hP (JD) rfl rfl rfl (by simp only [go_sem,simprocAttr,zR,uT,uU,hd,lx]) rfl ?_);try simp only [go_sem,simprocAttr,zR,uT,uU,hd,lx])|((with_reducible refine oD ?_ ?_);kernel_rfl)|((with_reducible intro h);try simp only [go_sem,simprocAttr,zR,uT,uU,hd,lx] at h)|omega|intro h)
     refine ⟨((an:Int),done++ [(cn:Int)],td),⟨GC, ?_, ?_⟩, ?_, ?_⟩
     ·simp at pH ⊢;omega
     ·intro i hi;exact sK i (by simp at hi ⊢;rcases hi with h|h|h|h|h<;>simp [h])
     ·rw [← hM, ← GD]
      refine Le.of ?_ ?_<;>simp [go_sem,simprocAttr,zR,uT,uU,hd,lx]<;>omega
     ·simp
 have gL:decide ((x:Int)<(k:Int))=false:=decide_eq_false (by omega)
 obtain rfl:x=k:=by omega
 have OP:fT x p.outs x=p.outs:=by rw [← lo];exact Bc
 rw [OP]
 repeat' (first|refine Rn.p ?_|(with_reducible apply And.intro)|((first|(refine hK _ ?_;clear hK K)|with_reducible intro K hK|refine Rs.p ?_|((with_reducible first|apply oP|apply oQ);exact rfl)|refine aa hX hC hP (JD) rfl rfl rfl (by simp only [go_sem,simprocAttr,gL]) rfl ?_);try simp only [go_sem,simprocAttr,gL])|((with_reducible refine oD ?_ ?_);kernel_rfl)|((with_reducible intro h);try simp only [go_sem,simprocAttr,gL] at h)|omega|intro h)
end Go.Ab
end
section
namespace Go.Ab
open Go.Proofs
attribute [local congr] ACall.congr gd.congr Nx.congr
set_option maxRecDepth 20000
set_option maxHeartbeats 16000000
theorem tw {f:Nat→List Int} {n i:Nat} (h:i<n):((List.range n).map f).getD i []=f i:=by
 rw [List.getD_eq_getElem?_getD,List.getElem?_map,List.getElem?_range h];rfl
theorem Dw {g:Gr} {d:Dr} (h:sD g d):∃p,rW g d p:=by
 have hnp:=h.np
 have OQ:∀u v:Int,AX g u→AX g v→u≠v→A8 d u v∨A8 d v u:=fun u v hu hv hne=>by
  have Ls:=hu.1;have P6:=hu.2;have He:=hv.1;have DG:=hv.2
  have A7:fq d u≠fq d v:=fun e=>by
   rcases Nat.lt_or_gt_of_ne (show u.toNat≠v.toNat by omega) with h1|h1
   ·exact h.alone u.toNat v.toNat h1 (by omega) e
   ·exact h.alone v.toNat u.toNat h1 (by omega) e.symm
  have h2:¬((fq d u).1=(fq d v).1∧(fq d u).2=(fq d v).2):=fun e=>A7 (Prod.ext e.1 e.2)
  unfold A8
  omega
 refine ⟨⟨ya (fun a c=>j5 d c a) g.n.toNat (ef g.n.toNat),(List.range g.n.toNat).map fun x:Nat=>ya (Bq d x) (cS g x).length (cS g x)⟩,⟨kX, ?_,by simp,fun x hx=> ?_,fun x hx=> ?_⟩⟩
 ·refine mI (S:=fun v=>AX g v) (fun a c d _ _ _ h1 h2=>by unfold A8 at*;omega) (fun a c ha hc hne=> ?_) (by rw [dN];omega) fG fun v hv=>by have:=cO.1 hv;exact ⟨by omega,by omega⟩
  have:=OQ a c ha hc hne
  by_cases h1:j5 d c a=true
  ·rw [if_pos h1]
   simp only [j5,Bool.or_eq_true,Bool.and_eq_true,decide_eq_true_eq] at h1
   unfold A8;omega
  ·rw [if_neg h1]
   simp only [j5,Bool.or_eq_true,Bool.and_eq_true,decide_eq_true_eq] at h1
   unfold A8 at*;omega
 ·rw [tw hx];exact kX
 ·rw [tw hx]
  exact w8 h hx
theorem Be {g:Gr} {d:Dr} {p:Pl} (h:sD g d) (hp:rW g d p):Ff p∧IN p:=by
 have hm:=dc h.qj
 have hn:=bL hm
 have hl:p.ord.length=g.n.toNat:=by rw [hp.perm.length_eq,dN]
 have ho:=hp.len
 have he:∀l∈p.outs,l.length≤g.es.length:=fun l hl=>by
  obtain ⟨x,hx,rfl⟩:=List.mem_iff_getElem.1 hl
  have:=(hp.outs x (by omega)).length_eq
  rw [List.getD_eq_getElem?_getD,List.getElem?_eq_getElem hx,Option.getD_some] at this
  rw [this];exact wk
 exact ⟨⟨by omega,by omega,fun l hl=>by have:=he l hl;omega⟩,⟨by omega,by omega,fun l hl=>by have:=he l hl;omega⟩⟩
theorem nR (g:Gr) (d:Dr) (hls:d.ls.length≤9223372036854775807):Spec Tryz.prog 3 (Args [eG g,eDr d]) [] (eB true) []:=by
 cases hg:kS g d with
 |true=>
  (refine Spec.hd (C:=T.cfg [] []) (rs:= [.t 4]) (T.ai _ _) Tryz.func3 rfl rfl Tryz.ntmps3 Tryz.results3 (by simp [AObj.isNest]) (by simp [AObj.isNest]) (by kernel_rfl) T.mixed fun X hX hP hC aG b9=> ?_)
  repeat' (first|refine Rn.p ?_|(with_reducible apply And.intro)|((first|(refine hK _ ?_;clear hK K)|with_reducible intro K hK|refine Rs.p ?_|((with_reducible first|apply oP|apply oQ);exact rfl)|refine aa hX hC hP (iS) rfl rfl rfl (by simp only [go_sem,simprocAttr,hg]) rfl ?_|refine aa hX hC hP (pF g d hls) rfl rfl rfl (by simp only [go_sem,simprocAttr,hg]) rfl ?_);try simp only [go_sem,simprocAttr,hg])|((with_reducible refine oD ?_ ?_);kernel_rfl)|((with_reducible intro h);try simp only [go_sem,simprocAttr,hg] at h)|omega|intro h)
 |false=>
 have eu:=hg
 simp only [kS,Bool.or_eq_false_iff,decide_eq_false_iff_not] at eu
 obtain ⟨⟨⟨h1,h2⟩,h3⟩,h4⟩:=eu
 have hl:g.es.length≤1000:=by omega
 have hp:d.pts.length≤1000:=by omega
 have Az:d.ls.length≤1000:=by omega
 have mL:∀l∈d.ls,l.length≤1000:=fun l hl=>by
  have:=(List.any_eq_false.1 h4) l hl
  simp only [decide_eq_true_eq] at this
  omega
 have LW:=pF g d hls
 have LX:=pL g d hl hp Az mL
 rw [hg] at LW
 by_cases h0:(fF g d).1=0
 ·obtain ⟨hc0,h⟩:=IV h0
  obtain ⟨p,DB⟩:=Dw h
  have OR:=uS g d p hl hp Az mL h0 DB
  have OS:=rX g d p h DB
  have LY:=l9 p (Be h DB).1
  rw [hc0] at LX
  (refine Spec.hd (C:=T.cfg [] []) (rs:= [.t 4]) (T.ai _ _) Tryz.func3 rfl rfl Tryz.ntmps3 Tryz.results3 (by simp [AObj.isNest]) (by simp [AObj.isNest]) (by kernel_rfl) T.mixed fun X hX hP hC aG b9=> ?_)
  repeat' (first|refine Rn.p ?_|(with_reducible apply And.intro)|((first|(refine hK _ ?_;clear hK K)|with_reducible intro K hK|refine Rs.p ?_|((with_reducible first|apply oP|apply oQ);exact rfl)|refine aa hX hC hP (iS) rfl rfl rfl (by simp only [go_sem,simprocAttr]) rfl ?_|refine aa hX hC hP (LW) rfl rfl rfl (by simp only [go_sem,simprocAttr]) rfl ?_|refine aa hX hC hP (OR) rfl rfl rfl (by simp only [go_sem,simprocAttr]) rfl ?_|refine aa hX hC hP (OS) rfl rfl rfl (by simp only [go_sem,simprocAttr]) rfl ?_|refine aa hX hC hP (LX) rfl rfl rfl (by simp only [go_sem,simprocAttr]) rfl ?_|refine aa hX hC hP (LY) rfl rfl rfl (by simp only [go_sem,simprocAttr]) rfl ?_);try simp only [go_sem,simprocAttr])|((with_reducible refine oD ?_ ?_);kernel_rfl)|((with_reducible intro h);try simp only [go_sem,simprocAttr] at h)|omega|intro h)
 ·have OU:=yC g d hl hp Az mL h0
  have LY:=l9 ⟨[], []⟩ ⟨by simp,by simp,by simp⟩
  have hb:decide ((fF g d).1=0)=false:=decide_eq_false h0
  (refine Spec.hd (C:=T.cfg [] []) (rs:= [.t 4]) (T.ai _ _) Tryz.func3 rfl rfl Tryz.ntmps3 Tryz.results3 (by simp [AObj.isNest]) (by simp [AObj.isNest]) (by kernel_rfl) T.mixed fun X hX hP hC aG b9=> ?_)
  repeat' (first|refine Rn.p ?_|(with_reducible apply And.intro)|((first|(refine hK _ ?_;clear hK K)|with_reducible intro K hK|refine Rs.p ?_|((with_reducible first|apply oP|apply oQ);exact rfl)|refine aa hX hC hP (iS) rfl rfl rfl (by simp only [go_sem,simprocAttr,hb,vI,List.map_nil]) rfl ?_|refine aa hX hC hP (LW) rfl rfl rfl (by simp only [go_sem,simprocAttr,hb,vI,List.map_nil]) rfl ?_|refine aa hX hC hP (OU) rfl rfl rfl (by simp only [go_sem,simprocAttr,hb,vI,List.map_nil]) rfl ?_|refine aa hX hC hP (LX) rfl rfl rfl (by simp only [go_sem,simprocAttr,hb,vI,List.map_nil]) rfl ?_|(refine ak hX hC hP (LY) rfl rfl rfl ?_ ?_ rfl ?_;iterate 2 (focus (simp only [go_sem,simprocAttr,hb,vI,List.map_nil];done))));try simp only [go_sem,simprocAttr,hb,vI,List.map_nil])|((with_reducible refine oD ?_ ?_);kernel_rfl)|((with_reducible intro h);try simp only [go_sem,simprocAttr,hb,vI,List.map_nil] at h)|omega|intro h)
end Go.Ab
end
