/- A part of the proof. -/
import Derived.Shelf.SlicesG.Cmp
import Derived.Deep.QuietTactic
import Derived.Deep.RegionHeld3
import Derived.WalkKit
import Derived.LoopNIn
import Derived.LoopIn
import Derived.Sort.WalkA
import Derived.Sort.Grow
import Derived.Shelf.SlSortCmp.NoneTotal
import Derived.Test.YtchjjbfhlchpfaaGreatL10P16
set_option linter.unusedSimpArgs false
set_option linter.unusedVariables false
section
namespace Go.Ab
open Go.Proofs Go.RowKit Go.Shelf Go.Lib Go.Sort
set_option maxRecDepth 10000
set_option maxHeartbeats 4000000
theorem zI (x y:Int) (W:World):Calls Tryz.prog 51 #[.int .i64 x, .int .i64 y] W fun e w'=>e= .returned (.int .i64 (compareInt x y))∧w'=W:=
 AnyG.cmp_Compare_int Tryz.Gx x y W
theorem Cd (W:World) (b:Nat) (c0 c1:Int) (h0:W.cell? ⟨b,0,none⟩=some (.int .i64 c0)) (h1:W.cell? ⟨b,1,none⟩=some (.int .i64 c1)):
 Calls Tryz.prog 50 #[.slice (some ⟨b,0,none⟩) 2 2] W fun e w'=>e= .returned (.int .i64 (if c0=0 then c1 else c0))∧w'=W:=by
 by_cases hc:c0=0
 ·subst hc
  rw [if_pos rfl]
  by_cases hd:c1=0
  ·subst hd
   go_enter Tryz.func50,Tryz.ntmps50
   go_wp2
   go_loopw [8] (fun i wr=>∃k:Nat,k≤2∧i= .int .i64 k∧wr=W) (fun i _=>2 - (Go.Proofs.intOf i).toNat)
   case atStart=>exact ⟨0,by omega,rfl,rfl⟩
   case round=>
    obtain ⟨k,hk,rfl,rfl⟩:=hrel
    match k,hk with
    |0,_=>
     go_wp2
     exact ⟨⟨1,by omega,rfl,trivial⟩,by decide⟩
    |1,_=>
     go_wp2
     exact ⟨⟨2,by omega,rfl,trivial⟩,by decide⟩
    |2,_=>
     go_wp2
     go_ret
     exact ⟨rfl,rfl⟩
  ·go_enter Tryz.func50,Tryz.ntmps50
   go_wp2
   go_loopw [8] (fun i wr=>∃k:Nat,k≤1∧i= .int .i64 k∧wr=W) (fun i _=>2 - (Go.Proofs.intOf i).toNat)
   case atStart=>exact ⟨0,by omega,rfl,rfl⟩
   case round=>
    obtain ⟨k,hk,rfl,rfl⟩:=hrel
    match k,hk with
    |0,_=>
     go_wp2
     exact ⟨⟨1,by omega,rfl,trivial⟩,by decide⟩
    |1,_=>
     go_wp2
     go_ret
     exact ⟨rfl,rfl⟩
 ·rw [if_neg hc]
  go_enter Tryz.func50,Tryz.ntmps50
  go_wp2
  go_loopw [8] (fun i wr=>i= .int .i64 0∧wr=W) (fun i _=>0)
  case atStart=>exact ⟨rfl,rfl⟩
  case round=>
   obtain ⟨rfl,rfl⟩:=hrel
   go_wp2
   go_ret
   exact ⟨rfl,rfl⟩
end Go.Ab
end
section
namespace Go.Ab
open Go.Proofs Go.RowKit Go.Shelf Go.Lib Go.Sort
set_option maxRecDepth 10000
set_option maxHeartbeats 4000000
def ym (p:Pt):Value:= .agg #[.int .i64 p.1, .int .i64 p.2]
theorem nJ (p:Pt) (hp:bJ p) (W:World):Calls Tryz.prog 159 #[ym p] W fun e w'=>e= .returned (.bool false)∧∃os',w'=grow W os':=by
 unfold ym
 have h1:max p.1 p.2≤262144:=by unfold bJ at hp;omega
 have h2: -262144≤min p.1 p.2:=by unfold bJ at hp;omega
 clear hp
 go_enter Tryz.func159,Tryz.ntmps159
 go_wp2
 go_ret
 refine ⟨?_,_,alloc_eq_grow _ _⟩
 show Ending.returned (.bool (decide (262144<max p.1 p.2)||decide (min p.1 p.2< -262144)))=_
 rw [decide_eq_false (by omega),decide_eq_false (by omega)];rfl
theorem Ce (a b c:Pt) (ha:bJ a) (hb:bJ b) (hc:bJ c) (W:World) (blk:Nat) (h0:∀os,(grow W os).cell? ⟨blk,0,none⟩=some (.int .i64 a.1)) (h1:∀os,(grow W os).cell? ⟨blk,1,none⟩=some (.int .i64 a.2)) (h2:∀os,(grow W os).cell? ⟨blk,2,none⟩=some (.int .i64 b.1)) (h3:∀os,(grow W os).cell? ⟨blk,3,none⟩=some (.int .i64 b.2)) (h4:∀os,(grow W os).cell? ⟨blk,4,none⟩=some (.int .i64 c.1)) (h5:∀os,(grow W os).cell? ⟨blk,5,none⟩=some (.int .i64 c.2)):
 Calls Tryz.prog 185 #[.slice (some ⟨blk,0,none⟩) 3 3, .func (.func 159) #[] #[]] W fun e w'=>e= .returned (.int .i64 (-1))∧∃os',w'=grow W os':=by
 have ca:=nJ a ha
 have cb:=nJ b hb
 have cc:=nJ c hc
 unfold ym at ca cb cc
 go_enter Tryz.func185,Tryz.ntmps185
 go_wp2
 go_loopw [8] (fun i wr=>∃k:Nat,k≤3∧i= .int .i64 k∧∃os,wr=grow W os) (fun i _=>3 - (Go.Proofs.intOf i).toNat)
 case atStart=>exact ⟨0,by omega,rfl, #[],(grow_empty W).symm⟩
 case round=>
  obtain ⟨k,hk,rfl,os,rfl⟩:=hrel
  have g0:=h0 os
  have g1:=h1 os
  have g2:=h2 os
  have g3:=h3 os
  have g4:=h4 os
  have g5:=h5 os
  clear h0 h1 h2 h3 h4 h5
  have q1:max a.1 a.2≤262144∧ -262144≤min a.1 a.2:=by unfold bJ at ha;omega
  have q2:max b.1 b.2≤262144∧ -262144≤min b.1 b.2:=by unfold bJ at hb;omega
  have q3:max c.1 c.2≤262144∧ -262144≤min c.1 c.2:=by unfold bJ at hc;omega
  clear ha hb hc ca cb cc
  match k,hk with
  |0,_=>
   go_wp2
   all_goals first
    |(exfalso;omega)
    |exact ⟨⟨1,by omega,rfl,_,by rw [alloc_eq_grow,grow_grow]⟩,by decide⟩
  |1,_=>
   go_wp2
   all_goals first
    |(exfalso;omega)
    |exact ⟨⟨2,by omega,rfl,_,by rw [alloc_eq_grow,grow_grow]⟩,by decide⟩
  |2,_=>
   go_wp2
   all_goals first
    |(exfalso;omega)
    |exact ⟨⟨3,by omega,rfl,_,by rw [alloc_eq_grow,grow_grow]⟩,by decide⟩
  |3,_=>
   go_wp2
   go_ret
   exact ⟨rfl,os,rfl⟩
theorem cz (W:World) (os:Array Obj) (a:Addr) (h:a.block<W.heap.size):(grow W os).cell? a=W.cell? a:=by
 simp only [grow,World.cell?,Array.getElem?_append_left h]
theorem eH (w:World) (cs:Array Value) (e k i:Nat) (hk:k=w.heap.size):(w.alloc (.cells cs e)).cell? ⟨k,i,none⟩=cs[i]? :=by
 subst hk
 rw [alloc_eq_grow]
 simp only [grow,World.cell?]
 rw [Array.getElem?_append_right (Nat.le_refl _),Nat.sub_self]
 rfl
theorem Cf (a b c:Pt) (ha:bJ a) (hb:bJ b) (hc:bJ c) (W:World) (blk:Nat) (hl:blk<W.heap.size) (h0:W.cell? ⟨blk,0,none⟩=some (.int .i64 a.1)) (h1:W.cell? ⟨blk,1,none⟩=some (.int .i64 a.2)) (h2:W.cell? ⟨blk,2,none⟩=some (.int .i64 b.1)) (h3:W.cell? ⟨blk,3,none⟩=some (.int .i64 b.2)) (h4:W.cell? ⟨blk,4,none⟩=some (.int .i64 c.1)) (h5:W.cell? ⟨blk,5,none⟩=some (.int .i64 c.2)):
 Calls Tryz.prog 101 #[.slice (some ⟨blk,0,none⟩) 3 3] W fun e w'=>e= .returned (.bool true)∧∃os',w'=grow W os':=by
 have hI:=Ce a b c ha hb hc W blk (fun os=>(cz W os _ hl).trans h0) (fun os=>(cz W os _ hl).trans h1) (fun os=>(cz W os _ hl).trans h2) (fun os=>(cz W os _ hl).trans h3) (fun os=>(cz W os _ hl).trans h4) (fun os=>(cz W os _ hl).trans h5)
 have hC:Calls Tryz.prog 145 #[.slice (some ⟨blk,0,none⟩) 3 3, .func (.func 159) #[] #[]] W fun e w'=>e= .returned (.bool false)∧∃os',w'=grow W os':=by
  go_enter Tryz.func145,Tryz.ntmps145
  go_wp2_with (go_at_call 185;refine hI.mono ?_;rintro e w' ⟨rfl,os',rfl⟩)
  go_ret
  exact ⟨rfl,os',rfl⟩
 clear hI h0 h1 h2 h3 h4 h5
 go_enter Tryz.func101,Tryz.ntmps101
 go_wp2_with (go_at_call 145;refine hC.mono ?_;rintro e w' ⟨rfl,os',rfl⟩)
 go_ret
 exact ⟨rfl,os',rfl⟩
theorem yo (a b c:Pt) (ha:bJ a) (hb:bJ b) (hc:bJ c) (W:World):Calls Tryz.prog 102 #[ym a,ym b,ym c] W fun e w'=>e= .returned (.int .i64 (sd a b c))∧∃os',w'=grow W os':=by
 have hT:∀W,Calls Tryz.prog 160 #[ym a,ym b,ym a,ym c] W fun e w'=>e= .returned (.int .i64 (tm a b a c))∧∃os',w'=grow W os':=fun W=>by
  unfold ym tm
  obtain ⟨a1,a2⟩:=a
  obtain ⟨b1,b2⟩:=b
  obtain ⟨c1,c2⟩:=c
  simp only [bJ] at ha hb hc
  simp only
  have m1:=kP (x:=b1 - a1) (y:=c2 - a2) (m:=524288) (n:=524288) (by omega) (by omega)
  have m2:=kP (x:=b2 - a2) (y:=c1 - a1) (m:=524288) (n:=524288) (by omega) (by omega)
  go_enter Tryz.func160,Tryz.ntmps160
  go_wp2
  go_ret
  refine ⟨rfl, ?_⟩
  simp only [alloc_eq_grow,grow_grow]
  exact ⟨_,rfl⟩
 have hK:∀(x y:Int) (W:World),Calls Tryz.prog 51 #[.int .i64 x, .int .i64 y] W fun e w'=>e= .returned (.int .i64 (compareInt x y))∧w'=W:=fun x y W=>AnyG.cmp_Compare_int Tryz.Gx x y W
 have hs:sd a b c=compareInt (tm a b a c) 0:=by
  unfold sd fN compareInt
  repeat' split
  all_goals (first|rfl|omega)
 rw [hs]
 have hK:=hK (tm a b a c) 0
 generalize tm a b a c=t at*
 generalize compareInt t 0=r at*
 unfold ym at*
 go_enter Tryz.func102,Tryz.ntmps102
 go_wp2_with (first|(go_at_call 160;refine (hT _).mono ?_;rintro e w' ⟨rfl,os',rfl⟩)|(go_at_call 51;refine (hK _).mono ?_;rintro e w' ⟨rfl,rfl⟩))
 go_ret
 refine ⟨rfl, ?_⟩
 simp only [alloc_eq_grow,grow_grow]
 exact ⟨_,rfl⟩
theorem mD (w:World) (o:Obj) (a:Addr) (h:a.block<w.heap.size):(w.alloc o).cell? a=w.cell? a:=by
 rw [alloc_eq_grow];exact cz _ _ _ h
def KK (p:Pt):Obj:= .cells #[.int .i64 p.1, .int .i64 p.2] 71
theorem zJ (a b c:Pt) (ha:bJ a) (hb:bJ b) (hc:bJ c) (W:World):Calls Tryz.prog 48 #[ym a,ym b,ym c] W fun e w'=>e= .returned (.int .i64 (sd a b c))∧∃os',w'=grow W os':=by
 obtain ⟨W3,HK⟩:∃W3,((W.alloc (KK a)).alloc (KK b)).alloc (KK c)=W3:=⟨_,rfl⟩
 obtain ⟨W4,Cg⟩:∃W4,W3.alloc (.cells #[.int .i64 a.1, .int .i64 a.2, .int .i64 b.1, .int .i64 b.2, .int .i64 c.1, .int .i64 c.2] 71)=W4:=⟨_,rfl⟩
 have z3:W3.heap.size=W.heap.size+1+1+1:=by rw [← HK];simp only [World.size_alloc]
 have z4:W4.heap.size=W.heap.size+1+1+1+1:=by rw [← Cg,World.size_alloc,z3]
 have h1:=Cf a b c ha hb hc W4 (W.heap.size+1+1+1) (by omega) (by rw [← Cg,eH _ _ _ _ _ z3.symm];rfl) (by rw [← Cg,eH _ _ _ _ _ z3.symm];rfl) (by rw [← Cg,eH _ _ _ _ _ z3.symm];rfl) (by rw [← Cg,eH _ _ _ _ _ z3.symm];rfl) (by rw [← Cg,eH _ _ _ _ _ z3.symm];rfl) (by rw [← Cg,eH _ _ _ _ _ z3.symm];rfl)
 have c0:∀i,W4.cell? ⟨W.heap.size,i,none⟩= #[Value.int .i64 a.1, .int .i64 a.2][i]? :=fun i=>by
  rw [← Cg,mD _ _ _ (by show W.heap.size<_;omega), ← HK,mD _ _ _ (by simp only [World.size_alloc];omega),mD _ _ _ (by simp only [World.size_alloc];omega)]
  exact eH _ _ _ _ _ rfl
 have c1:∀i,W4.cell? ⟨W.heap.size+1,i,none⟩= #[Value.int .i64 b.1, .int .i64 b.2][i]? :=fun i=>by
  rw [← Cg,mD _ _ _ (by show W.heap.size+1<_;omega), ← HK,mD _ _ _ (by simp only [World.size_alloc];omega)]
  exact eH _ _ _ _ _ (by simp only [World.size_alloc])
 have c2:∀i,W4.cell? ⟨W.heap.size+1+1,i,none⟩= #[Value.int .i64 c.1, .int .i64 c.2][i]? :=fun i=>by
  rw [← Cg,mD _ _ _ (by show W.heap.size+1+1<_;omega), ← HK]
  exact eH _ _ _ _ _ (by simp only [World.size_alloc])
 have hW:∃os,W4=grow W os:=by
  rw [← Cg, ← HK]
  simp only [alloc_eq_grow,grow_grow]
  exact ⟨_,rfl⟩
 have yO:Calls Tryz.prog 101 #[.slice (some ⟨W.heap.size+1+1+1,0,none⟩) 3 3] W4 fun e w'=>e= .returned (.bool true)∧(∃os',grow W os'=w')∧w'.cell? ⟨W.heap.size,0,none⟩=some (.int .i64 a.1)∧w'.cell? ⟨W.heap.size,1,none⟩=some (.int .i64 a.2)∧w'.cell? ⟨W.heap.size+1,0,none⟩=some (.int .i64 b.1)∧w'.cell? ⟨W.heap.size+1,1,none⟩=some (.int .i64 b.2)∧w'.cell? ⟨W.heap.size+1+1,0,none⟩=some (.int .i64 c.1)∧w'.cell? ⟨W.heap.size+1+1,1,none⟩=some (.int .i64 c.2):=by
  refine h1.mono ?_
  rintro e w' ⟨he,os',rfl⟩
  obtain ⟨os,ho⟩:=hW
  refine ⟨he,⟨os++os',by rw [ho,grow_grow]⟩, ?_, ?_, ?_, ?_, ?_, ?_⟩
  ·rw [cz _ _ _ (by show W.heap.size<_;omega),c0];rfl
  ·rw [cz _ _ _ (by show W.heap.size<_;omega),c0];rfl
  ·rw [cz _ _ _ (by show W.heap.size+1<_;omega),c1];rfl
  ·rw [cz _ _ _ (by show W.heap.size+1<_;omega),c1];rfl
  ·rw [cz _ _ _ (by show W.heap.size+1+1<_;omega),c2];rfl
  ·rw [cz _ _ _ (by show W.heap.size+1+1<_;omega),c2];rfl
 rw [← Cg, ← HK] at yO
 clear h1 c0 c1 c2 hW z3 z4 Cg HK W4 W3
 have h2:=fun W=>yo a b c ha hb hc W
 generalize sd a b c=r at*
 clear ha hb hc
 unfold KK at*
 unfold ym at*
 go_enter Tryz.func48,Tryz.ntmps48
 go_wp2_with (first|(go_at_call 101;refine yO.mono ?_;rintro e w' ⟨rfl,⟨os',hw⟩,q0,q1,q2,q3,q4,q5⟩)|(go_at_call 102;refine (h2 _).mono ?_;rintro e w2 ⟨rfl,QS,QT⟩))
 go_ret
 refine ⟨rfl, ?_⟩
 rw [← hw,grow_grow]
 exact ⟨_,rfl⟩
theorem uS {W:World} {os:Array Obj} {a:Addr} {v:Value} (h:W.cell? a=some v):(grow W.drew os).cell? a=some v:=by
 by_cases hl:a.block<W.heap.size
 ·exact (cz W.drew os a hl).trans h
 ·unfold World.cell? at h
  rw [Array.getElem?_eq_none (Nat.le_of_not_lt hl)] at h
  cases h
theorem Ew (r:Int) (h: -1≤r∧r≤1):IntKind.i64.wrap (-r)= -r:=by
 have:r= -1∨r=0∨r=1:=by omega
 rcases this with rfl|rfl|rfl<;>decide
theorem Ex (a b c:Pt): -1≤sd a b c∧sd a b c≤1:=by
 unfold sd fN
 split
 ·decide
 ·split<;>decide
theorem HL (W:World) (B Xb bp op lp cp bl ol ll cl x i k bi oi li ci bk ok lk ck:Nat) (P Li Lk:Pt) (hP:bJ P) (NL:bJ Li) (NM:bJ Lk)
 (Pu:W.cell? ⟨B,0,none⟩=some (.slice (some ⟨bp,op,none⟩) lp cp)) (QU:W.cell? ⟨B,1,none⟩=some (.slice (some ⟨bl,ol,none⟩) ll cl)) (hX:W.cell? ⟨Xb,0,none⟩=some (.int .i64 x))
 (hx:x<lp) (hi:i<ll) (hk:k<ll) (hi1:1<li) (Bc:1<lk)
 (p0:W.cell? ⟨bp,op+x*2,none⟩=some (.int .i64 P.1)) (p1:W.cell? ⟨bp,op+x*2+1,none⟩=some (.int .i64 P.2))
 (si:W.cell? ⟨bl,ol+i,none⟩=some (.slice (some ⟨bi,oi,none⟩) li ci)) (sk:W.cell? ⟨bl,ol+k,none⟩=some (.slice (some ⟨bk,ok,none⟩) lk ck))
 (i0:W.cell? ⟨bi,oi+2,none⟩=some (.int .i64 Li.1)) (i1:W.cell? ⟨bi,oi+2+1,none⟩=some (.int .i64 Li.2)) (k0:W.cell? ⟨bk,ok+2,none⟩=some (.int .i64 Lk.1)) (k1:W.cell? ⟨bk,ok+2+1,none⟩=some (.int .i64 Lk.2)):
 Calls Tryz.prog 47 #[.int .i64 i, .int .i64 k, .pointer (some ⟨B,0,none⟩), .pointer (some ⟨Xb,0,none⟩)] W fun e w'=>e= .returned (.int .i64 (-(sd P Lk Li)))∧∃q os',w'=grow (W.drewN q) os':=by
 have h2:=fun W=>zJ P Lk Li hP NM NL W
 have hn:=Ew _ (Ex P Lk Li)
 generalize sd P Lk Li=r at*
 clear hP NL NM
 have a1:(1:Int)<(li:Int):=by omega
 have a2:(1:Int)<(lk:Int):=by omega
 have a3:(1:Int)≤(li:Int):=by omega
 have a4:(1:Int)≤(lk:Int):=by omega
 have b1:(x:Int)<(lp:Int):=by omega
 have b2:(i:Int)<(ll:Int):=by omega
 have b3:(k:Int)<(ll:Int):=by omega
 unfold ym at h2
 go_enter Tryz.func47,Tryz.ntmps47
 go_wp2
 go_region_held3 (fun w'=>w'.cell? ⟨B,0,none⟩=some (.slice (some ⟨bp,op,none⟩) lp cp)∧w'.cell? ⟨B,1,none⟩=some (.slice (some ⟨bl,ol,none⟩) ll cl)∧w'.cell? ⟨Xb,0,none⟩=some (.int .i64 x)∧w'.cell? ⟨bp,op+x*2,none⟩=some (.int .i64 P.1)∧w'.cell? ⟨bp,op+x*2+1,none⟩=some (.int .i64 P.2)∧w'.cell? ⟨bl,ol+i,none⟩=some (.slice (some ⟨bi,oi,none⟩) li ci)∧w'.cell? ⟨bl,ol+k,none⟩=some (.slice (some ⟨bk,ok,none⟩) lk ck)∧w'.cell? ⟨bi,oi+2,none⟩=some (.int .i64 Li.1)∧w'.cell? ⟨bi,oi+2+1,none⟩=some (.int .i64 Li.2)∧w'.cell? ⟨bk,ok+2,none⟩=some (.int .i64 Lk.1)∧w'.cell? ⟨bk,ok+2+1,none⟩=some (.int .i64 Lk.2)) (first|(go_keep;done)|(repeat' (first|(refine And.intro ?_ ?_)|(exact uS (by assumption))|(show W.cell? _=_;assumption))))
  (first|(go_at_call 48;refine (h2 _).mono ?_;rintro e w' ⟨rfl,os',rfl⟩))
 go_wp2
 go_ret
 exact ⟨rfl,1,_,rfl⟩
theorem HM (W:World) (B bp op lp cp i k:Nat) (Pi Pk:Pt)
 (Pu:W.cell? ⟨B,0,none⟩=some (.slice (some ⟨bp,op,none⟩) lp cp)) (hi:i<lp) (hk:k<lp)
 (i0:W.cell? ⟨bp,op+i*2,none⟩=some (.int .i64 Pi.1)) (i1:W.cell? ⟨bp,op+i*2+1,none⟩=some (.int .i64 Pi.2)) (k0:W.cell? ⟨bp,op+k*2,none⟩=some (.int .i64 Pk.1)) (k1:W.cell? ⟨bp,op+k*2+1,none⟩=some (.int .i64 Pk.2)):
 Calls Tryz.prog 49 #[.int .i64 i, .int .i64 k, .pointer (some ⟨B,0,none⟩)] W fun e w'=>e= .returned (.int .i64 (if compareInt Pi.2 Pk.2=0 then compareInt Pi.1 Pk.1 else compareInt Pi.2 Pk.2))∧∃q os',w'=grow (W.drewN q) os':=by
 have b2:(i:Int)<(lp:Int):=by omega
 have b3:(k:Int)<(lp:Int):=by omega
 generalize Pi.1=f1 at*
 generalize Pi.2=y1 at*
 generalize Pk.1=f2 at*
 generalize Pk.2=y2 at*
 have h3:=fun W b=>Cd W b (compareInt y1 y2) (compareInt f1 f2)
 generalize (if compareInt y1 y2=0 then compareInt f1 f2 else compareInt y1 y2)=r at h3 ⊢
 go_enter Tryz.func49,Tryz.ntmps49
 go_wp2
 go_region_held3 (fun w'=>w'.cell? ⟨B,0,none⟩=some (.slice (some ⟨bp,op,none⟩) lp cp)∧w'.cell? ⟨bp,op+i*2,none⟩=some (.int .i64 f1)∧w'.cell? ⟨bp,op+i*2+1,none⟩=some (.int .i64 y1)∧w'.cell? ⟨bp,op+k*2,none⟩=some (.int .i64 f2)∧w'.cell? ⟨bp,op+k*2+1,none⟩=some (.int .i64 y2)) (first|(go_keep;done)|(repeat' (first|(refine And.intro ?_ ?_)|(exact uS (by assumption))|(show W.cell? _=_;assumption))))
  (first|(go_at_call 51;refine (zI _ _ _).mono ?_;rintro e w' ⟨rfl,rfl⟩)|(go_at_call 50;refine (h3 _ _ (by simp) (by simp)).mono ?_;rintro e w' ⟨rfl,rfl⟩))
 go_wp2
 go_ret
 exact ⟨rfl,1,_,by rw [alloc_eq_grow];rfl⟩
end Go.Ab
end
section
namespace Go.Ab
open Go.Proofs Go.RowKit Go.Shelf Go.Sort
set_option maxRecDepth 10000
theorem zK {α:Type} {R:α→α→Prop} {l m:List α} (hp:l.Perm m) (ha:∀a b,a∈l→b∈l→R a b→R b a→a=b) (h1:l.Pairwise R) (h2:m.Pairwise R):l=m:=by
 induction l generalizing m with
 |nil=>exact hp.symm.eq_nil.symm
 |cons a l ih=>
  cases m with
  |nil=>exact absurd hp.length_eq (by simp)
  |cons b m=>
   obtain ⟨a1,a2⟩:=List.pairwise_cons.1 h1
   obtain ⟨b1,b2⟩:=List.pairwise_cons.1 h2
   have hab:a=b:=by
    refine Classical.byContradiction fun hne=> ?_
    have ma:a∈b::m:=hp.mem_iff.1 (by simp)
    have mb:b∈a::l:=hp.mem_iff.2 (by simp)
    have ma:a∈m:=(List.mem_cons.1 ma).elim (fun e=>absurd e hne) id
    have Pv:b∈l:=(List.mem_cons.1 mb).elim (fun e=>absurd e.symm hne) id
    exact hne (ha a b (by simp) mb (a1 b Pv) (b1 a ma))
   subst hab
   rw [ih ((List.perm_cons a).1 hp) (fun c d hc hd=>ha c d (by simp [hc]) (by simp [hd])) a2 b2]
structure Cy (cf:Int→Int→Int) (l l':List Int):Prop where
 perm:l.Perm l'
 nd:l.Nodup
 ord:l'.Pairwise fun x y=>cf x y<0∧¬cf y x<0
 KL:∀x∈l,¬cf x x<0
section
variable {cf:Int→Int→Int} {l l':List Int} (S:Cy cf l l')
include S
theorem Cy.idx {x:Int} (h:x∈l):∃i,i<l'.length∧l'.getD i 0=x:=by
 obtain ⟨i,hi,e⟩:=List.mem_iff_getElem.1 (S.perm.mem_iff.1 h)
 exact ⟨i,hi,by rw [List.getD_eq_getElem?_getD,List.getElem?_eq_getElem hi];exact e⟩
theorem Cy.lt {i j:Nat} (hi:i<l'.length) (hj:j<l'.length):cf (l'.getD i 0) (l'.getD j 0)<0↔i<j:=by
 rw [List.getD_eq_getElem?_getD,List.getElem?_eq_getElem hi,List.getD_eq_getElem?_getD,List.getElem?_eq_getElem hj,Option.getD_some,Option.getD_some]
 rcases Nat.lt_trichotomy i j with h|h|h
 ·have:=List.pairwise_iff_getElem.1 S.ord i j hi hj h
  exact ⟨fun _=>h,fun _=>this.1⟩
 ·subst h
  have:=S.KL (l'[i]) (S.perm.mem_iff.2 (List.getElem_mem hi))
  exact ⟨fun h=>absurd h this,fun h=>by omega⟩
 ·have:=List.pairwise_iff_getElem.1 S.ord j i hj hi h
  exact ⟨fun h=>absurd h this.2,fun h=>by omega⟩
theorem Cy.swo:SWO (ltOf fun x y: {x // x∈l} =>cf x.1 y.1) where
 irrefl x:=decide_eq_false (S.KL x.1 x.2)
 trans x y z h1 h2:=by
  obtain ⟨i,hi,ei⟩:=S.idx x.2
  obtain ⟨j,hj,ej⟩:=S.idx y.2
  obtain ⟨k,hk,ek⟩:=S.idx z.2
  simp only [ltOf,decide_eq_true_eq, ← ei, ← ej, ← ek,S.lt hi hj,S.lt hj hk,S.lt hi hk] at h1 h2 ⊢
  omega
 ntrans x y z h1 h2:=by
  obtain ⟨i,hi,ei⟩:=S.idx x.2
  obtain ⟨j,hj,ej⟩:=S.idx y.2
  obtain ⟨k,hk,ek⟩:=S.idx z.2
  simp only [ltOf,decide_eq_false_iff_not, ← ei, ← ej, ← ek,S.lt hi hj,S.lt hj hk,S.lt hi hk] at h1 h2 ⊢
  omega
theorem Cy.eq {d d':Array {x // x∈l}} [Inhabited {x // x∈l}] (hd:d.toList=l.attach) (hp:PermIn 0 d.size d d') (hs:SortedIn (ltOf fun x y: {x // x∈l} =>cf x.1 y.1) 0 d.size d'):d'.toList.map (·.1)=l':=by
 obtain ⟨h1,_,h3⟩:=hp
 have e1:d'.extract 0 d.size=d':=by rw [← h1];exact Array.extract_size
 have e2:d.extract 0 d.size=d:=Array.extract_size
 rw [e1,e2,hd] at h3
 have h4:(d'.toList.map (·.1)).Perm l:=by
  have:=h3.map (fun x: {x // x∈l} =>x.1)
  rwa [List.attach_map_subtype_val] at this
 refine zK (R:=fun x y=>¬cf y x<0) (h4.trans S.perm) (fun a b ha hb r1 r2=> ?_) ?_ (S.ord.imp fun h=>h.2)
 ·obtain ⟨i,hi,ei⟩:=S.idx (h4.mem_iff.1 ha)
  obtain ⟨j,hj,ej⟩:=S.idx (h4.mem_iff.1 hb)
  rw [← ei, ← ej,S.lt hj hi] at r1
  rw [← ei, ← ej,S.lt hi hj] at r2
  rw [← ei, ← ej,show i=j by omega]
 ·rw [List.pairwise_map,List.pairwise_iff_getElem]
  intro i j hi hj hij
  have:=hs i j (by omega) hij (by simpa [h1] using hj)
  rw [getElem!_pos d' j (by simpa using hj),getElem!_pos d' i (by simpa using hi)] at this
  simpa [ltOf] using this
end
def Ey (P:Program) (g:Nat) (cb:Array Value) (cf:Int→Int→Int) (l:List Int) (blk:Nat) (w:World):Prop:=
 ∀W:World,w.heap.size≤W.heap.size→(∀b,b<w.heap.size→b≠blk→W.heap[b]? =w.heap[b]?)→∀x,x∈l→∀y,y∈l→
  Calls P g (#[.int .i64 x, .int .i64 y]++cb) W fun e w'=>e= .returned (.int .i64 (cf x y))∧∃q os',w'=grow (W.drewN q) os'
theorem lR {α:Type} [Inhabited α] (enc:α→Value) (w:World) (blk m:Nat) (dk:Array α) (os:Array Obj) {b:Nat} (hb:b<w.heap.size) (hne:b≠blk):(sortWorld enc w blk 0 m dk os).heap[b]? =w.heap[b]? :=by
 show ((w.heap.modify blk _)++os)[b]? =_
 rw [Array.getElem?_append_left (by simpa using hb),Array.getElem?_modify,if_neg (by omega)]
theorem lS {α:Type} [Inhabited α] (enc:α→Value) (w:World) (blk m:Nat) (dk:Array α) (os:Array Obj):w.heap.size≤(sortWorld enc w blk 0 m dk os).heap.size:=by
 show _≤((w.heap.modify blk _)++os).size
 simp
theorem ud {α:Type} [Inhabited α] (enc:α→Value) (w:World) (blk m:Nat) (dk:Array α) (os:Array Obj) {cur:Array Value} {e:TypeId} {fr:Nat × Nat} (hb:w.heap[blk]? =some (.cells cur e fr)):
 (sortWorld enc w blk 0 m dk os).heap[blk]? =some (.cells (putCells enc 0 dk cur) e fr):=by
 have hlt:blk<w.heap.size:=(Array.getElem?_eq_some_iff.1 hb).1
 show ((w.heap.modify blk _)++os)[blk]? =_
 rw [Array.getElem?_append_left (by simpa using hlt),Array.getElem?_modify,if_pos rfl,hb]
 rfl
theorem qv (g:Nat) (cb:Array Value) {cf:Int→Int→Int} {l l':List Int} (S:Cy cf l l') (hlen:l.length≤1000000) (eg:∀args w,(callFunc g args).run Tryz.prog w= .ok (.enter g args) w)
 (blk cap:Nat) (w:World) {cur:Array Value} {e:TypeId} (hb:w.heap[blk]? =some (.cells cur e (0,0))) (hc:∀i,i<l.length→cur[i]? =some (.int .i64 (l.getD i 0))) (hne:l≠ [])
 (hcmp:Ey Tryz.prog g cb cf l blk w):
 Calls Tryz.prog 46 #[.slice (some ⟨blk,0,none⟩) l.length cap, .func (.func g) #[] cb] w fun en w'=>en= .returned (.tuple #[])∧
  w'.os=w.os∧w'.tape=w.tape∧w'.output=w.output∧w.heap.size≤w'.heap.size∧(∀b,b<w.heap.size→b≠blk→w'.heap[b]? =w.heap[b]?)∧
  ∃cur',w'.heap[blk]? =some (.cells cur' e (0,0))∧cur'.size=cur.size∧∀i,i<l'.length→cur'[i]? =some (.int .i64 (l'.getD i 0)):=by
 have hlt:blk<w.heap.size:=(Array.getElem?_eq_some_iff.1 hb).1
 obtain ⟨a0,ha0⟩:∃a,a∈l:=by
  cases l with
  |nil=>exact absurd rfl hne
  |cons a l=>exact ⟨a,by simp⟩
 letI:Inhabited {x // x∈l} :=⟨⟨a0,ha0⟩⟩
 have hsz:(l.attach.toArray).size=l.length:=by simp
 have Mp:∀j (hj:j<l.length),((l.attach.toArray)[j]!).1=l.getD j 0:=fun j hj=>by
  rw [getElem!_pos _ j (by simpa using hj),List.getD_eq_getElem?_getD,List.getElem?_eq_getElem hj]
  simp
 have hH:Holds (fun x: {x // x∈l} =>Value.int .i64 x.1) w blk 0 l.attach.toArray:=fun j hj=>by
  rw [hsz] at hj
  refine ⟨?_, ?_⟩
  ·show _=some (Value.int .i64 ((l.attach.toArray)[j]!).1)
   rw [Nat.zero_add,Mp j hj, ← hc j hj]
   simp [World.cell?,hb]
  ·simp [World.frozen?,hb]
 have H9:CmpLays1 Tryz.prog g cb (fun x: {x // x∈l} =>Value.int .i64 x.1) (fun x y=>cf x.1 y.1) blk 0 (l.attach.toArray).size w:=fun m os dk _ x y=>
  hcmp _ (lS ..) (fun b h1 h2=>lR _ _ _ _ _ _ h1 h2) x.1 x.2 y.1 y.2
 have J8:=Any.slices_SortFunc Tryz.Ev (fun x: {x // x∈l} =>Value.int .i64 x.1) (fun _=>rfl) (fun x y=>cf x.1 y.1) S.swo g cb blk 0 cap l.attach.toArray w eg H9 hH hlt (by rw [hsz];omega)
 rw [hsz] at J8
 refine Calls.mono J8 ?_
 rintro en w' ⟨rfl,d',n,os,hp,hs,rfl⟩
 rw [← hsz] at hp hs
 have he:=S.eq (d:=l.attach.toArray) (by simp) hp hs
 have hds:d'.size=l.length:=by rw [hp.1,hsz]
 refine ⟨rfl,rfl,rfl,rfl,lS ..,fun b h1 h2=>lR _ _ _ _ _ _ h1 h2,_,ud _ _ _ _ _ _ hb,by simp [putCells],fun i hi=> ?_⟩
 have hi2:i<l.length:=by rw [S.perm.length_eq];exact hi
 have hic:i<cur.size:=(Array.getElem?_eq_some_iff.1 (hc i hi2)).1
 simp only [putCells,Array.getElem?_mapIdx,Array.getElem?_eq_getElem hic,Option.map_some]
 rw [if_pos ⟨by omega,by omega⟩,Nat.sub_zero,getElem!_pos d' i (by omega)]
 have:l'.getD i 0=(d'[i]'(by omega)).1:=by
  rw [← he,List.getD_eq_getElem?_getD,List.getElem?_map,Array.getElem?_toList,Array.getElem?_eq_getElem (by omega)]
  rfl
 rw [this]
theorem gV (p:Option Addr) (cap:Nat) (fv:Value) (w:World):Calls Tryz.prog 46 #[.slice p 0 cap,fv] w fun e w'=>e= .returned (.tuple #[])∧w'=w:=
 AnyF.slices_SortFunc_none {Tryz.Ev with} p cap fv w
end Go.Ab
end
section
namespace Go.Ab
open Go.Proofs Go.RowKit Go.Shelf Go.Sort
set_option maxRecDepth 10000
theorem MV {a b:AObj} (ha:a.isNest=false) (hb:b.isNest=false) {q:Nat} {o:AObj} (h:bH [(10000,a),(10001,b)] q=some o):(q=10000∧o=a)∨(q=10001∧o=b):=by
 have hl:look [(10000,a),(10001,b)] q=some o:=(gW (fun p hp=>by
  simp only [List.mem_cons,List.not_mem_nil,or_false] at hp
  rcases hp with rfl|rfl
  ·exact ha
  ·exact hb) h).1
 simp only [look] at hl
 split at hl
 ·rename_i e;cases hl;exact .inl ⟨e.symm,rfl⟩
 ·split at hl
  ·rename_i e;cases hl;exact .inr ⟨e.symm,rfl⟩
  ·cases hl
theorem zL {g:Nat} {cells:List AV} {cf:Int→Int→Int} {l l':List Int} (S:Cy cf l l') (hlen:l.length≤1000000) (eg:∀args w,(callFunc g args).run Tryz.prog w= .ok (.enter g args) w) (tS:AV.idss cells= [])
 (hcmp:∀(w:World) (E:Env) (B blk:Nat) (vs:List Value) (e:TypeId),w.heap[B]? =some (.cells vs.toArray e (0,0))→AVrs w E cells vs→B≠blk→E.z blk=0→Ey Tryz.prog g #[.pointer (some ⟨B,0,none⟩)] cf l blk w):
 Spec Tryz.prog 46 (Args [.ref 10000, .fn g [] [.ptr 10001 0]]) [(10000, .own 3 1 (l.map rI)),(10001, .box cells)] (.tup []) [(10000, .own 3 1 (l'.map rI)),(10001, .box cells)]:=by
 refine ⟨⟨Tryz.f46,_,Tryz.func46,by kernel_rfl,rfl⟩,fun E w vals hg hA=> ?_⟩
 obtain ⟨v,vs,rfl,h0,h3⟩:=hA
 obtain ⟨v2,Pw,rfl,h1,h4⟩:=h3
 simp only [AVrs] at h4
 subst h4
 obtain ⟨us,us',rfl,h5,h6⟩:=h1
 obtain ⟨u,GX,rfl,h7,h8⟩:=h6
 simp only [AVrs] at h5 h8
 subst h5 h8
 obtain ⟨rfl,_⟩:=h0
 have o1:=hg.iS 10000 (.own 3 1 (l.map rI)) rfl
 obtain ⟨B,cs,e,g1,g2,g3,g4,g5⟩:=hg.iS 10001 (.box cells) rfl
 obtain ⟨B',hB,rfl⟩:=h7
 rw [g1] at hB
 cases hB
 obtain ⟨_,_,o2⟩:=o1
 have pM:l.length=l'.length:=S.perm.length_eq
 have hkeep:∀ {w':World},(∀b,0<E.z b→w'.heap[b]? =w.heap[b]?)→aH w E.z w' E.z:=fun h b=>⟨Nat.le_refl _,fun o ho=>by
  simp only [World.cell?,h b (by omega)]⟩
 rcases o2 with ⟨r0,r1,p,r2⟩|⟨b,cur,cap,r0,r1,r2,r3,r4,r5,r6,r7⟩
 ·have hl0:l= []:=List.map_eq_nil_iff.1 r1
  subst hl0
  have zM:l'= []:=S.perm.symm.eq_nil
  subst zM
  rw [r2]
  refine (gV p 0 _ w).mono ?_
  rintro en w' ⟨rfl,rfl⟩
  exact ⟨_,E,rfl,E4.refl _ _ _,hg,fun q o b hq hro hb=> .inr ⟨q,o,hq,hro,hb⟩,⟨[],rfl,rfl⟩⟩
 ·rw [List.length_map] at r2 r3
  rw [r2]
  by_cases hl0:l= []
  ·subst hl0
   have zM:l'= []:=S.perm.symm.eq_nil
   subst zM
   refine (gV _ cap _ w).mono ?_
   rintro en w' ⟨rfl,rfl⟩
   exact ⟨_,E,rfl,E4.refl _ _ _,hg,fun q o b hq hro hb=> .inr ⟨q,o,hq,hro,hb⟩,⟨[],rfl,rfl⟩⟩
  have hne:B≠b:=fun e=>by
   subst e
   have:=hg.inj 10000 10001 B (by simp [bO,look]) (by simp [bO,look]) r0 g1
   omega
  have z7:b<w.heap.size:=(Array.getElem?_eq_some_iff.1 r1).1
  have HN:∀i,i<l.length→cur[i]? =some (.int .i64 (l.getD i 0)):=fun i hi=>by
   obtain ⟨v,h1,h2⟩:=r7 i 0 (rI l[i]) (.sc (.int .i64 l[i])) (by simp [List.getElem?_eq_getElem hi]) rfl
   rw [vY h2] at h1
   simpa [List.getD_eq_getElem?_getD,List.getElem?_eq_getElem hi] using h1
  refine (qv g #[.pointer (some ⟨B,0,none⟩)] S hlen eg b cap w r1 HN hl0 (hcmp w E B b cs e g2 g4 hne r6)).mono ?_
  rintro en w' ⟨rfl,k1,k2,k3,k4,k5,cur',k6,k7,k8⟩
  have hst:aH w E.z w' E.z:=hkeep fun q hq=>by
   by_cases MW:q<w.heap.size
   ·exact k5 q MW fun e=>by subst e;omega
   ·have:=hg.fresh q (by omega);omega
  have hs2:∀ {q o},bH [(10000, .own 3 1 (l'.map rI)),(10001, .box cells)] q=some o→(q=10000∧o= .own 3 1 (l'.map rI))∨(q=10001∧o= .box cells):=fun h=>MV rfl rfl h
  have J9:∀ {q:Nat},bH [(10000, .own 3 1 (l'.map rI)),(10001, .box cells)] q≠none→bH [(10000, .own 3 1 (l.map rI)),(10001, .box cells)] q≠none:=fun {q} h=>by
   obtain ⟨o,ho⟩:=Option.ne_none_iff_exists'.1 h
   rcases hs2 ho with ⟨rfl,_⟩|⟨rfl,_⟩
   ·simp [bO,look]
   ·simp [bO,look]
  refine ⟨_,E,rfl,⟨k1,k2,k3,k4,hst,fun q hq hnm=>⟨k5 q hq fun e=> ?_,rfl⟩,fun _ _=>⟨rfl,rfl⟩⟩,⟨fun q hq=> ?_,fun q q' c hq kR=>hg.inj q q' c (J9 hq) (J9 kR),fun q o hq=> ?_,fun q hq=>hg.fresh q (by omega)⟩,fun q o c hq hro hc=> ?_,⟨[],rfl,rfl⟩⟩
  ·subst e
   exact hnm ⟨10000,_,rfl,rfl,r0⟩
  ·simp only [look] at hq
   split at hq
   ·omega
   ·split at hq
    ·omega
    ·exact absurd rfl hq
  ·rcases hs2 hq with ⟨rfl,rfl⟩|⟨rfl,rfl⟩
   ·refine ⟨fun r hr=> ?_,by decide, .inr ⟨b,cur',cap,r0,k6, ?_, ?_,by rw [k7];exact r4,r5,r6,fun i j r x h1 h2=> ?_⟩⟩
    ·obtain ⟨v,_,rfl⟩:=List.mem_map.1 hr
     rfl
    ·rw [List.length_map, ← pM];exact r2
    ·rw [List.length_map, ← pM];exact r3
    ·rw [List.getElem?_map] at h1
     obtain ⟨v,h3,rfl⟩:=Option.map_eq_some_iff.1 h1
     cases j with
     |succ j=>simp [rI] at h2
     |zero=>
      simp only [rI,List.getElem?_cons_zero,Option.some.injEq] at h2
      subst h2
      have hi:i<l'.length:=(List.getElem?_eq_some_iff.1 h3).1
      refine ⟨_,by simpa using k8 i hi, ?_⟩
      rw [h3]
      exact .sc _ rfl
   ·have Gy:B<w.heap.size:=(Array.getElem?_eq_some_iff.1 g2).1
    exact ⟨B,cs,e,g1,(k5 B Gy hne).trans g2,g3,AVrs.mono ⟨hst,fun _ _=>rfl,fun _ _=>rfl⟩ (fun _ _=>trivial) (live:=fun _=>True) g4,g5⟩
  ·refine .inr ?_
   rcases hs2 hq with ⟨rfl,rfl⟩|⟨rfl,rfl⟩
   ·exact ⟨10000,_,rfl,rfl,hc⟩
   ·exact ⟨10001,_,rfl,rfl,hc⟩
end Go.Ab
end
section
namespace Go.Ab
open Go.Proofs Go.RowKit Go.Shelf Go.Sort
set_option maxRecDepth 10000
theorem MX {a b c:AObj} (ha:a.isNest=false) (hb:b.isNest=false) (hc:c.isNest=false) {q:Nat} {o:AObj} (h:bH [(10000,a),(10001,b),(10002,c)] q=some o):(q=10000∧o=a)∨(q=10001∧o=b)∨(q=10002∧o=c):=by
 have hl:look [(10000,a),(10001,b),(10002,c)] q=some o:=(gW (fun p hp=>by
  simp only [List.mem_cons,List.not_mem_nil,or_false] at hp
  rcases hp with rfl|rfl|rfl
  ·exact ha
  ·exact hb
  ·exact hc) h).1
 simp only [look] at hl
 split at hl
 ·rename_i e;cases hl;exact .inl ⟨e.symm,rfl⟩
 ·split at hl
  ·rename_i e;cases hl;exact .inr (.inl ⟨e.symm,rfl⟩)
  ·split at hl
   ·rename_i e;cases hl;exact .inr (.inr ⟨e.symm,rfl⟩)
   ·cases hl
theorem yp {g:Nat} {c1 c2:List AV} {cf:Int→Int→Int} {l l':List Int} (S:Cy cf l l') (hlen:l.length≤1000000) (eg:∀args w,(callFunc g args).run Tryz.prog w= .ok (.enter g args) w)
 (hcmp:∀(w:World) (E:Env) (B1 B2 blk:Nat) (v1 v2:List Value) (e1 e2:TypeId),w.heap[B1]? =some (.cells v1.toArray e1 (0,0))→w.heap[B2]? =some (.cells v2.toArray e2 (0,0))→AVrs w E c1 v1→AVrs w E c2 v2→B1≠blk→B2≠blk→E.z blk=0→Ey Tryz.prog g #[.pointer (some ⟨B1,0,none⟩), .pointer (some ⟨B2,0,none⟩)] cf l blk w):
 Spec Tryz.prog 46 (Args [.ref 10000, .fn g [] [.ptr 10001 0, .ptr 10002 0]]) [(10000, .own 3 1 (l.map rI)),(10001, .box c1),(10002, .box c2)] (.tup []) [(10000, .own 3 1 (l'.map rI)),(10001, .box c1),(10002, .box c2)]:=by
 refine ⟨⟨Tryz.f46,_,Tryz.func46,by kernel_rfl,rfl⟩,fun E w vals hg hA=> ?_⟩
 obtain ⟨v,vs,rfl,h0,h3⟩:=hA
 obtain ⟨v2,Pw,rfl,h1,h4⟩:=h3
 simp only [AVrs] at h4
 subst h4
 obtain ⟨us,us',rfl,h5,h6⟩:=h1
 obtain ⟨u,GX,rfl,h7,h8⟩:=h6
 obtain ⟨u2,QV,rfl,h9,KE⟩:=h8
 simp only [AVrs] at h5 KE
 subst h5 KE
 obtain ⟨rfl,_⟩:=h0
 have o1:=hg.iS 10000 (.own 3 1 (l.map rI)) rfl
 obtain ⟨B,cs,e,g1,g2,g3,g4,g5⟩:=hg.iS 10001 (.box c1) rfl
 obtain ⟨D,ds,e',Iy,Iz,K7,NN,Px⟩:=hg.iS 10002 (.box c2) rfl
 obtain ⟨B',hB,rfl⟩:=h7
 rw [g1] at hB
 cases hB
 obtain ⟨D',hD,rfl⟩:=h9
 rw [Iy] at hD
 cases hD
 obtain ⟨_,_,o2⟩:=o1
 have pM:l.length=l'.length:=S.perm.length_eq
 have hkeep:∀ {w':World},(∀b,0<E.z b→w'.heap[b]? =w.heap[b]?)→aH w E.z w' E.z:=fun h b=>⟨Nat.le_refl _,fun o ho=>by
  simp only [World.cell?,h b (by omega)]⟩
 rcases o2 with ⟨r0,r1,p,r2⟩|⟨b,cur,cap,r0,r1,r2,r3,r4,r5,r6,r7⟩
 ·have hl0:l= []:=List.map_eq_nil_iff.1 r1
  subst hl0
  have zM:l'= []:=S.perm.symm.eq_nil
  subst zM
  rw [r2]
  refine (gV p 0 _ w).mono ?_
  rintro en w' ⟨rfl,rfl⟩
  exact ⟨_,E,rfl,E4.refl _ _ _,hg,fun q o b hq hro hb=> .inr ⟨q,o,hq,hro,hb⟩,⟨[],rfl,rfl⟩⟩
 ·rw [List.length_map] at r2 r3
  rw [r2]
  by_cases hl0:l= []
  ·subst hl0
   have zM:l'= []:=S.perm.symm.eq_nil
   subst zM
   refine (gV _ cap _ w).mono ?_
   rintro en w' ⟨rfl,rfl⟩
   exact ⟨_,E,rfl,E4.refl _ _ _,hg,fun q o b hq hro hb=> .inr ⟨q,o,hq,hro,hb⟩,⟨[],rfl,rfl⟩⟩
  have hne:B≠b:=fun e=>by
   subst e
   have:=hg.inj 10000 10001 B (by simp [bO,look]) (by simp [bO,look]) r0 g1
   omega
  have Ch:D≠b:=fun e=>by
   subst e
   have:=hg.inj 10000 10002 D (by simp [bO,look]) (by simp [bO,look]) r0 Iy
   omega
  have z7:b<w.heap.size:=(Array.getElem?_eq_some_iff.1 r1).1
  have HN:∀i,i<l.length→cur[i]? =some (.int .i64 (l.getD i 0)):=fun i hi=>by
   obtain ⟨v,h1,h2⟩:=r7 i 0 (rI l[i]) (.sc (.int .i64 l[i])) (by simp [List.getElem?_eq_getElem hi]) rfl
   rw [vY h2] at h1
   simpa [List.getD_eq_getElem?_getD,List.getElem?_eq_getElem hi] using h1
  refine (qv g #[.pointer (some ⟨B,0,none⟩), .pointer (some ⟨D,0,none⟩)] S hlen eg b cap w r1 HN hl0 (hcmp w E B D b cs ds e e' g2 Iz g4 NN hne Ch r6)).mono ?_
  rintro en w' ⟨rfl,k1,k2,k3,k4,k5,cur',k6,k7,k8⟩
  have hst:aH w E.z w' E.z:=hkeep fun q hq=>by
   by_cases MW:q<w.heap.size
   ·exact k5 q MW fun e=>by subst e;omega
   ·have:=hg.fresh q (by omega);omega
  have hs2:∀ {q o},bH [(10000, .own 3 1 (l'.map rI)),(10001, .box c1),(10002, .box c2)] q=some o→(q=10000∧o= .own 3 1 (l'.map rI))∨(q=10001∧o= .box c1)∨(q=10002∧o= .box c2):=fun h=>MX rfl rfl rfl h
  have J9:∀ {q:Nat},bH [(10000, .own 3 1 (l'.map rI)),(10001, .box c1),(10002, .box c2)] q≠none→bH [(10000, .own 3 1 (l.map rI)),(10001, .box c1),(10002, .box c2)] q≠none:=fun {q} h=>by
   obtain ⟨o,ho⟩:=Option.ne_none_iff_exists'.1 h
   rcases hs2 ho with ⟨rfl,_⟩|⟨rfl,_⟩|⟨rfl,_⟩
   ·simp [bO,look]
   ·simp [bO,look]
   ·simp [bO,look]
  refine ⟨_,E,rfl,⟨k1,k2,k3,k4,hst,fun q hq hnm=>⟨k5 q hq fun e=> ?_,rfl⟩,fun _ _=>⟨rfl,rfl⟩⟩,⟨fun q hq=> ?_,fun q q' c hq kR=>hg.inj q q' c (J9 hq) (J9 kR),fun q o hq=> ?_,fun q hq=>hg.fresh q (by omega)⟩,fun q o c hq hro hc=> ?_,⟨[],rfl,rfl⟩⟩
  ·subst e
   exact hnm ⟨10000,_,rfl,rfl,r0⟩
  ·simp only [look] at hq
   split at hq
   ·omega
   ·split at hq
    ·omega
    ·split at hq
     ·omega
     ·exact absurd rfl hq
  ·rcases hs2 hq with ⟨rfl,rfl⟩|⟨rfl,rfl⟩|⟨rfl,rfl⟩
   ·refine ⟨fun r hr=> ?_,by decide, .inr ⟨b,cur',cap,r0,k6, ?_, ?_,by rw [k7];exact r4,r5,r6,fun i j r x h1 h2=> ?_⟩⟩
    ·obtain ⟨v,_,rfl⟩:=List.mem_map.1 hr
     rfl
    ·rw [List.length_map, ← pM];exact r2
    ·rw [List.length_map, ← pM];exact r3
    ·rw [List.getElem?_map] at h1
     obtain ⟨v,h3,rfl⟩:=Option.map_eq_some_iff.1 h1
     cases j with
     |succ j=>simp [rI] at h2
     |zero=>
      simp only [rI,List.getElem?_cons_zero,Option.some.injEq] at h2
      subst h2
      have hi:i<l'.length:=(List.getElem?_eq_some_iff.1 h3).1
      refine ⟨_,by simpa using k8 i hi, ?_⟩
      rw [h3]
      exact .sc _ rfl
   ·have Gy:B<w.heap.size:=(Array.getElem?_eq_some_iff.1 g2).1
    exact ⟨B,cs,e,g1,(k5 B Gy hne).trans g2,g3,AVrs.mono ⟨hst,fun _ _=>rfl,fun _ _=>rfl⟩ (fun _ _=>trivial) (live:=fun _=>True) g4,g5⟩
   ·have Py:D<w.heap.size:=(Array.getElem?_eq_some_iff.1 Iz).1
    exact ⟨D,ds,e',Iy,(k5 D Py Ch).trans Iz,K7,AVrs.mono ⟨hst,fun _ _=>rfl,fun _ _=>rfl⟩ (fun _ _=>trivial) (live:=fun _=>True) NN,Px⟩
  ·refine .inr ?_
   rcases hs2 hq with ⟨rfl,rfl⟩|⟨rfl,rfl⟩|⟨rfl,rfl⟩
   ·exact ⟨10000,_,rfl,rfl,hc⟩
   ·exact ⟨10001,_,rfl,rfl,hc⟩
   ·exact ⟨10002,_,rfl,rfl,hc⟩
end Go.Ab
end
section
namespace Go.Ab
open Go.Proofs
set_option maxRecDepth 10000
structure qa (g:Gr) (p:Pl) (k:Nat) (e:Int):Prop where
 e0:0≤e
 e1:e<g.es.length
 low:jU g e∈p.ord.take k
 top:kU g e∉p.ord.take k
structure Ez (g:Gr) (p:Pl) (L:Nat→Int→Int→Prop):Prop where
 up:∀e:Int,0≤e→e<g.es.length→∀k,k<g.n.toNat→bL p k=kU g e→jU g e∈p.ord.take k
 Pz:∀k,k<g.n.toNat→∀a b c:Int,qa g p k a→qa g p k b→qa g p k c→kU g a=bL p k→kU g c=bL p k→L k a b→L k b c→kU g b=bL p k
 keep:∀k,k<g.n.toNat→∀a b:Int,qa g p k a→qa g p k b→kU g a≠bL p k→kU g b≠bL p k→L k a b→L (k+1) a b
 left:∀k,k<g.n.toNat→∀a b c:Int,qa g p k a→qa g p k b→kU g a≠bL p k→kU g b=bL p k→c∈kC p (bL p k)→L k a b→L (k+1) a c
 right:∀k,k<g.n.toNat→∀a b c:Int,qa g p k a→qa g p k b→kU g a≠bL p k→kU g b=bL p k→c∈kC p (bL p k)→L k b a→L (k+1) c a
 outs:∀k,k<g.n.toNat→(kC p (bL p k)).Pairwise (L (k+1))
theorem uT {α:Type} (P:α→Prop) [DecidablePred P]:∀l:List α,∃X v,l=X++v∧(∀t∈X,P t)∧(v= []∨∃b v',v=b::v'∧¬P b)
 | []=>⟨[], [],rfl,by simp, .inl rfl⟩
 |a::l=>by
  by_cases h:P a
  ·obtain ⟨X,v,e,h1,h2⟩:=uT P l
   exact ⟨a::X,v,by simp [e],fun t ht=>(List.mem_cons.1 ht).elim (fun e=>e ▸ h) (h1 t),h2⟩
  ·exact ⟨[],a::l,rfl,by simp, .inr ⟨a,l,rfl,h⟩⟩
theorem uU {α:Type} {P:α→Prop} [DecidablePred P] {R:α→α→Prop} :∀ {l:List α},l.Pairwise R→(∀a b c,a∈l→b∈l→c∈l→P a→P c→R a b→R b c→P b)→(∃a∈l,P a)→
 ∃u X v,l=u++X++v∧(∀t∈u,¬P t)∧(∀t∈X,P t)∧X≠ []∧∀t∈v,¬P t
 | [],_,_,⟨a,ha,_⟩=>by cases ha
 |t::l,hp,hb,hex=>by
  obtain ⟨hp1,hp2⟩:=List.pairwise_cons.1 hp
  by_cases h:P t
  ·obtain ⟨X,v,e,h1,h2⟩:=uT P l
   refine ⟨[],t::X,v,by simp [e],by simp,fun s hs=>(List.mem_cons.1 hs).elim (fun e=>e ▸ h) (h1 s),by simp,fun c hc NO=> ?_⟩
   rcases h2 with rfl|⟨b,v',rfl,hnb⟩
   ·cases hc
   ·have aJ:b∈l:=by rw [e];simp
    rcases List.mem_cons.1 hc with rfl|tM
    ·exact hnb NO
    ·have hbc:R b c:=by
      rw [e] at hp2
      have:=(List.pairwise_append.1 hp2).2.1
      exact (List.pairwise_cons.1 this).1 c tM
     exact hnb (hb t b c (by simp) (by simp [aJ]) (by rw [e];simp [tM]) h NO (hp1 b aJ) hbc)
  ·obtain ⟨a,ha,hPa⟩:=hex
   have JN:a∈l:=(List.mem_cons.1 ha).elim (fun e=>absurd (e ▸ hPa) h) id
   obtain ⟨u,X,v,e,h1,h2,h3,h4⟩:=uU hp2 (fun a b c ha hb' hc=>hb a b c (by simp [ha]) (by simp [hb']) (by simp [hc])) ⟨a,JN,hPa⟩
   exact ⟨t::u,X,v,by simp [e],fun s hs=>(List.mem_cons.1 hs).elim (fun e=>e ▸ h) (h1 s),h2,h3,h4⟩
theorem uV {p:Pl} {k:Nat} {y:Int} (h:y∈p.ord.take k):∃j,j<k∧j<p.ord.length∧bL p j=y:=by
 obtain ⟨j,hj,e⟩:=List.mem_iff_getElem.1 h
 simp only [List.length_take] at hj
 refine ⟨j,by omega,by omega, ?_⟩
 rw [bL,List.getD_eq_getElem?_getD,List.getElem?_eq_getElem (by omega),Option.getD_some, ← e,List.getElem_take]
theorem Ci {p:Pl} {k j:Nat} (h1:j<k) (h2:j<p.ord.length):bL p j∈p.ord.take k:=by
 rw [bL,List.getD_eq_getElem?_getD,List.getElem?_eq_getElem h2,Option.getD_some]
 exact List.mem_iff_getElem.2 ⟨j,by simp;omega,by simp⟩
theorem uW {g:Gr} {p:Pl} (hp:b7 g p) {k:Nat} (hk:k<g.n.toNat):bL p k∉p.ord.take k:=fun h=>by
 obtain ⟨j,h1,h2,h3⟩:=uV h
 have:=AL hp (i:=j) (j:=k) (by omega) hk h3
 omega
theorem zN {g:Gr} {p:Pl} (hp:b7 g p) {k:Nat} (hk:k<g.n.toNat):p.ord.take (k+1)=p.ord.take k++ [bL p k]:=by
 rw [List.take_add_one,List.getElem?_eq_getElem (by rw [dA hp];exact hk),bL,List.getD_eq_getElem?_getD,List.getElem?_eq_getElem (by rw [dA hp];exact hk)]
 rfl
section
variable {g:Gr} {p:Pl}
theorem kE (hm:aY g=true) {f:Fr} (hi:yK g f) {k:Nat} (fH:f.pl=p.ord.take k) {t:It} (ht:t∈gn f.row):qa g p k t.1∧jU g t.1=t.2.1∧kU g t.1=t.2.2:=by
 obtain ⟨h1,h2⟩:=e8.1 ht
 rcases hi.it t h1 with h|⟨_,g2,g3,g4⟩
 ·omega
 ·refine ⟨⟨h2,g2, ?_, ?_⟩,g3.symm,g4.symm⟩
  ·rw [← fH];unfold jU;rw [← g3];exact hi.tail t h1 h2
  ·rw [← fH];unfold kU;rw [← g4];exact hi.head t h1 h2
theorem yq (hc:(cR g).1=0) (hp:b7 g p) {L:Nat→Int→Int→Prop} (hL:Ez g p L):∀ {k:Nat},k≤g.n.toNat→
 (∀j,j<k→x7 g p j=true)∧((gn (fK g p k).row).Pairwise fun s t=>L k s.1 t.1)∧∀e,qa g p k e→∃t∈(fK g p k).row,t.1=e
 |0,_=>⟨fun j hj=>by omega,by simp [fK,gn],fun e he=>by have:=he.low;simp at this⟩
 |k+1,hk=>by
  have hm:=cm hc
  obtain ⟨ih1,ih2,ih3⟩:=yq hc hp hL (k:=k) (by omega)
  obtain ⟨hi,fH,_⟩:=qP hm hp (k:=k) (by omega) ih1
  obtain ⟨x0,x1⟩:=eZ hp (k:=k) (by omega)
  have hnew:=uW hp (k:=k) (by omega)
  have hnext:=zN hp (k:=k) (by omega)
  have hpx:=er hp x0 x1
  have hout:∀i∈kC p (bL p k),(0≤i∧i<g.es.length)∧jU g i=bL p k:=fun i hi=>c9.1 (hpx.mem_iff.1 hi)
  have CU:=hL.outs k (by omega)
  have Gz:fK g p (k+1)=(aD g (fK g p k) (bL p k) (kC p (bL p k))).2:=rfl
  have hab:=uO (g:=g) (x:=bL p k) (o:=kC p (bL p k)) fun i hi=>(hout i hi).1.1
  have fin:∀a X c:List It,x7 g p k=true→gn (fK g p k).row=a++X++c→gh (bL p k) a→gh (bL p k) c→tZ (bL p k) X→(X≠ []∨a++c= [])→gn (fK g p (k+1)).row=a++gn (bg g (bL p k) (kC p (bL p k)))++c→
   (∀j,j<k+1→x7 g p j=true)∧((gn (fK g p (k+1)).row).Pairwise fun s t=>L (k+1) s.1 t.1)∧∀e,qa g p (k+1) e→∃t∈(fK g p (k+1)).row,t.1=e:=by
   intro a X c hR e ha tM hX Cj hs
   refine ⟨fun j hj=> ?_, ?_,fun q hq=> ?_⟩
   ·by_cases h:j=k
    ·subst h;exact hR
    ·exact ih1 j (by omega)
   ·have hma:∀t∈a,t∈gn (fK g p k).row:=fun t ht=>by rw [e];simp [ht]
    have KM:∀t∈X,t∈gn (fK g p k).row:=fun t ht=>by rw [e];simp [ht]
    have E3:∀t∈c,t∈gn (fK g p k).row:=fun t ht=>by rw [e];simp [ht]
    have qu:=fun t ht=>kE (p:=p) hm hi fH (t:=t) ht
    rw [e,List.pairwise_append,List.pairwise_append] at ih2
    obtain ⟨⟨pa,pX,PA⟩,pc,Ka⟩:=ih2
    have hne:∀t,t∈a∨t∈c→kU g t.1≠bL p k:=fun t ht=>by
     rcases ht with ht|ht
     ·rw [(qu t (hma t ht)).2.2];exact ha t ht
     ·rw [(qu t (E3 t ht)).2.2];exact tM t ht
    rw [hs,hab,List.pairwise_append,List.pairwise_append]
    refine ⟨⟨?_, ?_, ?_⟩, ?_, ?_⟩
    ·exact pa.imp_of_mem fun {s t} hs' ht' h=>hL.keep k (by omega) _ _ (qu s (hma s hs')).1 (qu t (hma t ht')).1 (hne s (.inl hs')) (hne t (.inl ht')) h
    ·rw [List.pairwise_map];exact CU
    ·intro s hs' t ht'
     obtain ⟨i,hi',rfl⟩:=List.mem_map.1 ht'
     rcases Cj with Cj|h0
     ·obtain ⟨y,Y,rfl⟩:∃y Y,X=y::Y:=by
       cases X with
       |nil=>exact absurd rfl Cj
       |cons y Y=>exact ⟨y,Y,rfl⟩
      exact hL.left k (by omega) s.1 y.1 i (qu s (hma s hs')).1 (qu y (KM y (by simp))).1 (hne s (.inl hs')) (by rw [(qu y (KM y (by simp))).2.2];exact hX y (by simp)) hi' (PA s hs' y (by simp))
     ·rw [(List.append_eq_nil_iff.1 h0).1] at hs';cases hs'
    ·exact pc.imp_of_mem fun {s t} hs' ht' h=>hL.keep k (by omega) _ _ (qu s (E3 s hs')).1 (qu t (E3 t ht')).1 (hne s (.inr hs')) (hne t (.inr ht')) h
    ·intro s hs' t ht'
     rcases List.mem_append.1 hs' with hs1|hs1
     ·exact hL.keep k (by omega) _ _ (qu s (hma s hs1)).1 (qu t (E3 t ht')).1 (hne s (.inl hs1)) (hne t (.inr ht')) (Ka s (by simp [hs1]) t ht')
     ·obtain ⟨i,hi',rfl⟩:=List.mem_map.1 hs1
      rcases Cj with Cj|h0
      ·obtain ⟨y,Y,rfl⟩:∃y Y,X=y::Y:=by
        cases X with
        |nil=>exact absurd rfl Cj
        |cons y Y=>exact ⟨y,Y,rfl⟩
       exact hL.right k (by omega) t.1 y.1 i (qu t (E3 t ht')).1 (qu y (KM y (by simp))).1 (hne t (.inr ht')) (by rw [(qu y (KM y (by simp))).2.2];exact hX y (by simp)) hi' (Ka y (by simp) t ht')
      ·rw [(List.append_eq_nil_iff.1 h0).2] at ht';cases ht'
   ·have Fx:∃t∈gn (fK g p (k+1)).row,t.1=q:=by
     have hl:=hq.low
     rw [hnext,List.mem_append,List.mem_singleton] at hl
     have ht:=hq.top
     rw [hnext,List.mem_append,List.mem_singleton] at ht
     rw [hs]
     rcases hl with hl|hl
     ·obtain ⟨t,ht1,ht2⟩:=ih3 q ⟨hq.e0,hq.e1,hl,fun h=>ht (.inl h)⟩
      have hte:t∈gn (fK g p k).row:=e8.2 ⟨ht1,by rw [ht2];exact hq.e0⟩
      have hh:=(kE (p:=p) hm hi fH hte).2.2
      have gT:=hte
      rw [e,List.mem_append,List.mem_append] at gT
      rcases gT with (h1|h1)|h1
      ·exact ⟨t,by simp [h1],ht2⟩
      ·exact absurd (by rw [← ht2,hh];exact hX t h1) fun h=>ht (.inr h)
      ·exact ⟨t,by simp [h1],ht2⟩
     ·refine ⟨mR g (bL p k) q, ?_,rfl⟩
      rw [hab,List.mem_append,List.mem_append]
      exact .inl (.inr (List.mem_map.2 ⟨q,hpx.mem_iff.2 (c9.2 ⟨⟨hq.e0,hq.e1⟩,hl⟩),rfl⟩))
    obtain ⟨t,h1,h2⟩:=Fx
    exact ⟨t,(e8.1 h1).1,h2⟩
  by_cases hn:bA g (bL p k)=0
  ·have hno:=nw hm hi.toiL x0 hn
   have hR:x7 g p k=true:=by
    show aC g (fK g p k) (bL p k)=true
    unfold aC
    rw [if_neg (by rintro (h|h|h);omega;omega;exact hnew (fH ▸ h)),if_pos hn]
   have hrow:(fK g p k).row= []:=by
    rcases hi.src with h|⟨s,hs,hs0⟩
    ·exact h.2
    ·have:=qO hc (hi.zm s hs) ⟨x0,x1⟩ hs0 hn
     exact absurd (by rw [← fH, ← this];exact hs) hnew
   refine fin [] [] [] hR (by rw [hrow];rfl) (fun t ht=>by cases ht) (fun t ht=>by cases ht) (fun t ht=>by cases ht) (.inr rfl) ?_
   rw [Gz,pW _ hno,hrow]
   simp
  ·have hex:∃e,e∈aX (·.2) g.es g.es.length (bL p k):=by
    cases h:aX (·.2) g.es g.es.length (bL p k) with
    |nil=>exact absurd (by unfold bA;rw [h];rfl) hn
    |cons e l=>exact ⟨e,by simp⟩
   have Kb:∀e,e∈aX (·.2) g.es g.es.length (bL p k)→∃t∈gn (fK g p k).row,t.1=e∧t.2.2=bL p k:=fun e he=>by
    obtain ⟨⟨e0,e1⟩,e2⟩:=c9.1 he
    obtain ⟨t,ht1,ht2⟩:=ih3 e ⟨e0,e1,hL.up e e0 e1 k (by omega) e2.symm,by rw [show kU g e=bL p k from e2];exact hnew⟩
    have hte:t∈gn (fK g p k).row:=e8.2 ⟨ht1,by rw [ht2];exact e0⟩
    exact ⟨t,hte,ht2,by rw [← (kE (p:=p) hm hi fH hte).2.2,ht2];exact e2⟩
   obtain ⟨e,he⟩:=hex
   obtain ⟨t0,MY,_,MZ⟩:=Kb e he
   obtain ⟨a,X,c,hE,ha,hX,nX,tM⟩:=uU (P:=fun t:It=>t.2.2=bL p k) ih2 (fun a b c ma mb mc ea ec r1 r2=>by
    have ca:=kE (p:=p) hm hi fH ma
    have cb:=kE (p:=p) hm hi fH mb
    have cc:=kE (p:=p) hm hi fH mc
    rw [← cb.2.2]
    exact hL.Pz k (by omega) a.1 b.1 c.1 ca.1 cb.1 cc.1 (by rw [ca.2.2];exact ea) (by rw [cc.2.2];exact ec) r1 r2) ⟨t0,MY,MZ⟩
   have hlen:X.length=bA g (bL p k):=by
    have dB:((gn (fK g p k).row).map (·.1)).Nodup:=by
     rw [List.Nodup,List.pairwise_map]
     exact (hi.once.filter _).imp_of_mem fun {s t} hs ht h=>h (e8.1 hs).2
    have M0:(X.map (·.1)).Nodup:=by
     rw [hE,List.map_append,List.map_append] at dB
     exact (List.nodup_append.1 (List.nodup_append.1 dB).1).2.1
    have Gv:(X.map (·.1)).Perm (aX (·.2) g.es g.es.length (bL p k)):=by
     refine (List.perm_ext_iff_of_nodup M0 dI).2 fun e=>⟨fun h=> ?_,fun h=> ?_⟩
     ·obtain ⟨t,ht,rfl⟩:=List.mem_map.1 h
      have hte:t∈gn (fK g p k).row:=by rw [hE];simp [ht]
      have ct:=kE (p:=p) hm hi fH hte
      exact c9.2 ⟨⟨ct.1.e0,ct.1.e1⟩,(show kU g t.1=_ by rw [ct.2.2];exact hX t ht)⟩
     ·obtain ⟨t,ht,h1,h2⟩:=Kb e h
      rw [hE,List.mem_append,List.mem_append] at ht
      rcases ht with (h3|h3)|h3
      ·exact absurd h2 (ha t h3)
      ·exact List.mem_map.2 ⟨t,h3,h1⟩
      ·exact absurd h2 (tM t h3)
    have:=Gv.length_eq
    rw [List.length_map] at this
    exact this
   have hR:x7 g p k=true:=yf hm hi.toiL x0 x1 (by rw [fH];exact hnew) hE ha tM hX nX hlen
   exact fin a X c hR hE ha tM hX (.inl nX) (by rw [Gz];exact AZ hm hi.toiL hR hn hE ha tM hX nX _)
theorem Ck (hc:(cR g).1=0) (hp:b7 g p) {L:Nat→Int→Int→Prop} (hL:Ez g p L):gQ g p:=
 ⟨hc,hp,fun k hk=>(yq hc hp hL (k:=k+1) (by omega)).1 k (by omega)⟩
end
end Go.Ab
end
section
namespace Go.Ab
open Go.Proofs
attribute [local congr] ACall.congr gd.congr Nx.congr
set_option maxRecDepth 20000
set_option maxHeartbeats 8000000
def KN (g:Gr) (st:List Int) (x:Nat) (l:List Int):Nat→List Int
 |0=>st
 |j+1=>(KN g st x l j).set x (max ((KN g st x l j).getD x 0) ((KN g st x l j).getD (jU g (l.getD j 0)).toNat 0+1))
def NP (g:Gr):Nat→List Int
 |0=>List.replicate g.n.toNat 0
 |k+1=>KN g (NP g k) ((FJ g).getD k 0).toNat (aX (fun e=>e.2) g.es g.es.length ((FJ g).getD k 0)) (aX (fun e=>e.2) g.es g.es.length ((FJ g).getD k 0)).length
def NQ (g:Gr):List Int:=NP g (FJ g).length
end Go.Ab
end
section
namespace Go.Ab
open Go.Proofs
set_option maxRecDepth 10000
set_option linter.unusedSectionVars false
structure PB (g:Gr) (st:List Int) (D:List Int):Prop where
 out:∀v:Nat,(v:Int)∉D→st.getD v 0=0
 up:∀i,i<g.es.length→hd g i∈D→st.getD (tl g i).toNat 0+1≤st.getD (hd g i).toNat 0
 why:∀v:Nat,(v:Int)∈D→st.getD v 0=0∨∃i,i<g.es.length∧hd g i=v∧st.getD v 0=st.getD (tl g i).toNat 0+1
end Go.Ab
end
section
namespace Go.Ab
set_option maxRecDepth 10000
set_option linter.unusedSectionVars false
variable {P:PS}
structure PS.Hi (P:PS) (R:Int→Int) (f0 f1:Int) (hi:Int→Int):Prop where
 mid:∀ {x u a b v},P.ins x=u++a::b::v→hi (R a)=x
 h0:hi f0=P.JL
 h1:hi f1=P.JL
def PS.QW (P:PS) (a:Int):Prop:=∃x u b v,P.outs x=u++a::b::v
section
variable (h:P.Ok) {L R:Int→Int} {f0 f1:Int} {low:Int→Int} (F:P.jP L R f0 f1 low)
include h F
theorem PS.Hi.Cw {hi:Int→Int} (H:P.Hi R f0 f1 hi):P.Cw.Hi L f1 f0 hi:=
 {mid:=fun {x u a b v} e=>by
   have e:=ig (show (P.ins x).reverse=_ from e)
   rw [← F.zC e];exact H.mid e
  h0:=H.h1
  h1:=H.h0}
variable {L' R':Int→Int} {PC PD:Int} {low':Int→Int} (F':P.jP L' R' PC PD low')
include F'
end
section
variable (h:P.Ok) {L R:Int→Int} {f0 f1:Int} {low:Int→Int} (F:P.jP L R f0 f1 low)
include h F
variable {hi:Int→Int} (H:P.Hi R f0 f1 hi)
include H
end
def M1 (t h:Int→Int) (l:List Int) (x:Int):Int:=match l.find? (fun i=>decide (t i=x)) with
 |some i=>h i
 |none=>x
def M3 (t h:Int→Int) (l:List Int) (x:Int):Nat→Int
 |0=>x
 |k+1=>M1 t h l (M3 t h l x k)
section
variable (h:P.Ok) {L R:Int→Int} {f0 f1:Int} {low:Int→Int} (F:P.jP L R f0 f1 low) {hi:Int→Int} (H:P.Hi R f0 f1 hi)
include h F H
end
end Go.Ab
end
section
namespace Go.Ab
open Go.Proofs
set_option maxRecDepth 10000
set_option linter.unusedSectionVars false
section
variable (g:Gr) (p:Pl)
def cK:Nat→Nat
 |0=>1
 |k+1=>cK k+((kC p (bL p k)).length - 1)
def KO (e:Int):Nat:=(kC p (jU g e)).findIdx (fun i=>decide (i=e))
def yu (x:Int):Int:=(mJ g p x).headD 0
def Kc (x:Int):Int:=(mJ g p x).getLastD 0
def LK:Nat→Int→Int
 |0,_=>0
 |k+1,e=>if jU g e=bL p k then (if KO g p e=0 then (if k=0 then 0 else LK k (yu g p (bL p k))) else (cK p k:Int)+KO g p e - 1) else LK k e
def RK (r:Int):Nat→Int→Int
 |0,_=>0
 |k+1,e=>if jU g e=bL p k then (if KO g p e+1<(kC p (bL p k)).length then (cK p k:Int)+KO g p e else (if k=0 then r else RK r k (Kc g p (bL p k)))) else RK r k e
def HO:Nat→List Int
 |0=> [bL p 0]
 |k+1=>HO k++List.replicate ((kC p (bL p k)).length - 1) (bL p k)
end
section
variable {g:Gr} {p:Pl}
variable (h:gQ g p)
include h
def WK (g:Gr) (p:Pl) (k:Nat):List Int:=(gn (fK g p k).row).map (·.1)
end
end Go.Ab
end
section
namespace Go.Ab
open Go.Proofs
attribute [local congr] ACall.congr gd.congr Nx.congr
set_option maxRecDepth 10000
set_option maxHeartbeats 8000000
def A4 (A o:List Int) (f:Nat→Int):Nat→List Int
 |0=>A
 |j+1=>(A4 A o f j).set (o.getD j 0).toNat (f j)
def NR (A o:List Int) (left:Int) (c:Nat) (j:Nat):List Int:=A4 A o (fun j=>if j=0 then left else (c:Int)+j - 1) j
def NS (A o:List Int) (right:Int) (c:Nat) (j:Nat):List Int:=A4 A o (fun j=>if j+1<o.length then (c:Int)+j else right) j
def GA (c k:Nat):List Int:=(List.range k).map fun i:Nat=>((c+i:Nat):Int)
def QX (left:Int) (c d j:Nat):Int:=if min j (d - 1)=0 then left else (c:Int)+(min j (d - 1):Nat) - 1
def QY (ed gp:D) (A B lo hi:List Int):List (Nat × AObj):= [(10000, .box [.d ed, .d gp, .ref 10001, .ref 10002, .ref 10003, .ref 10004]),(10001, .own 3 1 (A.map rI)),(10002, .own 3 1 (B.map rI)),(10003, .tip 3 1 (lo.map rI)),(10004, .own 3 1 (hi.map rI))]
def QZ (ed gp:D) (A B lo hi:List Int):List (Nat × AObj):= [(10000, .box [.d ed, .d gp, .ref 10001, .ref 10002, .ref 10005, .ref 10006]),(10001, .own 3 1 (A.map rI)),(10002, .own 3 1 (B.map rI)),(10005, .tip 3 1 (lo.map rI)),(10006, .own 3 1 (hi.map rI))]
end Go.Ab
end
section
namespace Go.Ab
open Go.Proofs
attribute [local congr] ACall.congr gd.congr Nx.congr
set_option maxRecDepth 10000
set_option maxHeartbeats 8000000
def Ke (A fs:List Int) (x:Int) (j:Nat):List Int:=A4 A fs (fun _=>x) j
end Go.Ab
end
section
namespace Go.Ab
open Go.Proofs
set_option maxRecDepth 10000
set_option linter.unusedSectionVars false
def arr (f:Int→Int) (m:Nat):List Int:=(List.range m).map fun i:Nat=>f (i:Int)
section
variable {g:Gr} {p:Pl} (h:gQ g p)
include h
end
section
variable (g:Gr) (p:Pl)
def zO:Nat→List Int
 |0=>kC p (bL p 0)
 |j+1=>if kC p (bL p (j+1))= [] then zO j else (zO j).take (fc (zO j) (yu g p (bL p (j+1)))).toNat++kC p (bL p (j+1))++(zO j).drop ((fc (zO j) (yu g p (bL p (j+1)))).toNat+(mJ g p (bL p (j+1))).length)
def Kf:Nat→List Int
 |0=> [0]++GA 1 ((kC p (bL p 0)).length - 1)++ [-1]
 |j+1=>(Kf j).take ((fc (zO g p j) (yu g p (bL p (j+1)))).toNat+1)++GA (cK p (j+1)) ((kC p (bL p (j+1))).length - 1)++(Kf j).drop ((fc (zO g p j) (yu g p (bL p (j+1)))).toNat+(mJ g p (bL p (j+1))).length)
def Kg (k:Nat):List Int:=((mJ g p (bL p k)).dropLast).map (RK g p (-1) k)
def M4:Nat→List Int
 |0=> [bL p (g.n.toNat - 1)]
 |k+1=>Ke (M4 k) (Kg g p k) (bL p k) (Kg g p k).length++List.replicate ((kC p (bL p k)).length - 1) 0
end
section
variable {g:Gr} {p:Pl}
variable (h:gQ g p)
include h
end
end Go.Ab
end
section
namespace Go.Ab
open Go.Proofs
attribute [local congr] ACall.congr gd.congr Nx.congr
set_option maxRecDepth 10000
set_option maxHeartbeats 8000000
def swapT (l:List It) (k:Nat):List It:=(List.range l.length).map fun p=>if p<k∨l.length - 1<p+k then l.getD (l.length - 1 - p) (0,0,0) else l.getD p (0,0,0)
def NT (rs:List Int) (l:List It):Int:=match l.find? (fun t=>decide (t.2.2∈rs)) with
 |some t=>t.2.2
 |none=>rs.headD (-1)
end Go.Ab
end
section
namespace Go.Ab
open Go.Proofs
attribute [local congr] ACall.congr gd.congr Nx.congr
set_option maxRecDepth 10000
set_option maxHeartbeats 8000000
def Q0 (b:Bool) (g:Gr) (p:Pl):List Int × List Int × Int:=
 if (fk b g p).2.1=0∧J3 g=true then (Ej g p false g.n.toNat,Ej g p true g.n.toNat,0) else ([], [],1)
end Go.Ab
end
section
namespace Go.Ab
open Go.Proofs
attribute [local congr] ACall.congr gd.congr Nx.congr
set_option maxRecDepth 10000
set_option maxHeartbeats 8000000
theorem zP {b:Bool} {g:Gr} {p:Pl} (hr:b=true↔(cR g).1=0∧b7 g p) (h:gQ g p):fk b g p=((kQ g p g.n.toNat,uL g p),(0,0)):=by
 obtain rfl:b=true:=hr.2 ⟨h.1,h.2.1⟩
 unfold fk
 rw [if_neg (by simp),iM.2 h.2.2]
 rfl
theorem PE (g:Gr) (p:Pl):∃b:Bool,(b=true↔(cR g).1=0∧b7 g p):=by
 by_cases h:(cR g).1=0∧b7 g p
 ·exact ⟨true,by simp [h]⟩
 ·exact ⟨false,by simp [h]⟩
end Go.Ab
end
section
namespace Go.Ab
open Go.Proofs
attribute [local congr] ACall.congr gd.congr Nx.congr
set_option maxRecDepth 60000
set_option maxHeartbeats 8000000
structure Fc where
 L:List Int
 R:List Int
 lo:List Int
 hi:List Int
def M5 (g:Gr) (p:Pl) (f:Int):Int:=if f= -1 then (cK p g.n.toNat:Int) else f
def PF (g:Gr) (p:Pl):Fc:=⟨arr (LK g p g.n.toNat) g.es.length,(arr (RK g p (-1) g.n.toNat) g.es.length).map (M5 g p),HO p g.n.toNat++ [bL p 0],M4 g p g.n.toNat++ [bL p (g.n.toNat - 1)]⟩
def PG:Fc:=⟨[], [], [], []⟩
def Q1 (b:Bool) (g:Gr) (p:Pl):Fc × Int:=if ((fk b g p).2.1=0∧J3 g=true)∧0<g.es.length then (PF g p,0) else (PG,1)
def Q2 (f:Fc):AV:= .agg [.d (sI f.L), .d (sI f.R), .d (sI f.lo), .d (sI f.hi)]
def PI (l:List Int) (f:Int→Int) (j:Nat):List Int:=(l.take j).map f++l.drop j
end Go.Ab
end
section
namespace Go.Ab
open Go.Proofs
set_option maxRecDepth 10000
set_option linter.unusedSectionVars false
section
variable (g:Gr) (p:Pl)
def cN:Nat:=cK p g.n.toNat
def Lf (e:Int):Int:=LK g p g.n.toNat e
def Rf (e:Int):Int:=RK g p (cN g p) g.n.toNat e
def PJ:List Int:=HO p g.n.toNat++ [bL p 0]
def PK:List Int:=M4 g p g.n.toNat++ [bL p (g.n.toNat - 1)]
def Q3 (f:Int):Int:=(PJ g p).getD f.toNat 0
def Q4 (f:Int):Int:=(PK g p).getD f.toNat 0
end
section
variable {g:Gr} {p:Pl}
variable (h:gQ g p) (hI:J3 g=true)
include h hI
end
end Go.Ab
end
section
namespace Go.Ab
open Go.Proofs
set_option maxRecDepth 10000
def EA (q:Nat→Bool):Nat→Nat
 |0=>0
 |n+1=>EA q n ||| (if q n then 2 ^ n else 0)
theorem o6 {q:Nat→Bool} {y:Nat} :∀ {n:Nat},(EA q n).testBit y=(decide (y<n)&&q y)
 |0=>by simp [EA]
 |n+1=>by
  rw [EA,Nat.testBit_or,o6]
  by_cases h:y=n
  ·subst h
   cases hq:q y<;>simp [Nat.testBit_two_pow_self]
  ·have h2:(if q n then 2 ^ n else 0).testBit y=false:=by
    split
    ·rw [Nat.testBit_two_pow];exact decide_eq_false fun e=>h e.symm
    ·simp
   rw [h2,Bool.or_false]
   congr 1
   rw [decide_eq_decide];omega
inductive Cz (g:Gr) (both:Bool) (c:Nat→Bool) (x:Nat):Nat→Prop
 |refl:Cz g both c x x
 |fwd {i:Nat} :i<g.es.length→c i=true→Cz g both c x (tl g i).toNat→Cz g both c x (hd g i).toNat
 |NU {i:Nat} :i<g.es.length→c i=true→both=true→Cz g both c x (hd g i).toNat→Cz g both c x (tl g i).toNat
theorem Cz.trans {g:Gr} {both:Bool} {c:Nat→Bool} {x y z:Nat} (h1:Cz g both c x y) (h2:Cz g both c y z):Cz g both c x z:=by
 induction h2 with
 |refl=>exact h1
 |fwd a b _ ih=>exact .fwd a b ih
 |NU a b d _ ih=>exact .NU a b d ih
open Classical in
noncomputable def M6 (g:Gr) (both:Bool) (c:Nat→Bool) (x:Nat):Nat:=EA (fun y=>decide (Cz g both c x y)) g.n.toNat
noncomputable def PL (g:Gr) (both:Bool) (c:Nat→Bool):List Nat:=(List.range g.n.toNat).map (M6 g both c)
open Classical in
theorem KP {g:Gr} {both:Bool} {c:Nat→Bool} {x y:Nat} :(M6 g both c x).testBit y=true↔y<g.n.toNat∧Cz g both c x y:=by
 unfold M6
 rw [o6]
 simp
def Kh (g:Gr) (both:Bool) (c:Nat→Bool) (a:List Nat):Nat→List Nat × Bool
 |0=>(a,false)
 |k+1=>
  let s:=Kh g both c a k
  if c k=true then
   let t:=s.1.getD (tl g k).toNat 0 ||| s.1.getD (hd g k).toNat 0
   let h:=if both=true then t else s.1.getD (hd g k).toNat 0
   ((s.1.set (tl g k).toNat t).set (hd g k).toNat h,s.2||(decide (t≠s.1.getD (tl g k).toNat 0)||decide (h≠s.1.getD (hd g k).toNat 0)))
  else s
structure NV (g:Gr) (both:Bool) (c:Nat→Bool) (a:List Nat):Prop where
 len:a.length=g.n.toNat
 own:∀x,x<g.n.toNat→(a.getD x 0).testBit x=true
 snd:∀x y,x<g.n.toNat→(a.getD x 0).testBit y=true→y<g.n.toNat∧Cz g both c x y
theorem NV.lt {g:Gr} {both:Bool} {c:Nat→Bool} {a:List Nat} (h:NV g both c a) (hn:g.n.toNat≤64) (x:Nat):a.getD x 0<18446744073709551616:=by
 by_cases hx:x<g.n.toNat
 ·have:a.getD x 0<2 ^ 64:=Nat.lt_pow_two_of_testBit _ fun i hi=>by
   cases hb:(a.getD x 0).testBit i with
   |false=>rfl
   |true=>have:=(h.snd x i hx hb).1;omega
  simpa using this
 ·rw [List.getD_eq_getElem?_getD,List.getElem?_eq_none (by rw [h.len];omega)];simp
def PM (a:List Nat):Nat:=a.foldr (· + ·) 0
end Go.Ab
end
section
namespace Go.Ab
open Go.Proofs
attribute [local congr] ACall.congr gd.congr Nx.congr
set_option maxRecDepth 20000
set_option maxHeartbeats 8000000
def rU (n:Nat):List D:= [.sc (.int .u64 (n:Int))]
def eU (n:Nat):AV:= .d (.sc (.int .u64 (n:Int)))
def sU (l:List Nat):D:= .sl 1 (l.map rU)
theorem getD_rU (ps:List Nat) (i:Nat):(ps.map rU).getD i [.sc (.int .u64 0)]= [.sc (.int .u64 ((ps.getD i 0:Nat):Int))]:=by
 rw [List.getD_eq_getElem?_getD,List.getElem?_map,List.getD_eq_getElem?_getD]
 cases ps[i]? <;>rfl
attribute [go_sem] eU sU getD_rU InU
end Go.Ab
end
section
namespace Go.Ab
open Go.Proofs
attribute [local congr] ACall.congr gd.congr Nx.congr
set_option maxRecDepth 20000
set_option maxHeartbeats 8000000
def M7 (k:Nat):List Nat:=(List.range k).map fun x=>2 ^ x
def NW (g:Gr):List Nat:=if aY g=true then M7 g.n.toNat else []
theorem EB {l:List Nat} :∀r∈l.map rU,∀x∈r,∃v,x=D.sc v:=by
 intro r hr x hx
 obtain ⟨y,_,rfl⟩:=List.mem_map.1 hr
 simp only [rU,List.mem_singleton] at hx
 exact ⟨_,hx⟩
noncomputable def Q5 (g:Gr):List Nat:=if aY g=true then PL g false (fun _=>true) else []
end Go.Ab
end
section
namespace Go.Ab
open Go.Proofs
set_option maxRecDepth 10000
set_option linter.unusedSectionVars false
def PN (s:Nat) (x:Int):Bool:=decide (0≤x)&&decide (x<64)&&s.testBit x.toNat
section
variable {P:PS} (h:P.Ok) {L R:Int→Int} {f0 f1:Int} {low:Int→Int} (F:P.jP L R f0 f1 low)
def PO (P:PS) (R:Int→Int) (f:Int):Nat→Nat
 |0=>0
 |j+1=>if R (P.sh j)=f then j+1 else PO P R f j
include h F
end
section
variable (g:Gr) (p:Pl)
def PR:Gr:=⟨(cN g p:Int)+1,(List.range g.es.length).map fun i:Nat=>(Lf g p i,Rf g p i)⟩
end
section
variable {g:Gr} {p:Pl}
variable (h:gQ g p) (hI:J3 g=true)
include h hI
end
end Go.Ab
end
section
namespace Go.Ab
open Go.Proofs
attribute [local congr] ACall.congr gd.congr Nx.congr
set_option maxRecDepth 10000
set_option maxHeartbeats 16000000
theorem Cl (g:Gr) (hl:g.es.length≤9223372036854775807) (p:Pl) (hp:AW p) (b:Bool) (hr:b=true↔(cR g).1=0∧b7 g p):Spec Tryz.prog 20 (Args [eG g,ePl p]) [] (eB (decide ((fk b g p).2.1=0))) []:=by
 have hO:=yc g hl p hp b hr
 generalize fk b g p=R at hO
 (refine Spec.hd (C:=T.cfg [] []) (rs:= [.t 4]) (T.ai _ _) Tryz.func20 rfl rfl Tryz.ntmps20 Tryz.results20 (by simp [AObj.isNest]) (by simp [AObj.isNest]) (by kernel_rfl) T.mixed fun X hX hP hC aF bY=> ?_)
 repeat' (first|refine Rn.p ?_|(with_reducible apply And.intro)|((first|(refine hK _ ?_;clear hK K)|with_reducible intro K hK|refine Rs.p ?_|((with_reducible first|apply oP|apply oQ);exact rfl)|refine aa hX hC hP (hO) rfl rfl rfl (by simp only [go_sem,simprocAttr]) rfl ?_);try simp only [go_sem,simprocAttr])|((with_reducible refine oD ?_ ?_);kernel_rfl)|((with_reducible intro h);try simp only [go_sem,simprocAttr] at h)|omega|intro h)
end Go.Ab
end
section
namespace Go.Ab
open Go.Proofs
attribute [local congr] ACall.congr gd.congr Nx.congr
set_option maxRecDepth 20000
set_option maxHeartbeats 8000000
end Go.Ab
end
section
namespace Go.Ab
open Go.Proofs
attribute [local congr] ACall.congr gd.congr Nx.congr
set_option maxRecDepth 20000
set_option maxHeartbeats 8000000
def Q6 (f:Fc) (k:Nat):List Edge:=(List.range k).map fun i:Nat=>(f.L.getD i 0,f.R.getD i 0)
def PT (b:Bool) (g:Gr) (p:Pl):Bool:= !MM g p&&J3 g&&decide ((fk b g p).2.1=0)&&decide (0<(g.es.length:Int))&&decide ((g.es.length:Int)≤60)
def g18:Gr:=⟨4, [(0,1),(1,3),(0,2),(2,3)]⟩
def Q7:Pl:=⟨[0,1,2,3], [[0,2], [1], [3], []]⟩
end Go.Ab
end
section
namespace Go.Ab
open Go.Proofs
attribute [local congr] ACall.congr gd.congr Nx.congr
set_option maxRecDepth 20000
set_option maxHeartbeats 16000000
structure Br where
 y:List Int
 fr:List Int
 to:List Int
 x:List Int
def Q8 (b:Br):AV:= .agg [.d (sI b.y), .d (sI b.fr), .d (sI b.to), .d (sI b.x)]
section
variable (g:Gr) (p:Pl)
def KQ (f:Int):Int:=(NQ (PR g p)).getD f.toNat 0
def PU (e:Int):Int:=KQ g p (Lf g p e)
def PV (l:List Int):Int:=if l= [] then 0 else KQ g p (Lf g p (l.getD 0 0))
def toV (l:List Int):Int:=(if l= [] then KQ g p (cN g p) else KQ g p (Rf g p (l.getD (l.length - 1) 0))) - 1
def Q9:Br:=⟨NQ g,p.outs.map (PV g p),p.outs.map (toV g p),arr (PU g p) g.es.length⟩
end
end Go.Ab
end
section
namespace Go.Ab
open Go.Proofs
attribute [local congr] ACall.congr gd.congr Nx.congr
set_option maxRecDepth 20000
set_option maxHeartbeats 16000000
def hasB (b:Br) (x:Nat) (q:Int):Bool:=decide (b.fr.getD x 0≤q)&&decide (q≤b.to.getD x 0)
def PW (b:Br) (x z:Nat):Bool:=decide (b.y.getD z 0=b.y.getD x 0)&&decide (b.fr.getD z 0≤b.to.getD x 0)&&decide (b.fr.getD x 0≤b.to.getD z 0)
def PX (b:Br) (x:Nat):Bool:=decide (b.fr.getD x 0≤b.to.getD x 0)&&(List.range x).all fun z=> !PW b x z
def HP (b:Br):Bool:=(List.range b.y.length).all (PX b)
end Go.Ab
end
section
namespace Go.Ab
open Go.Proofs
attribute [local congr] ACall.congr gd.congr Nx.congr
set_option maxRecDepth 20000
set_option maxHeartbeats 32000000
def GB (b:Br) (g:Gr):Bool:=decide ((b.y.length:Int)=g.n)&&decide ((b.fr.length:Int)=g.n)&&decide ((b.to.length:Int)=g.n)&&decide ((b.x.length:Int)=(g.es.length:Int))
def PY (b:Br) (lo hi q:Int) (x:Nat):Bool:=decide (lo<b.y.getD x 0)&&decide (b.y.getD x 0<hi)&&hasB b x q
def EC (b:Br) (s t:Nat) (q:Int):Bool:=decide (b.y.getD s 0<b.y.getD t 0)&&hasB b s q&&hasB b t q&&(List.range b.y.length).all fun x=> !PY b (b.y.getD s 0) (b.y.getD t 0) q x
def PZ (g:Gr) (b:Br) (i k:Nat):Bool:=decide (b.x.getD k 0=b.x.getD i 0)&&decide (b.y.getD (tl g i).toNat 0<b.y.getD (hd g k).toNat 0)&&decide (b.y.getD (tl g k).toNat 0<b.y.getD (hd g i).toNat 0)
def P3 (g:Gr) (b:Br) (i:Nat):Bool:=EC b (tl g i).toNat (hd g i).toNat (b.x.getD i 0)&&(List.range i).all fun k=> !PZ g b i k
def Ki (g:Gr) (b:Br):Bool:=decide ((cR g).1=0)&&GB b g&&HP b&&(List.range g.es.length).all (P3 g b)
end Go.Ab
end
section
namespace Go.Ab
open Go.Proofs
attribute [local congr] ACall.congr gd.congr Nx.congr
set_option maxRecDepth 20000
set_option maxHeartbeats 32000000
def P4 (b:Br) (x z:Nat):Bool:= !decide ((x:Int)=(z:Int))&&decide (b.y.getD x 0=b.y.getD z 0)&& !(decide (b.to.getD x 0<b.fr.getD z 0)||decide (b.to.getD z 0<b.fr.getD x 0))
def P5 (b:Br) (n x:Nat):Bool:=decide (b.fr.getD x 0≤b.to.getD x 0)&&(List.range n).all fun z=> !P4 b x z
def P6 (g:Gr) (b:Br) (i k:Nat):Bool:= !decide ((k:Int)=(i:Int))&&decide (b.x.getD k 0=b.x.getD i 0)&& !(decide (b.y.getD (hd g i).toNat 0≤b.y.getD (tl g k).toNat 0)||decide (b.y.getD (hd g k).toNat 0≤b.y.getD (tl g i).toNat 0))
def P7 (g:Gr) (b:Br) (i:Nat):Bool:=EC b (tl g i).toNat (hd g i).toNat (b.x.getD i 0)&&(List.range g.es.length).all fun k=> !P6 g b i k
def Ip (g:Gr) (b:Br):Bool:=decide ((cR g).1=0)&&GB b g&&(List.range b.y.length).all (P5 b b.y.length)&&(List.range g.es.length).all (P7 g b)
end Go.Ab
end
section
namespace Go.Ab
open Go.Proofs
attribute [local congr] ACall.congr gd.congr Nx.congr
set_option maxRecDepth 20000
set_option maxHeartbeats 32000000
end Go.Ab
end
section
namespace Go.Ab
open Go.Proofs
attribute [local congr] ACall.congr gd.congr Nx.congr
set_option maxRecDepth 20000
set_option maxHeartbeats 8000000
def NX (g:Gr) (b:Br):Bool:=decide (80<(g.es.length:Int))||decide (70<(b.y.length:Int))||decide (70<(b.fr.length:Int))||decide (70<(b.to.length:Int))||decide (80<(b.x.length:Int))
end Go.Ab
end
section
namespace Go.Ab
open Go.Proofs
set_option maxRecDepth 10000
structure HQ (g:Gr) (b:Br):Prop where
 qx:(cR g).1=0
 ly:(b.y.length:Int)=g.n
 lf:(b.fr.length:Int)=g.n
 lt:(b.to.length:Int)=g.n
 lx:b.x.length=g.es.length
 Ra:∀v,v<b.y.length→b.fr.getD v 0≤b.to.getD v 0
 apart:∀v,v<b.y.length→∀z,z<v→¬(b.y.getD z 0=b.y.getD v 0∧b.fr.getD z 0≤b.to.getD v 0∧b.fr.getD v 0≤b.to.getD z 0)
 up:∀i,i<g.es.length→b.y.getD (tl g i).toNat 0<b.y.getD (hd g i).toNat 0∧(b.fr.getD (tl g i).toNat 0≤b.x.getD i 0∧b.x.getD i 0≤b.to.getD (tl g i).toNat 0)∧(b.fr.getD (hd g i).toNat 0≤b.x.getD i 0∧b.x.getD i 0≤b.to.getD (hd g i).toNat 0)
 clear:∀i,i<g.es.length→∀v,v<b.y.length→¬(b.y.getD (tl g i).toNat 0<b.y.getD v 0∧b.y.getD v 0<b.y.getD (hd g i).toNat 0∧b.fr.getD v 0≤b.x.getD i 0∧b.x.getD i 0≤b.to.getD v 0)
 NY:∀i,i<g.es.length→∀k,k<i→¬(b.x.getD k 0=b.x.getD i 0∧b.y.getD (tl g i).toNat 0<b.y.getD (hd g k).toNat 0∧b.y.getD (tl g k).toNat 0<b.y.getD (hd g i).toNat 0)
def NZ (b:Br):Br:=⟨b.y.map fun y=>3*y - 7,(List.range b.y.length).map fun v=>5*b.fr.getD v 0+1,(List.range b.y.length).map fun v=>5*b.to.getD v 0+2,b.x.map fun x=>5*x+1⟩
def N0 (b:Br):Br:=⟨b.y,(List.range b.y.length).map fun v=> -b.to.getD v 0,(List.range b.y.length).map fun v=> -b.fr.getD v 0,b.x.map fun x=> -x⟩
end Go.Ab
end
section
namespace Go.Ab
open Go.Proofs
set_option maxRecDepth 10000
set_option linter.unusedSectionVars false
def yB (b:Br) (v:Int):Int:=b.y.getD v.toNat 0
def fB (b:Br) (v:Int):Int:=b.fr.getD v.toNat 0
def tB (b:Br) (v:Int):Int:=b.to.getD v.toNat 0
def xB (b:Br) (e:Int):Int:=b.x.getD e.toNat 0
def N1 (b:Br) (u v:Int):Prop:=yB b u<yB b v∨yB b u=yB b v∧fB b u<fB b v
structure ED (g:Gr) (b:Br) (p:Pl):Prop where
 perm:p.ord.Perm (fh g.n.toNat)
 sort:p.ord.Pairwise (N1 b)
 len:p.outs.length=g.n.toNat
 outs:∀x:Nat,x<g.n.toNat→(p.outs.getD x []).Perm (bq g x)
 EE:∀x:Nat,x<g.n.toNat→(p.outs.getD x []).Pairwise fun i k=>xB b i<xB b k
section
variable {g:Gr} {b:Br} {p:Pl} (h:HQ g b) (hp:ED g b p)
include hp
theorem ED.ok:b7 g p:=⟨hp.len,hp.perm,hp.outs⟩
theorem ED.lt {j k:Nat} (hj:j<k) (hk:k<g.n.toNat):N1 b (bL p j) (bL p k):=by
 have hl:=dA hp.ok
 have:=List.pairwise_iff_getElem.1 hp.sort j k (by omega) (by omega) hj
 rw [bL,bL,List.getD_eq_getElem?_getD,List.getD_eq_getElem?_getD,List.getElem?_eq_getElem (by omega),List.getElem?_eq_getElem (by omega)]
 exact this
include h
end
end Go.Ab
end
section
namespace Go.Ab
open Go.Proofs
attribute [local congr] ACall.congr gd.congr Nx.congr
set_option maxRecDepth 10000
set_option maxHeartbeats 8000000
def N2 (l:List Int) (k:Nat):List Int:=(List.range l.length).map fun p=>if p<k∨l.length - 1<p+k then l.getD (l.length - 1 - p) 0 else l.getD p 0
theorem wo (ps:List Int) (hl:ps.length≤1000000):
 Spec Tryz.prog 71 (Args [.d (sI ps)]) [] (.ref 10000) [(10000, .own 3 1 (ps.map rI))]:=by
 (refine Spec.Ky (C:=T.cfg [5,7] []) (rs:= [.t 2]) [(10000,7)] (T.ai _ _) Tryz.func71 rfl rfl Tryz.ntmps71 Tryz.results71 (by simp [AObj.isNest]) (by simp [AObj.isNest]) (by first|(simp [look];done)|(simp [asN];done)|(intro l hl;simp only [asN];repeat (rw [if_neg (fun e=>by subst e;simp [look] at hl)]))) (by first|(simp [look];done)|(simp [asN];done)|(intro l hl;simp only [asN];repeat (rw [if_neg (fun e=>by subst e;simp [look] at hl)]))) (by kernel_rfl) T.mixed fun X hX hP hC aF bY=> ?_)
 repeat' (first|(show cG _ .ret _ _;(try simp only [go_sem,simprocAttr]);refine j5 hX 2 7 (.own 3 1 []) ?_ ?_ (by decide) ⟨3,1,by decide, .inl rfl⟩ ?_;(iterate 2 (focus (simp only [go_sem,simprocAttr];done)));simp only [go_sem,simprocAttr])|refine Rn.p ?_|(with_reducible apply And.intro)|((first|(refine hK _ ?_;clear hK K)|with_reducible intro K hK|refine Rs.p ?_|((with_reducible first|apply oP|apply oQ);exact rfl));try simp only [go_sem,simprocAttr])|((with_reducible refine oD ?_ ?_);kernel_rfl)|((with_reducible intro h);try simp only [go_sem,simprocAttr] at h)|omega|intro h)
 exact h.symm
end Go.Ab
end
section
namespace Go.Ab
open Go.Proofs
attribute [local congr] ACall.congr gd.congr Nx.congr
set_option maxRecDepth 20000
set_option maxHeartbeats 16000000
theorem yw (f:Edge→Int) (g:Gr) (hm:aY g=true) (x:Int) (hx:0≤x∧x<g.n):Spec Tryz.prog 98 (Args [.d (vw g), .d (.sl 1 (FB f g)),eN x]) [] (.ref 10000) [(10000, .own 3 1 ((aX f g.es g.es.length x).map rI))]:=by
 rw [fJ]
 have hn:=bM hm
 have hl':(aX f g.es g.es.length x).length≤1000000:=by have:=jE (f:=f) (es:=g.es) (k:=g.es.length) (x:=x);omega
 have hv:=oq (f:=f) (g:=g) (x:=x.toNat) (by omega)
 have he:fz f g.es g.es.length x.toNat=aX f g.es g.es.length x:=by rw [ow,show ((x.toNat:Nat):Int)=x from by omega]
 rw [he] at hv
 have aJ:decide (x<0)=false:=decide_eq_false (by omega)
 have aK:decide (g.n≤x)=false:=decide_eq_false (by omega)
 have P8:=wo (aX f g.es g.es.length x) hl'
 (refine Spec.Ky (C:=T.cfg [] []) (rs:= [.t 6]) [(10000,22)] (T.ai _ _) Tryz.func98 rfl rfl Tryz.ntmps98 Tryz.results98 (by simp [AObj.isNest]) (by simp [AObj.isNest]) (by first|(simp [look];done)|(simp [asN];done)|(intro l hl;simp only [asN];repeat (rw [if_neg (fun e=>by subst e;simp [look] at hl)]))) (by first|(simp [look];done)|(simp [asN];done)|(intro l hl;simp only [asN];repeat (rw [if_neg (fun e=>by subst e;simp [look] at hl)]))) (by kernel_rfl) T.mixed fun X hX hP hC aF bY=> ?_)
 repeat' (first|refine Rn.p ?_|(with_reducible apply And.intro)|((first|(refine hK _ ?_;clear hK K)|with_reducible intro K hK|refine Rs.p ?_|((with_reducible first|apply oP|apply oQ);exact rfl)|(refine j6 hX hC hP 22 (P8) rfl rfl rfl ?_ ?_ (by first|exact ⟨_,_,_,rfl,D5⟩|exact ⟨_,_,_,rfl,D6⟩|exact ⟨_,_,_,rfl,EB⟩) rfl (by decide) ?_;(iterate 2 (focus (simp only [go_sem,simprocAttr,hv,aJ,aK];done)));simp only [go_sem,simprocAttr,hv,aJ,aK]));try simp only [go_sem,simprocAttr,hv,aJ,aK])|((with_reducible refine oD ?_ ?_);kernel_rfl)|((with_reducible intro h);try simp only [go_sem,simprocAttr,hv,aJ,aK] at h)|omega|intro h)
theorem zQ (g:Gr) (hm:aY g=true) (x:Int) (hx:0≤x∧x<g.n):Spec Tryz.prog 45 (Args [.d (vw g),eN x]) [] (.ref 10000) [(10000, .own 3 1 ((bq g x).map rI))]:=by
 have hT:=yw (·.1) g hm x hx
 (refine Spec.Ky (C:=T.cfg [] []) (rs:= [.t 4]) [(10000,11)] (T.ai _ _) Tryz.func45 rfl rfl Tryz.ntmps45 Tryz.results45 (by simp [AObj.isNest]) (by simp [AObj.isNest]) (by first|(simp [look];done)|(simp [asN];done)|(intro l hl;simp only [asN];repeat (rw [if_neg (fun e=>by subst e;simp [look] at hl)]))) (by first|(simp [look];done)|(simp [asN];done)|(intro l hl;simp only [asN];repeat (rw [if_neg (fun e=>by subst e;simp [look] at hl)]))) (by kernel_rfl) T.mixed fun X hX hP hC aF bY=> ?_)
 repeat' (first|refine Rn.p ?_|(with_reducible apply And.intro)|((first|(refine hK _ ?_;clear hK K)|with_reducible intro K hK|refine Rs.p ?_|((with_reducible first|apply oP|apply oQ);exact rfl)|(refine j6 hX hC hP 11 (hT) rfl rfl rfl ?_ ?_ (by first|exact ⟨_,_,_,rfl,D5⟩|exact ⟨_,_,_,rfl,D6⟩|exact ⟨_,_,_,rfl,EB⟩) rfl (by decide) ?_;(iterate 2 (focus (simp only [go_sem,simprocAttr,fJ];done)));simp only [go_sem,simprocAttr,fJ]));try simp only [go_sem,simprocAttr,fJ])|((with_reducible refine oD ?_ ?_);kernel_rfl)|((with_reducible intro h);try simp only [go_sem,simprocAttr,fJ] at h)|omega|intro h)
 rfl
section
open Go.RowKit Go.Shelf Go.Sort Go.Lib
def Rb (b:Br) (i k:Int):Int:=compareInt (xB b i) (xB b k)
def Rc (b:Br) (u v:Int):Int:=if compareInt (yB b u) (yB b v)=0 then compareInt (fB b u) (fB b v) else compareInt (yB b u) (yB b v)
theorem A5 {x y:Int} :compareInt x y<0↔x<y:=by
 unfold compareInt
 split
 ·simp [*]
 ·split<;>simp<;>omega
theorem A6 {x y:Int} :compareInt x y=0↔x=y:=by
 unfold compareInt
 split
 ·simp;omega
 ·split<;>simp<;>omega
def Re (b:Br):List AV:= [.d (sI b.y), .d (sI b.fr), .d (sI b.to), .d (sI b.x)]
theorem bU {w W:World} {b o:Nat} {blk:Nat} (hW:∀b,b<w.heap.size→b≠blk→W.heap[b]? =w.heap[b]?) (hb:b<w.heap.size) (hne:b≠blk):W.cell? ⟨b,o,none⟩=w.cell? ⟨b,o,none⟩:=by
 simp only [World.cell?,hW b hb hne]
end
end Go.Ab
end
section
namespace Go.Ab
open Go.Proofs
attribute [local congr] ACall.congr gd.congr Nx.congr
set_option maxRecDepth 20000
set_option maxHeartbeats 16000000
section
open Go.RowKit Go.Shelf Go.Sort Go.Lib
def KR (d:Dr) (x i k:Int):Int:= -(sd (de d x) (gA d k) (gA d i))
def KS (d:Dr) (u v:Int):Int:=if compareInt (de d u).2 (de d v).2=0 then compareInt (de d u).1 (de d v).1 else compareInt (de d u).2 (de d v).2
def zR (d:Dr) (u v:Int):Prop:=(de d u).2<(de d v).2∨((de d u).2=(de d v).2∧(de d u).1<(de d v).1)
theorem zS {d:Dr} {x i k:Int} :KR d x i k<0↔jS d x i k:=by
 unfold KR jS qu sd fN
 split
 ·omega
 ·split<;>omega
theorem zT {d:Dr} {u v:Int} :KS d u v<0↔zR d u v:=by
 unfold KS zR
 by_cases h:(de d u).2=(de d v).2
 ·rw [if_pos (A6.2 h),A5];omega
 ·rw [if_neg (fun e=>h (A6.1 e)),A5];omega
theorem A7 {w:World} {z:Nat→Nat} {v:Value} {l:List Pt} (h:Rd w z v (sP l)) (hne:l≠ []):∃b off cap,v= .slice (some ⟨b,off,none⟩) l.length cap∧b<w.heap.size∧0<z b∧∀j,j<l.length→w.cell? ⟨b,off+j*2,none⟩=some (.int .i64 (l.getD j (0,0)).1)∧w.cell? ⟨b,off+j*2+1,none⟩=some (.int .i64 (l.getD j (0,0)).2):=by
 generalize hx:sP l=x at h
 cases h with
 |sc v h=>cases hx
 |pt b off cells vs hz hc hr=>cases hx
 |nil p sz=>
  simp only [sP,D.sl.injEq,List.map_eq_nil_iff] at hx
  exact absurd hx.2 hne
 |sl b off n cap sz rows vs hn hsz hz hcap hc hr=>
  simp only [sP,D.sl.injEq] at hx
  obtain ⟨rfl,rfl⟩:=hx
  rw [List.length_map] at hn
  subst hn
  have hpos:0<l.length:=List.length_pos_iff.2 hne
  refine ⟨b,off,cap,rfl, ?_,by omega,fun j hj=>⟨?_, ?_⟩⟩
  ·have:=hc 0 (by omega)
   by_cases hlt:b<w.heap.size
   ·exact hlt
   ·exfalso
    simp [World.cell?,Array.getElem?_eq_none (Nat.le_of_not_lt hlt)] at this
  ·have h1:=hc (j*2+0) (by omega)
   have h2:=hr j 0 (rP l[j]) (.sc (.int .i64 l[j].1)) (by simp [List.getElem?_eq_getElem hj]) rfl
   have h3:=vY h2
   simp only [Nat.add_zero] at h1 h3
   rw [h1,h3]
   simp [List.getD_eq_getElem?_getD,List.getElem?_eq_getElem hj]
  ·have h1:=hc (j*2+1) (by omega)
   have h2:=hr j 1 (rP l[j]) (.sc (.int .i64 l[j].2)) (by simp [List.getElem?_eq_getElem hj]) rfl
   have h3:=vY h2
   rw [Nat.add_assoc,h1,h3]
   simp [List.getD_eq_getElem?_getD,List.getElem?_eq_getElem hj]
theorem HR {w:World} {z:Nat→Nat} {v:Value} {l:List (List Pt)} (h:Rd w z v (sLn l)) (hne:l≠ []):∃b off cap,v= .slice (some ⟨b,off,none⟩) l.length cap∧b<w.heap.size∧0<z b∧∀j,j<l.length→∃u,w.cell? ⟨b,off+j,none⟩=some u∧Rd w z u (sP (l.getD j [])):=by
 generalize hx:sLn l=x at h
 cases h with
 |sc v h=>cases hx
 |pt b off cells vs hz hc hr=>cases hx
 |nil p sz=>
  simp only [sLn,vP,D.sl.injEq,List.map_eq_nil_iff] at hx
  exact absurd hx.2 hne
 |sl b off n cap sz rows vs hn hsz hz hcap hc hr=>
  simp only [sLn,vP,D.sl.injEq] at hx
  obtain ⟨rfl,rfl⟩:=hx
  rw [List.length_map] at hn
  subst hn
  have hpos:0<l.length:=List.length_pos_iff.2 hne
  refine ⟨b,off,cap,rfl, ?_,by omega,fun j hj=> ?_⟩
  ·have:=hc 0 (by omega)
   by_cases hlt:b<w.heap.size
   ·exact hlt
   ·exfalso
    simp [World.cell?,Array.getElem?_eq_none (Nat.le_of_not_lt hlt)] at this
  ·have h1:=hc j (by omega)
   have h2:=hr j 0 [sP l[j]] (sP l[j]) (by simp [List.getElem?_eq_getElem hj]) rfl
   simp only [Nat.mul_one,Nat.add_zero] at h2
   refine ⟨_,h1, ?_⟩
   rw [List.getD_eq_getElem?_getD,List.getElem?_eq_getElem hj]
   exact h2
def o7 (d:Dr):List AV:= [.d (sP d.pts), .d (sLn d.ls)]
theorem EF {d:Dr} {w:World} {E:Env} {vs:List Value} (h:AVrs w E (o7 d) vs):∃v0 v1,vs= [v0,v1]∧Rd w E.z v0 (sP d.pts)∧Rd w E.z v1 (sLn d.ls):=by
 obtain ⟨v0,r0,rfl,h0,h⟩:=h
 obtain ⟨v1,r1,rfl,h1,h⟩:=h
 simp only [AVrs] at h
 subst h
 exact ⟨v0,v1,rfl,h0,h1⟩
theorem zU {g:Gr} {d:Dr} (R:uc g d) {x:Int} (hx0:0≤x∧x<g.n) {l l':List Int} (S:Cy (KR d x) l l') (hl:∀i∈l,0≤i∧i<g.es.length) (hlen:l.length≤1000000):
 Spec Tryz.prog 46 (Args [.ref 10000, .fn 47 [] [.ptr 10001 0, .ptr 10002 0]]) [(10000, .own 3 1 (l.map rI)),(10001, .box (o7 d)),(10002, .box [eN x])] (.tup []) [(10000, .own 3 1 (l'.map rI)),(10001, .box (o7 d)),(10002, .box [eN x])]:=by
 refine yp S hlen (enters_of Tryz.func47 (by kernel_rfl) rfl) ?_
 intro w E B Xb blk v1 v2 e1 e2 hB hX hA M8 hne Ch hz W hsz hW i hi k hk
 obtain ⟨va,vb,rfl,ha,hb⟩:=EF hA
 obtain ⟨xv,r2,rfl,P9,Cs⟩:=M8
 simp only [AVrs] at Cs
 subst Cs
 have KG:xv= .int .i64 x:=bw P9
 subst KG
 have hi2:=hl i hi
 have hk2:=hl k hk
 have hnl:=R.nl
 have hnp:=R.np
 obtain ⟨bp,op,cp,rfl,g1,g2,g3⟩:=A7 ha (fun e=>by rw [e] at hnp;simp at hnp;omega)
 obtain ⟨bl,ol,cl,rfl,g4,g5,g6⟩:=HR hb (fun e=>by rw [e] at hnl;simp at hnl;omega)
 have Gy:B<w.heap.size:=(Array.getElem?_eq_some_iff.1 hB).1
 have JI:Xb<w.heap.size:=(Array.getElem?_eq_some_iff.1 hX).1
 obtain ⟨ui,c1,r1⟩:=g6 i.toNat (by omega)
 obtain ⟨uk,c2,r2⟩:=g6 k.toNat (by omega)
 have li:=R.len _ (fm R hi2.1 hi2.2)
 have lk:=R.len _ (fm R hk2.1 hk2.2)
 obtain ⟨bi,oi,ci,rfl,i1,i2,i3⟩:=A7 r1 (fun e=>by have:(dR d i).length=0:=by unfold dR;rw [e];rfl
                                                  omega)
 obtain ⟨bk,ok,ck,rfl,k1,k2,k3⟩:=A7 r2 (fun e=>by have:(dR d k).length=0:=by unfold dR;rw [e];rfl
                                                  omega)
 have nz:∀b,0<E.z b→b≠blk:=fun b hb e=>by rw [e] at hb;omega
 have hq:=g3 x.toNat (by omega)
 have hqi:=i3 1 (by show 1<(dR d i).length;omega)
 have FD:=k3 1 (by show 1<(dR d k).length;omega)
 have Qa:(d.ls.getD i.toNat []).getD 1 (0,0)=gA d i:=rfl
 have Qb:(d.ls.getD k.toNat []).getD 1 (0,0)=gA d k:=rfl
 rw [Qa] at hqi
 rw [Qb] at FD
 have iP:bJ (de d x):=R.KJ _ (aO (by omega))
 have iI:bJ (gA d i):=R.kS _ (fm R hi2.1 hi2.2) _ (aO (by omega))
 have iK:bJ (gA d k):=R.kS _ (fm R hk2.1 hk2.2) _ (aO (by omega))
 have hc:=HL W B Xb bp op d.pts.length cp bl ol d.ls.length cl x.toNat i.toNat k.toNat bi oi (d.ls.getD i.toNat []).length ci bk ok (d.ls.getD k.toNat []).length ck (de d x) (gA d i) (gA d k) iP iI iK
  (by rw [bU hW Gy hne];simp [World.cell?,hB]) (by rw [bU hW Gy hne];simp [World.cell?,hB]) (by rw [bU hW JI Ch];simp [World.cell?,hX];omega)
  (by omega) (by omega) (by omega) (by show 1<(dR d i).length;omega) (by show 1<(dR d k).length;omega)
  (by rw [bU hW g1 (nz _ g2)];exact hq.1) (by rw [bU hW g1 (nz _ g2)];exact hq.2)
  (by rw [bU hW g4 (nz _ g5)];exact c1) (by rw [bU hW g4 (nz _ g5)];exact c2)
  (by rw [bU hW i1 (nz _ i2)];exact hqi.1) (by rw [bU hW i1 (nz _ i2)];exact hqi.2) (by rw [bU hW k1 (nz _ k2)];exact FD.1) (by rw [bU hW k1 (nz _ k2)];exact FD.2)
 rw [show ((i.toNat:Nat):Int)=i by omega,show ((k.toNat:Nat):Int)=k by omega] at hc
 exact hc
theorem zV {g:Gr} {d:Dr} (R:uc g d) {l l':List Int} (S:Cy (KS d) l l') (hl:∀i∈l,0≤i∧i<g.n) (hlen:l.length≤1000000):
 Spec Tryz.prog 46 (Args [.ref 10000, .fn 49 [] [.ptr 10001 0]]) [(10000, .own 3 1 (l.map rI)),(10001, .box (o7 d))] (.tup []) [(10000, .own 3 1 (l'.map rI)),(10001, .box (o7 d))]:=by
 refine zL S hlen (enters_of Tryz.func49 (by kernel_rfl) rfl) rfl ?_
 intro w E B blk vs e hB hA hne hz W hsz hW i hi k hk
 obtain ⟨va,vb,rfl,ha,hb⟩:=EF hA
 have hi2:=hl i hi
 have hk2:=hl k hk
 have hnp:=R.np
 obtain ⟨bp,op,cp,rfl,g1,g2,g3⟩:=A7 ha (fun e=>by rw [e] at hnp;simp at hnp;omega)
 have Gy:B<w.heap.size:=(Array.getElem?_eq_some_iff.1 hB).1
 have nz:∀b,0<E.z b→b≠blk:=fun b hb e=>by rw [e] at hb;omega
 have hqi:=g3 i.toNat (by omega)
 have FD:=g3 k.toNat (by omega)
 have hc:=HM W B bp op d.pts.length cp i.toNat k.toNat (de d i) (de d k) (by rw [bU hW Gy hne];simp [World.cell?,hB]) (by omega) (by omega)
  (by rw [bU hW g1 (nz _ g2)];exact hqi.1) (by rw [bU hW g1 (nz _ g2)];exact hqi.2) (by rw [bU hW g1 (nz _ g2)];exact FD.1) (by rw [bU hW g1 (nz _ g2)];exact FD.2)
 rw [show ((i.toNat:Nat):Int)=i by omega,show ((k.toNat:Nat):Int)=k by omega] at hc
 exact hc
end
structure qw (g:Gr) (d:Dr) (p:Pl):Prop where
 perm:p.ord.Perm (fh g.n.toNat)
 sort:p.ord.Pairwise (zR d)
 len:p.outs.length=g.n.toNat
 outs:∀x:Nat,x<g.n.toNat→(p.outs.getD x []).Perm (bq g x)
 EE:∀x:Nat,x<g.n.toNat→(p.outs.getD x []).Pairwise (jS d x)
theorem Cm {g:Gr} {d:Dr} {p:Pl} (hp:qw g d p) {x:Nat} (hx:x<g.n.toNat):Cy (KR d x) (bq g x) (p.outs.getD x []):=
 {perm:=(hp.outs x hx).symm,nd:=dI,ord:=(hp.EE x hx).imp fun h=>⟨zS.2 h,fun h2=>tF h (zS.1 h2)⟩,KL:=fun i _ h=>by have:=zS.1 h;exact tF this this}
theorem EG {g:Gr} {d:Dr} {p:Pl} (hp:qw g d p):Cy (KS d) (fh g.n.toNat) p.ord:=
 {perm:=hp.perm.symm,nd:=gw,ord:=hp.sort.imp fun h=>⟨zT.2 h,fun h2=>by have:=zT.1 h2;unfold zR at*;omega⟩,KL:=fun i _ h=>by have:=zT.1 h;unfold zR at this;omega}
end Go.Ab
end
section
namespace Go.Ab
open Go.Proofs
attribute [local congr] ACall.congr gd.congr Nx.congr
set_option maxRecDepth 20000
set_option maxHeartbeats 16000000
theorem Cn {k:Nat} :(fh (k+1)).map rI=(fh k).map rI++ [rI (k:Int)]:=by simp [fh,List.range_succ]
end Go.Ab
end
section
namespace Go.Ab
open Go.Proofs
attribute [local congr] ACall.congr gd.congr Nx.congr
set_option maxRecDepth 20000
set_option maxHeartbeats 16000000
theorem wq (g:Gr) (d:Dr) (p:Pl) (wW:g.es.length≤1000) (fH:d.pts.length≤1000) (hls:d.ls.length≤1000) (pM:∀l∈d.ls,l.length≤1000) (h0:(gL g d).1=0) (hp:qw g d p):Spec Tryz.prog 16 (Args [eG g,eDr d]) [] (.tup [ePl p,eN 0]) []:=by
 have hR:=fT g d wW fH hls pM
 obtain ⟨hc0,h⟩:=J7 h0
 rw [hc0] at hR
 have hm:=cm h.qx
 have hn:=bM hm
 obtain ⟨N,hN⟩:∃N:Nat,g.n=N:=⟨g.n.toNat,by omega⟩
 have N3:g.n.toNat=N:=by omega
 have lo:p.outs.length=N:=by rw [hp.len,N3]
 have N4:=l9 g hm
 have N5:=EG hp
 rw [N3] at N5
 have Qc:=zV h N5 (fun i hi=>by have:=dP.1 hi;omega) (by rw [jO];omega)
 have hO:=fun (x:Nat) (hx:x<N)=>zQ g hm x ⟨by omega,by omega⟩
 have Kj:=fun (x:Nat) (hx:x<N)=>zU h (x:=(x:Int)) ⟨by omega,by omega⟩ (Cm hp (x:=x) (by omega)) (fun i hi=>by have:=(gy hi).1;omega) (by have:=jE (f:=(·.1)) (es:=g.es) (k:=g.es.length) (x:=(x:Int));show (aX (·.1) g.es g.es.length (x:Int)).length≤_;omega)
 have Eo:eG g= .agg [eN N, .d (sE g.es)]:=by rw [eG,hN]
 rw [Eo] at hR N4 ⊢
 have Rg:eDr d= .agg [.d (sP d.pts), .d (sLn d.ls)]:=rfl
 (refine Spec.hd (C:=T.cfg [28] []) (rs:= [.c 4 34, .t 5]) (T.ai _ _) Tryz.func16 rfl rfl Tryz.ntmps16 Tryz.results16 (by simp [AObj.isNest]) (by simp [AObj.isNest]) (by kernel_rfl) T.mixed fun X hX hP hC aF bY=> ?_)
 repeat' (first|refine Rn.p ?_|(with_reducible apply And.intro)|((first|(refine hK _ ?_;clear hK K)|with_reducible intro K hK|refine Rs.p ?_|((with_reducible first|apply oP|apply oQ);exact rfl)|refine aa hX hC hP (hR) rfl rfl rfl (by simp only [go_sem,simprocAttr,o7]) rfl ?_|refine aa hX hC hP (N4) rfl rfl rfl (by simp only [go_sem,simprocAttr,o7]) rfl ?_);try simp only [go_sem,simprocAttr,o7])|((with_reducible refine oD ?_ ?_);kernel_rfl)|((with_reducible intro h);try simp only [go_sem,simprocAttr,o7] at h)|omega|intro h)
 (refine xE hX 7 0 200 (.own 3 1 []) rfl rfl rfl (by simp only [go_sem,simprocAttr,o7]) (by decide) (by simp [go_sem,simprocAttr,o7]) ⟨3,1,by decide, .inl rfl⟩ ?_;simp only [List.set_cons_zero,List.set_cons_succ,go_sem,simprocAttr,o7])
 (refine xE hX 7 1 201 (.tip 31 1 []) rfl rfl rfl (by simp only [go_sem,simprocAttr,o7]) (by decide) (by simp [go_sem,simprocAttr,o7]) ⟨31,1,by decide, .inr rfl⟩ ?_;simp only [List.set_cons_zero,List.set_cons_succ,go_sem,simprocAttr,o7])
 refine ag (fun k:Nat=>k≤N) (fun k=>⟨[(2, .ptr 2 0),(3, .ptr 3 0),(4, .ptr 4 0),(5,eN 0),(6, .d (vw g)),(7, .ptr 7 0),(20,eN N),(21,eN k)], [(2, .box [eN N, .d (sE g.es)]),(3, .box [.d (sP d.pts), .d (sLn d.ls)]),(4, .box [.nil 3, .nil 31]),(7, .box [.ref 200, .ref 201]),(200, .own 3 1 ((fh k).map rI)),(201, .tip 31 1 (vI (p.outs.take k)))]⟩) (fun k=>N - k) 0 (by omega) ?_ ?_
 ·refine Le.of ?_ ?_<;>simp [go_sem,simprocAttr,fh,vI]
 rintro k hk
 rcases Nat.lt_or_ge k N with cq|Gb
 ·have hb:decide ((k:Int)<(N:Int))=true:=decide_eq_true (by omega)
  have hO:=hO k cq
  have Kj:=Kj k cq
  have ga:vI (p.outs.take (k+1))=vI (p.outs.take k)++ [[sI (p.outs.getD k [])]]:=by
   simp only [vI];rw [s4 (d:= []) (show k<p.outs.length by omega)]
  have hna:=Cn (k:=k)
  have pF:(p.outs.take k).length=k:=by rw [List.length_take];omega
  have BO:(fh k).length=k:=jO
  generalize p.outs.getD k []=L at Kj ga
  generalize bq g (k:Int)=l at hO Kj
  generalize Fb:p.outs.take (k+1)=T2 at ga
  generalize p.outs.take k=T1 at ga pF
  generalize M8:(fh (k+1)).map rI=A2 at hna
  generalize fh k=A1 at hna BO
  repeat' (first|(show cG _ (.seq (.region 8 _ _) _) _ _;(refine Ao hX 7 0 28 200 rfl rfl rfl (by first|exact .inl rfl|exact .inr rfl) (by decide) (by decide) ?_;simp only [List.set_cons_zero,List.set_cons_succ,go_sem,simprocAttr,hb,pF,BO,o7]))|(show cG _ (.region 10 _ _) _ _;(refine dg hX 32 rfl (.inl rfl) ?_;simp only [go_sem,simprocAttr,hb,pF,BO,o7]))|(show cG _ (.region 11 _ _) _ _;(refine Ao hX 7 1 40 201 rfl rfl rfl (by first|exact .inl rfl|exact .inr rfl) (by decide) (by decide) ?_;simp only [List.set_cons_zero,List.set_cons_succ,go_sem,simprocAttr,hb,pF,BO,o7]))|refine Rn.p ?_|(with_reducible apply And.intro)|((first|(refine hK _ ?_;clear hK K)|with_reducible intro K hK|refine Rs.p ?_|((with_reducible first|apply oP|apply oQ);exact rfl)|(refine j6 hX hC hP 32 (hO) rfl rfl rfl ?_ ?_ (by first|exact ⟨_,_,_,rfl,D5⟩|exact ⟨_,_,_,rfl,D6⟩|exact ⟨_,_,_,rfl,EB⟩) rfl (by decide) ?_;(iterate 2 (focus (simp only [go_sem,simprocAttr,hb,pF,BO,o7];done)));simp only [go_sem,simprocAttr,hb,pF,BO,o7])|(refine bN hX hC hP [(10000,32),(10001,3),(10002,8)] (Kj) rfl rfl rfl ?_ ?_ ?_ ?_ ?_ ?_ ?_ ?_ ?_ ?_ ?_ ?_ ?_ ?_;(focus (simp only [go_sem,simprocAttr,hb,pF,BO,o7];done));(iterate 12 (focus (simp [go_sem,simprocAttr,hb,pF,BO,o7];done)));try simp only [List.map_cons,List.map_nil]));try simp only [go_sem,simprocAttr,hb,pF,BO,o7])|((with_reducible refine oD ?_ ?_);kernel_rfl)|((with_reducible intro h);try simp only [go_sem,simprocAttr,hb,pF,BO,o7] at h)|omega|intro h)
  refine ⟨k+1,by omega, ?_,by omega⟩
  rw [M8,Fb,hna,ga]
  refine Le.of ?_ ?_<;>simp [go_sem,simprocAttr,hb,pF,BO,o7,rI]
 have hb:decide ((k:Int)<(N:Int))=false:=decide_eq_false (by omega)
 obtain rfl:k=N:=by omega
 rw [show p.outs.take k=p.outs by rw [← lo];exact List.take_length]
 generalize fh k=A1 at*
 repeat' (first|refine Rn.p ?_|(with_reducible apply And.intro)|((first|(refine hK _ ?_;clear hK K)|with_reducible intro K hK|refine Rs.p ?_|((with_reducible first|apply oP|apply oQ);exact rfl)|(refine bN hX hC hP [(10000,200),(10001,3)] (Qc) rfl rfl rfl ?_ ?_ ?_ ?_ ?_ ?_ ?_ ?_ ?_ ?_ ?_ ?_ ?_ ?_;(focus (simp only [go_sem,simprocAttr,hb,o7];done));(iterate 12 (focus (simp [go_sem,simprocAttr,hb,o7];done)));try simp only [List.map_cons,List.map_nil]));try simp only [go_sem,simprocAttr,hb,o7])|((with_reducible refine oD ?_ ?_);kernel_rfl)|((with_reducible intro h);try simp only [go_sem,simprocAttr,hb,o7] at h)|omega|intro h)
end Go.Ab
end
section
namespace Go.Ab
open Go.Proofs
attribute [local congr] ACall.congr gd.congr Nx.congr
set_option maxRecDepth 20000
set_option maxHeartbeats 16000000
def N6 (n:Nat) (us:List Int):List Bool:=(List.range n).map fun x:Nat=>decide ((x:Int)∈us)
def N7 (n:Nat) (ls:List (List Int)) (k:Nat):List (List Int):=(List.range n).map fun x=>if x<k then ls.getD x [] else []
def Qd (b:Br) (u v:Int):Bool:=decide (yB b u<yB b v)||(decide (yB b u=yB b v)&&decide (fB b u<fB b v))
def Rh (b:Br) (a c:Int):Bool:=decide (xB b c<xB b a)
end Go.Ab
end
section
namespace Go.Ab
open Go.Proofs
attribute [local congr] ACall.congr gd.congr Nx.congr
set_option maxRecDepth 20000
set_option maxHeartbeats 16000000
def F4 (d:Dr) (u v:Int):Bool:=decide ((de d u).2<(de d v).2)||(decide ((de d u).2=(de d v).2)&&decide ((de d u).1<(de d v).1))
def KT (d:Dr) (x a c:Int):Bool:=decide (xQ (de d x) (gA d a) (gA d c)=1)
instance {d:Dr} {x i k:Int} :Decidable (jS d x i k):=inferInstanceAs (Decidable (0<_))
theorem HS {d:Dr} {x a c:Int} (hx:bJ (de d x)) (ha:bJ (gA d a)) (hc:bJ (gA d c)):KT d x a c=decide (jS d x c a):=by
 unfold KT xQ
 rw [if_pos ⟨hx,ha,hc⟩]
 have e:aj (de d x) (gA d a) (gA d c)=qu d x c a:=by unfold aj qu tm;grind
 rw [e]
 unfold jS fN
 congr 1
 refine propext ⟨fun h=> ?_,fun h=> ?_⟩<;>split at* <;>(try split at*)<;>omega
theorem EH {g:Gr} {d:Dr} (R:uc g d) {x:Nat} (hx:x<g.n.toNat):(FQ (KT d x) (bq g x).length (bq g x)).Pairwise (jS d x):=by
 have dB:(bq g (x:Int)).Nodup:=dI
 have hin:∀i∈bq g (x:Int),(0≤i∧i<g.es.length)∧jU g i=x:=fun i hi=>gy hi
 have hX:bJ (de d x):=R.KJ _ (aO (by have:=R.np;omega))
 have hF:∀i∈bq g (x:Int),bJ (gA d i):=fun i hi=>R.kS _ (fm R (hin i hi).1.1 (hin i hi).1.2) _ (aO (by have:=(R.len _ (fm R (hin i hi).1.1 (hin i hi).1.2)).1;omega))
 refine nF (S:=fun i=>i∈bq g (x:Int)) (fun a c e ha hc he h1 h2=>Ca R (hin a ha).1 (hin c hc).1 (hin e he).1 (hin a ha).2 (hin c hc).2 (hin e he).2 h1 h2) (fun a c ha hc hne=> ?_) (Nat.le_refl _) dB fun i hi=>hi
 rw [HS hX (hF a ha) (hF c hc)]
 rcases Cb R (hin a ha).1 (hin c hc).1 (hin a ha).2 (hin c hc).2 hne with h|h
 ·rw [if_neg (by simp;exact fun h2=>tF h h2)];exact h
 ·rw [if_pos (by simpa using h)];exact h
end Go.Ab
end
section
namespace Go.Ab
open Go.Proofs
attribute [local congr] ACall.congr gd.congr Nx.congr
set_option maxRecDepth 20000
set_option maxHeartbeats 16000000
theorem uX {f:Nat→List Int} {n i:Nat} (h:i<n):((List.range n).map f).getD i []=f i:=by
 rw [List.getD_eq_getElem?_getD,List.getElem?_map,List.getElem?_range h];rfl
theorem EI {g:Gr} {d:Dr} (h:uc g d):∃p,qw g d p:=by
 have hnp:=h.np
 have Qe:∀u v:Int,yg g u→yg g v→u≠v→zR d u v∨zR d v u:=fun u v hu hv hne=>by
  have MJ:=hu.1;have Ri:=hu.2;have IB:=hv.1;have Ig:=hv.2
  have Ch:de d u≠de d v:=fun e=>by
   rcases Nat.lt_or_gt_of_ne (show u.toNat≠v.toNat by omega) with h1|h1
   ·exact h.alone u.toNat v.toNat h1 (by omega) e
   ·exact h.alone v.toNat u.toNat h1 (by omega) e.symm
  have h2:¬((de d u).1=(de d v).1∧(de d u).2=(de d v).2):=fun e=>Ch (Prod.ext e.1 e.2)
  unfold zR
  omega
 refine ⟨⟨FQ (fun a c=>F4 d c a) g.n.toNat (fh g.n.toNat),(List.range g.n.toNat).map fun x:Nat=>FQ (KT d x) (bq g x).length (bq g x)⟩,⟨oZ, ?_,by simp,fun x hx=> ?_,fun x hx=> ?_⟩⟩
 ·refine nF (S:=fun v=>yg g v) (fun a c d _ _ _ h1 h2=>by unfold zR at*;omega) (fun a c ha hc hne=> ?_) (by rw [jO];omega) gw fun v hv=>by have:=dP.1 hv;exact ⟨by omega,by omega⟩
  have:=Qe a c ha hc hne
  by_cases h1:F4 d c a=true
  ·rw [if_pos h1]
   simp only [F4,Bool.or_eq_true,Bool.and_eq_true,decide_eq_true_eq] at h1
   unfold zR;omega
  ·rw [if_neg h1]
   simp only [F4,Bool.or_eq_true,Bool.and_eq_true,decide_eq_true_eq] at h1
   unfold zR at*;omega
 ·rw [uX hx];exact oZ
 ·rw [uX hx]
  exact EH h hx
theorem Co {g:Gr} {d:Dr} {p:Pl} (h:uc g d) (hp:qw g d p):J2 p∧AW p:=by
 have hm:=cm h.qx
 have hn:=bM hm
 have hl:p.ord.length=g.n.toNat:=by rw [hp.perm.length_eq,jO]
 have ho:=hp.len
 have he:∀l∈p.outs,l.length≤g.es.length:=fun l hl=>by
  obtain ⟨x,hx,rfl⟩:=List.mem_iff_getElem.1 hl
  have:=(hp.outs x (by omega)).length_eq
  rw [List.getD_eq_getElem?_getD,List.getElem?_eq_getElem hx,Option.getD_some] at this
  rw [this];exact s6
 exact ⟨⟨by omega,by omega,fun l hl=>by have:=he l hl;omega⟩,⟨by omega,by omega,fun l hl=>by have:=he l hl;omega⟩⟩
end Go.Ab
end
section
namespace Go.Ab
open Go.Proofs
set_option maxRecDepth 10000
structure Cv (p q:Pt) (y X:Rat):Prop where
 lo:(p.2:Rat)≤y
 hi:y≤(q.2:Rat)
 eq:(X - p.1)*(q.2 - p.2)=(q.1 - p.1)*(y - p.2)
theorem o8 {p q r s:Pt} {y X:Rat} (h1:Cv p q y X) (h2:Cv r s y X):((aj p q r:Int):Rat)*(s.2 - r.2)=(r.2 - y)*((tm p q r s:Int):Rat):=by
 have e1:=h1.eq
 have e2:=h2.eq
 unfold aj tm
 push_cast
 grind
theorem yx {p q r s:Pt} {y X:Rat} (h1:Cv p q y X) (h2:Cv r s y X):((aj p q s:Int):Rat)*(s.2 - r.2)=(s.2 - y)*((tm p q r s:Int):Rat):=by
 have e1:=h1.eq
 have e2:=h2.eq
 unfold aj tm
 push_cast
 grind
theorem fU {a b:Rat} (ha:a≤0) (hb:0≤b):a*b≤0:=by
 have:=Rat.mul_nonneg (show 0≤ -a by grind) hb
 grind
theorem HT (a:Rat):0≤a*a:=by
 rcases (show 0≤a∨a≤0 from Rat.le_total) with h|h
 ·exact Rat.mul_nonneg h h
 ·have:=Rat.mul_nonneg (show 0≤ -a by grind) (show 0≤ -a by grind)
  grind
theorem A8 {p q r s:Pt} {y X:Rat} (h1:Cv p q y X) (h2:Cv r s y X) (hr:r.2<s.2):aj p q r*aj p q s≤0:=by
 have a1:=o8 h1 h2
 have a2:=yx h1 h2
 have hp:(0:Rat)<s.2 - r.2:=by
  have:(r.2:Rat)<s.2:=by exact_mod_cast hr
  grind
 generalize ((tm p q r s:Int):Rat)=M at a1 a2
 have l1:=h2.lo
 have l2:=h2.hi
 have k:((aj p q r*aj p q s:Int):Rat)≤0:=by
  push_cast
  generalize ((aj p q r:Int):Rat)=A at a1 a2 ⊢
  generalize ((aj p q s:Int):Rat)=B at a1 a2 ⊢
  generalize hD:(s.2:Rat) - r.2=D at*
  have e:(A*B)*(D*D)=(((r.2:Rat) - y)*(s.2 - y))*(M*M):=by grind
  have n1:((r.2:Rat) - y)*(s.2 - y)≤0:=fU (by grind) (by grind)
  have n2:=fU n1 (HT M)
  have dp:0<D*D:=Rat.mul_pos hp hp
  refine Rat.not_lt.1 fun hn=> ?_
  have:=Rat.mul_pos hn dp
  grind
 exact_mod_cast k
theorem lT {p q c:Pt} (hu:p.2<q.2) (h:aj p q c=0) (h1:p.2≤c.2) (h2:c.2≤q.2):gJ p q c=true:=by
 refine fQ.2 ⟨h, ?_, ?_⟩
 ·have e:((p.1 - c.1)*(q.1 - c.1))*((q.2 - p.2)*(q.2 - p.2))= -(((q.1 - p.1)*(q.1 - p.1))*((c.2 - p.2)*(q.2 - c.2))):=by
   unfold aj at h
   grind
  refine cg (s:=q.2 - p.2) (by omega) ?_
  rw [e]
  have:=Int.mul_nonneg (sq_nonneg (q.1 - p.1)) (Int.mul_nonneg (show 0≤c.2 - p.2 by omega) (show 0≤q.2 - c.2 by omega))
  omega
 ·exact Int.mul_nonpos_of_nonpos_of_nonneg (by omega) (by omega)
theorem Cp {p q c:Pt} (hu:p.2<q.2) (h:gJ p q c=true):p.2≤c.2∧c.2≤q.2∧aj p q c=0:=by
 obtain ⟨h1,_,h3⟩:=fQ.1 h
 refine ⟨Int.not_lt.1 fun hn=> ?_,Int.not_lt.1 fun hn=> ?_,h1⟩
 ·have:=Int.mul_pos (show 0<p.2 - c.2 by omega) (show 0<q.2 - c.2 by omega)
  omega
 ·have:=Int.mul_pos_of_neg_of_neg (show p.2 - c.2<0 by omega) (show q.2 - c.2<0 by omega)
  omega
theorem iQ {p q c:Pt} (hu:p.2<q.2) (h:gJ p q c=true):Cv p q c.2 c.1:=by
 obtain ⟨h1,h2,h3⟩:=Cp hu h
 refine ⟨by exact_mod_cast h1,by exact_mod_cast h2, ?_⟩
 have e:(c.1 - p.1)*(q.2 - p.2)=(q.1 - p.1)*(c.2 - p.2):=by unfold aj at h3;grind
 exact_mod_cast e
theorem EJ {p q c:Pt} (hu:p.2<q.2) (h:Cv p q c.2 c.1):gJ p q c=true:=by
 have e:(c.1 - p.1)*(q.2 - p.2)=(q.1 - p.1)*(c.2 - p.2):=by have:=h.eq;exact_mod_cast this
 have h1:=h.lo
 have h2:=h.hi
 exact lT hu (by unfold aj;grind) (by exact_mod_cast h1) (by exact_mod_cast h2)
theorem EK {l:List (List Int)} {a b:List Int} (ha:a∈l) (hb:b∈l) (hne:a≠b):2≤l.length:=by
 match l,ha,hb with
 | [c],ha,hb=>simp at ha hb;exact absurd (ha.trans hb.symm) hne
 |_::_::_,_,_=>simp
theorem qT {p q r s:Pt} {y X:Rat} (h1:Cv p q y X) (h2:Cv r s y X) (hr:r.2<s.2) (hT:tm p q r s=0):aj p q r=0∧aj p q s=0:=by
 have a1:=o8 h1 h2
 have a2:=yx h1 h2
 rw [hT] at a1 a2
 have hp:(0:Rat)<s.2 - r.2:=by
  have:(r.2:Rat)<s.2:=by exact_mod_cast hr
  grind
 refine ⟨?_, ?_⟩
 ·have:((aj p q r:Int):Rat)=0:=by
   generalize ((aj p q r:Int):Rat)=A at*
   push_cast at a1
   grind
  exact_mod_cast this
 ·have:((aj p q s:Int):Rat)=0:=by
   generalize ((aj p q s:Int):Rat)=A at*
   push_cast at a2
   grind
  exact_mod_cast this
theorem A9 {p q:Pt} {y X:Rat} {c:Int} (h:Cv p q y X):((c:Rat)≤y→c≤q.2)∧(y≤(c:Rat)→p.2≤c):=by
 have h1:=h.lo
 have h2:=h.hi
 exact ⟨fun h3=>by have:(c:Rat)≤q.2:=by grind
                   exact_mod_cast this,fun h3=>by have:(p.2:Rat)≤c:=by grind
                                                  exact_mod_cast this⟩
theorem EL {p q r s:Pt} {y X:Rat} (hu:p.2<q.2) (hr:r.2<s.2) (h1:Cv p q y X) (h2:Cv r s y X) (hT:tm p q r s=0):∃c,vQ p q r s c∧(c.2:Rat)≤y:=by
 have Fb:tm r s p q=0:=by rw [qM];omega
 have f1:=(qT h1 h2 hr hT).1
 have f2:=(qT h2 h1 hu Fb).1
 rcases Int.le_total p.2 r.2 with h|h
 ·exact ⟨r, .inr (.inr (.inl ⟨lT hu f1 h ((A9 h1).1 h2.lo),rfl⟩)),h2.lo⟩
 ·exact ⟨p, .inl ⟨lT hr f2 h ((A9 h2).1 h1.lo),rfl⟩,h1.lo⟩
theorem HU {p q r s:Pt} {y X:Rat} (hu:p.2<q.2) (hr:r.2<s.2) (h1:Cv p q y X) (h2:Cv r s y X) (hT:tm p q r s=0):∃c,vQ p q r s c∧y≤(c.2:Rat):=by
 have Fb:tm r s p q=0:=by rw [qM];omega
 have f1:=(qT h1 h2 hr hT).2
 have f2:=(qT h2 h1 hu Fb).2
 rcases Int.le_total q.2 s.2 with h|h
 ·exact ⟨q, .inr (.inl ⟨lT hr f2 ((A9 h2).2 h1.hi) h,rfl⟩),h1.hi⟩
 ·exact ⟨s, .inr (.inr (.inr ⟨lT hu f1 ((A9 h1).2 h2.hi) h,rfl⟩)),h2.hi⟩
theorem F5 {p q r s:Pt} {y X:Rat} (hu:p.2<q.2) (hr:r.2<s.2) (h1:Cv p q y X) (h2:Cv r s y X):1≤fR p q r s:=by
 by_cases hT:tm p q r s=0
 ·obtain ⟨c,hc,_⟩:=EL hu hr h1 h2 hT
  have:0<(K4 p q r s).length:=List.length_pos_iff.2 (List.ne_nil_of_mem (kj.2 ⟨c,hc,rfl⟩))
  unfold fR
  rw [if_pos this]
  omega
 ·rw [qm hT,if_pos ⟨A8 h1 h2 hr,A8 h2 h1 hu⟩]
  omega
theorem yy {p q r s:Pt} {y z X Z:Rat} (hu:p.2<q.2) (hr:r.2<s.2) (h1:Cv p q y X) (h2:Cv r s y X) (h3:Cv p q z Z) (h4:Cv r s z Z) (hyz:y<z):fR p q r s=2:=by
 have hT:tm p q r s=0:=by
  have a1:=o8 h1 h2
  have a2:=o8 h3 h4
  have:((tm p q r s:Int):Rat)=0:=by
   generalize ((tm p q r s:Int):Rat)=M at*
   have:(z - y)*M=0:=by grind
   have:z - y≠0:=by grind
   grind
  exact_mod_cast this
 obtain ⟨c,hc,c1⟩:=EL hu hr h1 h2 hT
 obtain ⟨e,he,e1⟩:=HU hu hr h3 h4 hT
 have hne:key c≠key e:=fun h=>by
  have:c.2=e.2:=by unfold key at h;simp at h;exact h.2
  rw [this] at c1
  grind
 have:=EK (kj.2 ⟨c,hc,rfl⟩) (kj.2 ⟨e,he,rfl⟩) hne
 unfold fR
 rw [if_pos (by omega)]
 omega
theorem wu {p q:Pt} {y X Z:Rat} (hu:p.2<q.2) (h1:Cv p q y X) (h2:Cv p q y Z):X=Z:=by
 have hp:(0:Rat)<q.2 - p.2:=by
  have:(p.2:Rat)<q.2:=by exact_mod_cast hu
  grind
 have e1:=h1.eq
 have e2:=h2.eq
 generalize (q.2:Rat) - p.2=D at*
 have:(X - Z)*D=0:=by grind
 grind
theorem tG {p q:Pt} {y:Rat} (hu:p.2<q.2) (h1:(p.2:Rat)≤y) (h2:y≤q.2):∃X,Cv p q y X:=by
 have hp:(0:Rat)<q.2 - p.2:=by
  have:(p.2:Rat)<q.2:=by exact_mod_cast hu
  grind
 refine ⟨p.1+(q.1 - p.1)*(y - p.2) / (q.2 - p.2),h1,h2, ?_⟩
 generalize (q.2:Rat) - p.2=D at*
 grind
def lU (l:List Pt) (y X:Rat):Prop:=∃j,j+1<l.length∧Cv (l.getD j (0,0)) (l.getD (j+1) (0,0)) y X
def F6 (l:List Pt):Prop:=∀k,k+1<l.length→(l.getD k (0,0)).2<(l.getD (k+1) (0,0)).2
theorem wv {l:List Pt} (h:F6 l) {i:Nat} :∀ {j:Nat},i<j→j<l.length→(l.getD i (0,0)).2<(l.getD j (0,0)).2
 |j+1,hij,hj=>by
  have h1:=h j hj
  rcases Nat.lt_or_ge i j with h2|h2
  ·have:=wv h h2 (by omega)
   omega
  ·rw [show i=j by omega];exact h1
theorem tH {l:List Pt} (h:F6 l) {i j:Nat} (hij:i≤j) (hj:j<l.length):(l.getD i (0,0)).2≤(l.getD j (0,0)).2:=by
 rcases Nat.lt_or_ge i j with h2|h2
 ·exact Int.le_of_lt (wv h h2 hj)
 ·rw [show i=j by omega];omega
theorem uY {l:List Pt} (h:F6 l) {y X Z:Rat} {i j:Nat} (hij:i≤j) (hj:j+1<l.length) (h1:Cv (l.getD i (0,0)) (l.getD (i+1) (0,0)) y X) (h2:Cv (l.getD j (0,0)) (l.getD (j+1) (0,0)) y Z):X=Z:=by
 rcases Nat.lt_or_ge i j with hlt|hge
 ·have a1:=tH h (show i+1≤j by omega) (by omega)
  have a2:(l.getD j (0,0)).2≤(l.getD (i+1) (0,0)).2:=by
   have k1:=h1.hi
   have k2:=h2.lo
   have:((l.getD j (0,0)).2:Rat)≤(l.getD (i+1) (0,0)).2:=by grind
   exact_mod_cast this
  have hji:j=i+1:=by
   rcases Nat.lt_or_ge (i+1) j with h3|h3
   ·have:=wv h h3 (by omega);omega
   ·omega
  subst hji
  have u1:=h i (by omega)
  have u2:=h (i+1) (by omega)
  have hy:y=(l.getD (i+1) (0,0)).2:=by
   have k1:=h1.hi
   have k2:=h2.lo
   grind
  rw [hy] at h1 h2
  have c1:=iQ u1 (c:=l.getD (i+1) (0,0)) (by rw [oN];exact ko)
  have c2:=iQ u2 (c:=l.getD (i+1) (0,0)) ko
  exact (wu u1 h1 c1).trans (wu u2 c2 h2)
 ·obtain rfl:i=j:=by omega
  exact wu (h i hj) h1 h2
theorem fV {l:List Pt} (h:F6 l) {y X Z:Rat} (h1:lU l y X) (h2:lU l y Z):X=Z:=by
 obtain ⟨i,hi,h1⟩:=h1
 obtain ⟨j,hj,h2⟩:=h2
 rcases Nat.le_total i j with hij|hij
 ·exact uY h hij hj h1 h2
 ·exact (uY h hij hi h2 h1).symm
theorem mE {l:List Pt} {y:Int} (h0:(l.getD 0 (0,0)).2≤y):∀ {n:Nat},n<l.length→y<(l.getD n (0,0)).2→∃j,j+1<l.length∧(l.getD j (0,0)).2≤y∧y+1≤(l.getD (j+1) (0,0)).2
 |0,_,h=>absurd h0 (by omega)
 |n+1,hn,h=>by
  rcases Int.lt_or_le y (l.getD n (0,0)).2 with h1|h1
  ·exact mE h0 (by omega) h1
  ·exact ⟨n,hn,h1,by omega⟩
theorem HV {l:List Pt} (h:F6 l) {y:Int} (hl:2≤l.length) (h0:(l.getD 0 (0,0)).2≤y) (h1:y≤(l.getD (l.length - 1) (0,0)).2):∃X,lU l y X:=by
 rcases Int.lt_or_le y (l.getD (l.length - 1) (0,0)).2 with h2|h2
 ·obtain ⟨j,j1,j2,j3⟩:=mE h0 (by omega) h2
  obtain ⟨X,hX⟩:=tG (p:=l.getD j (0,0)) (q:=l.getD (j+1) (0,0)) (y:=(y:Rat)) (by omega) (by exact_mod_cast j2) (by exact_mod_cast (show y≤_ by omega))
  exact ⟨X,j,j1,hX⟩
 ·obtain ⟨m,hm⟩:∃m,l.length=m+2:=⟨l.length - 2,by omega⟩
  have hy:y=(l.getD (m+1) (0,0)).2:=by rw [hm] at h1 h2;simp only [Nat.add_sub_cancel,show m+2 - 1=m+1 by omega] at h1 h2;omega
  rw [hy]
  exact ⟨_,m,by omega,iQ (h m (by omega)) (by rw [oN];exact ko)⟩
theorem EM {p q:Pt} {y t X1 X2:Rat} (hu:p.2<q.2) (h1:Cv p q y X1) (h2:Cv p q (y+1) X2) (t1:y≤t) (t2:t≤y+1):Cv p q t (X1+(X2 - X1)*(t - y)):=by
 have e1:=h1.eq
 have e2:=h2.eq
 have l1:=h1.lo
 have l2:=h2.hi
 refine ⟨by grind,by grind, ?_⟩
 have:(X2 - X1)*((q.2:Rat) - p.2)=q.1 - p.1:=by grind
 grind
theorem yz {l m:List Pt} (hl:F6 l) (hm:F6 m) (ll:2≤l.length) (lm:2≤m.length) {y:Int} {X1 X2 Z1 Z2:Rat}
 (a1:lU l y X1) (b1:lU m y Z1) (a2:lU l (y+1:Int) X2) (b2:lU m (y+1:Int) Z2) (h1:X1<Z1) (h2:Z2<X2):∃t W:Rat,(y:Rat)<t∧t<(y+1:Int)∧lU l t W∧lU m t W:=by
 have zm:∀ {l:List Pt} {y:Int} {X:Rat},F6 l→lU l y X→(l.getD 0 (0,0)).2≤y∧y≤(l.getD (l.length - 1) (0,0)).2:=fun {l y X} hl h=>by
  obtain ⟨j,hj,h⟩:=h
  have k1:=h.lo
  have k2:=h.hi
  have k3:(l.getD j (0,0)).2≤y:=by exact_mod_cast k1
  have k4:y≤(l.getD (j+1) (0,0)).2:=by exact_mod_cast k2
  have k5:=tH hl (Nat.zero_le j) (by omega)
  have k6:=tH hl (show j+1≤l.length - 1 by omega) (by omega)
  omega
 obtain ⟨j,j1,j2,j3⟩:=mE (zm hl a1).1 (n:=l.length - 1) (by omega) (by have:=(zm hl a2).2;omega)
 obtain ⟨i,i1,i2,i3⟩:=mE (zm hm b1).1 (n:=m.length - 1) (by omega) (by have:=(zm hm b2).2;omega)
 have uj:=hl j j1
 have ui:=hm i i1
 have cast:((y+1:Int):Rat)=(y:Rat)+1:=by push_cast;rfl
 obtain ⟨x1,c1⟩:=tG (y:=(y:Rat)) uj (by exact_mod_cast j2) (by exact_mod_cast (show y≤_ by omega))
 obtain ⟨x2,c2⟩:=tG (y:=((y+1:Int):Rat)) uj (by exact_mod_cast (show _≤y+1 by omega)) (by exact_mod_cast j3)
 obtain ⟨z1,d1⟩:=tG (y:=(y:Rat)) ui (by exact_mod_cast i2) (by exact_mod_cast (show y≤_ by omega))
 obtain ⟨z2,d2⟩:=tG (y:=((y+1:Int):Rat)) ui (by exact_mod_cast (show _≤y+1 by omega)) (by exact_mod_cast i3)
 obtain rfl:=fV hl a1 ⟨j,j1,c1⟩
 obtain rfl:=fV hl a2 ⟨j,j1,c2⟩
 obtain rfl:=fV hm b1 ⟨i,i1,d1⟩
 obtain rfl:=fV hm b2 ⟨i,i1,d2⟩
 rw [cast] at c2 d2
 obtain ⟨u,hu⟩:∃u:Rat,u=(Z1 - X1) / ((Z1 - X1)+(X2 - Z2)):=⟨_,rfl⟩
 have hD:0<(Z1 - X1)+(X2 - Z2):=by grind
 have Rj:u*((Z1 - X1)+(X2 - Z2))=Z1 - X1:=by grind
 have u0:0<u:=by
  refine Rat.not_le.1 fun hn=> ?_
  have:=fU hn (Rat.le_of_lt hD)
  grind
 have u1:u<1:=by
  refine Rat.not_le.1 fun hn=> ?_
  have:=Rat.mul_nonneg (show 0≤u - 1 by grind) (Rat.le_of_lt hD)
  grind
 refine ⟨y+u,X1+(X2 - X1)*u,by grind,by rw [cast];grind,⟨j,j1, ?_⟩,⟨i,i1, ?_⟩⟩
 ·have:=EM uj c1 c2 (t:=y+u) (by grind) (by grind)
  rwa [show (y:Rat)+u - y=u by grind] at this
 ·have:=EM ui d1 d2 (t:=y+u) (by grind) (by grind)
  rw [show (y:Rat)+u - y=u by grind,show Z1+(Z2 - Z1)*u=X1+(X2 - X1)*u by grind] at this
  exact this
end Go.Ab
end
section
namespace Go.Ab
open Go.Proofs
set_option maxRecDepth 10000
set_option linter.unusedSectionVars false
def qU (g:Gr) (e:Int):Prop:=0≤e∧e<g.es.length
section
variable {g:Gr} {d:Dr} (h:uc g d)
include h
theorem cO {e:Int} (he:qU g e):F6 (dR d e):=by
 have h0:=he.1;have h1:=he.2
 exact h.HJ e.toNat (by omega)
theorem fW {e:Int} (he:qU g e):2≤(dR d e).length:=(h.len _ (fm h he.1 he.2)).1
theorem mF {e:Int} (he:qU g e):(dR d e).getD 0 (0,0)=de d (jU g e):=by
 have h0:=he.1;have h1:=he.2
 exact h.fst e.toNat (by omega)
theorem qV {e:Int} (he:qU g e):(dR d e).getD ((dR d e).length - 1) (0,0)=de d (kU g e):=by
 have h0:=he.1;have h1:=he.2
 exact h.FO e.toNat (by omega)
theorem HW {e:Int} (he:qU g e):(de d (jU g e)).2<(de d (kU g e)).2:=by
 have:=wv (cO h he) (i:=0) (j:=(dR d e).length - 1) (by have:=fW h he;omega) (by have:=fW h he;omega)
 rwa [mF h he,qV h he] at this
theorem HX {e:Int} (he:qU g e):lU (dR d e) (de d (jU g e)).2 (de d (jU g e)).1:=by
 have hl:=fW h he
 refine ⟨0,by omega, ?_⟩
 have:=cO h he 0 (by omega)
 rw [← mF h he]
 exact iQ this ko
theorem wz {e:Int} (he:qU g e):lU (dR d e) (de d (kU g e)).2 (de d (kU g e)).1:=by
 have hl:=fW h he
 obtain ⟨m,hm⟩:∃m,(dR d e).length=m+2:=⟨(dR d e).length - 2,by omega⟩
 refine ⟨m,by omega, ?_⟩
 have:=cO h he m (by omega)
 rw [← qV h he,hm,show m+2 - 1=m+1 by omega]
 exact iQ this (by rw [oN];exact ko)
theorem je {e y:Int} {X:Rat} (he:qU g e) (hX:lU (dR d e) y X):(de d (jU g e)).2≤y∧y≤(de d (kU g e)).2:=by
 obtain ⟨j,hj,hc⟩:=hX
 have k1:=hc.lo
 have k2:=hc.hi
 have k3:((dR d e).getD j (0,0)).2≤y:=by exact_mod_cast k1
 have k4:y≤((dR d e).getD (j+1) (0,0)).2:=by exact_mod_cast k2
 have k5:=tH (cO h he) (Nat.zero_le j) (by omega)
 have k6:=tH (cO h he) (show j+1≤(dR d e).length - 1 by omega) (by omega)
 rw [mF h he] at k5
 rw [qV h he] at k6
 omega
theorem tI {e y:Int} (he:qU g e) (h0:(de d (jU g e)).2≤y) (h1:y≤(de d (kU g e)).2):∃X,lU (dR d e) y X:=
 HV (cO h he) (fW h he) (by rw [mF h he];exact h0) (by rw [qV h he];exact h1)
theorem mG {e:Int} (he:qU g e) {j:Nat} (hj:j<(dR d e).length):bJ ((dR d e).getD j (0,0)):=h.kS _ (fm h he.1 he.2) _ (aO hj)
theorem yA {i k:Int} (hi:qU g i) (hk:qU g k) (hlt:k<i) {t X:Rat} (a:lU (dR d i) t X) (b:lU (dR d k) t X):
 ∃v:Int,(v=jU g i∨v=kU g i)∧(v=jU g k∨v=kU g k)∧t=((de d v).2:Int):=by
 obtain ⟨j,hj,ca⟩:=a
 obtain ⟨m,hm,cb⟩:=b
 have i0:=hi.1;have i1:=hi.2;have k0:=hk.1;have k1:=hk.2
 have uj:=cO h hi j hj
 have um:=cO h hk m hm
 have hb:=h.apart i.toNat k.toNat (by omega) (by omega) _ (mC (l:=dR d i) hj) _ (mC (l:=dR d k) hm)
 have hM:=F5 uj um ca cb
 have hV:fP ((dR d i).getD j (0,0)) ((dR d i).getD (j+1) (0,0)) ((dR d k).getD m (0,0)) ((dR d k).getD (m+1) (0,0))=fR ((dR d i).getD j (0,0)) ((dR d i).getD (j+1) (0,0)) ((dR d k).getD m (0,0)) ((dR d k).getD (m+1) (0,0)):=by
  rw [Az,if_pos ⟨mG h hi (by omega),mG h hi hj,mG h hk (by omega),mG h hk hm⟩]
 unfold fS at hb
 simp only [hV,Bool.or_eq_false_iff,decide_eq_false_iff_not,Bool.and_eq_false_iff,Bool.not_eq_false',List.any_eq_true,Bool.and_eq_true] at hb
 obtain ⟨aJ,aK⟩:=hb
 rcases aK with aK|⟨p,hp,o1,o2⟩
 ·omega
 ·unfold gb oS at hp
  simp only [List.take_succ_cons,List.take_zero,List.mem_map,List.mem_filter,List.mem_cons,List.not_mem_nil,or_false,DT,Bool.or_eq_true,decide_eq_true_eq] at hp
  obtain ⟨v,⟨v1,v2⟩,rfl⟩:=hp
  have Nq:gJ ((dR d i).getD j (0,0)) ((dR d i).getD (j+1) (0,0)) (de d v)=true:=by unfold oz at o1;rw [Bool.and_eq_true] at o1;exact o1.2
  have Qf:gJ ((dR d k).getD m (0,0)) ((dR d k).getD (m+1) (0,0)) (de d v)=true:=by unfold oz at o2;rw [Bool.and_eq_true] at o2;exact o2.2
  have da:=iQ uj Nq
  have db:=iQ um Qf
  refine ⟨v,v1,v2, ?_⟩
  rcases (show t<((de d v).2:Int)∨t=((de d v).2:Int)∨((de d v).2:Int)<t by grind) with hlt|he|hlt
  ·have:=yy uj um ca cb da db hlt;omega
  ·exact he
  ·have:=yy uj um da db ca cb hlt;omega
theorem qW {i k:Int} (hi:qU g i) (hk:qU g k) (hne:i≠k) {t X:Rat} (a:lU (dR d i) t X) (b:lU (dR d k) t X):
 ∃v:Int,(v=jU g i∨v=kU g i)∧(v=jU g k∨v=kU g k)∧t=((de d v).2:Int):=by
 rcases Int.lt_or_gt_of_ne hne with hlt|hlt
 ·obtain ⟨v,v1,v2,v3⟩:=yA h hk hi hlt b a
  exact ⟨v,v2,v1,v3⟩
 ·exact yA h hi hk hlt a b
theorem EN {y c:Int} {t:Rat} (h1:(y:Rat)<t) (h2:t<((y+1:Int):Rat)) (e:t=(c:Rat)):False:=by
 rw [e] at h1 h2
 have h3:y<c:=by exact_mod_cast h1
 have h4:c<y+1:=by exact_mod_cast h2
 omega
theorem uZ {i k:Int} (hi:qU g i) (hk:qU g k) (hne:i≠k) {y:Int} {X Z:Rat} (a:lU (dR d i) y X) (b:lU (dR d k) y Z) (hlt:X<Z):
 ∀n:Nat,∀X2 Z2:Rat,lU (dR d i) (y+n:Int) X2→lU (dR d k) (y+n:Int) Z2→X2≤Z2∧(X2=Z2→y+n=(de d (kU g i)).2)
 |0,X2,Z2,a2,b2=>by
  rw [show y+((0:Nat):Int)=y by omega] at a2 b2
  obtain rfl:=fV (cO h hi) a a2
  obtain rfl:=fV (cO h hk) b b2
  exact ⟨Rat.le_of_lt hlt,fun e=>by grind⟩
 |n+1,X2,Z2,a2,b2=>by
  have ra:=je h hi a
  have rb:=je h hk b
  have M9:=je h hi a2
  have Na:=je h hk b2
  have e1:y+((n+1:Nat):Int)=y+n+1:=by omega
  rw [e1] at a2 b2 M9 Na ⊢
  obtain ⟨X1,a1⟩:=tI h hi (y:=y+n) (by omega) (by omega)
  obtain ⟨Z1,b1⟩:=tI h hk (y:=y+n) (by omega) (by omega)
  have ih:=uZ hi hk hne a b hlt n X1 Z1 a1 b1
  have hs:X1<Z1:=by
   have hle:=ih.1
   rcases (show X1<Z1∨X1=Z1 by grind) with h1|h1
   ·exact h1
   ·have:=ih.2 h1;omega
  refine ⟨Rat.not_lt.1 fun hgt=> ?_,fun e=> ?_⟩
  ·obtain ⟨t,W,t1,t2,w1,w2⟩:=yz (cO h hi) (cO h hk) (fW h hi) (fW h hk) a1 b1 a2 b2 hs hgt
   obtain ⟨v,_,_,v3⟩:=qW h hi hk hne w1 w2
   exact EN h t1 t2 v3
  ·rw [← e] at b2
   obtain ⟨v,v1,_,v3⟩:=qW h hi hk hne a2 b2
   have v4:y+n+1=(de d v).2:=by exact_mod_cast v3
   rcases v1 with rfl|rfl
   ·omega
   ·exact v4
theorem u5 {i k:Int} (hi:qU g i) (hk:qU g k) (hne:i≠k) {y:Int} {X Z:Rat} (a:lU (dR d i) y X) (b:lU (dR d k) y Z) (hlt:X<Z):
 ∀n:Nat,∀X2 Z2:Rat,lU (dR d i) (y - n:Int) X2→lU (dR d k) (y - n:Int) Z2→X2≤Z2∧(X2=Z2→y - n=(de d (jU g i)).2)
 |0,X2,Z2,a2,b2=>by
  rw [show y - ((0:Nat):Int)=y by omega] at a2 b2
  obtain rfl:=fV (cO h hi) a a2
  obtain rfl:=fV (cO h hk) b b2
  exact ⟨Rat.le_of_lt hlt,fun e=>by grind⟩
 |n+1,X2,Z2,a2,b2=>by
  have ra:=je h hi a
  have rb:=je h hk b
  have M9:=je h hi a2
  have Na:=je h hk b2
  obtain ⟨w,hw⟩:∃w:Int,y - ((n+1:Nat):Int)=w:=⟨_,rfl⟩
  have e1:y - (n:Int)=w+1:=by omega
  rw [hw] at a2 b2 M9 Na ⊢
  obtain ⟨X1,a1⟩:=tI h hi (y:=y - n) (by omega) (by omega)
  obtain ⟨Z1,b1⟩:=tI h hk (y:=y - n) (by omega) (by omega)
  have ih:=u5 hi hk hne a b hlt n X1 Z1 a1 b1
  have hs:X1<Z1:=by
   have hle:=ih.1
   rcases (show X1<Z1∨X1=Z1 by grind) with h1|h1
   ·exact h1
   ·have:=ih.2 h1;omega
  rw [e1] at a1 b1
  refine ⟨Rat.not_lt.1 fun hgt=> ?_,fun e=> ?_⟩
  ·obtain ⟨t,W,t1,t2,w1,w2⟩:=yz (cO h hk) (cO h hi) (fW h hk) (fW h hi) b2 a2 b1 a1 hgt hs
   obtain ⟨v,_,_,v3⟩:=qW h hi hk hne w2 w1
   exact EN h t1 t2 v3
  ·rw [← e] at b2
   obtain ⟨v,v1,_,v3⟩:=qW h hi hk hne a2 b2
   have v4:w=(de d v).2:=by exact_mod_cast v3
   rcases v1 with rfl|rfl
   ·exact v4
   ·omega
theorem o9 {i k:Int} (hi:qU g i) (hk:qU g k) {y z:Int} {X Z X2 Z2:Rat} (a:lU (dR d i) y X) (b:lU (dR d k) y Z) (hlt:X<Z) (a2:lU (dR d i) z X2) (b2:lU (dR d k) z Z2):X2≤Z2:=by
 have hne:i≠k:=fun e=>by
  subst e
  have:=fV (cO h hi) a b
  grind
 rcases Int.le_total y z with hyz|hyz
 ·obtain ⟨n,hn⟩:∃n:Nat,z=y+n:=⟨(z - y).toNat,by omega⟩
  subst hn
  exact (uZ h hi hk hne a b hlt n X2 Z2 a2 b2).1
 ·obtain ⟨n,hn⟩:∃n:Nat,z=y - n:=⟨(y - z).toNat,by omega⟩
  subst hn
  exact (u5 h hi hk hne a b hlt n X2 Z2 a2 b2).1
theorem wN {e v:Int} (he:qU g e) (hv:yg g v) (n1:v≠jU g e) (n2:v≠kU g e):¬lU (dR d e) (de d v).2 (de d v).1:=by
 rintro ⟨j,hj,hc⟩
 have h0:=he.1;have h1:=he.2;have v0:=hv.1;have v1:=hv.2
 have hnp:=h.np
 have hf:=h.free e.toNat v.toNat (by omega) (by omega) (by rw [Int.toNat_of_nonneg v0];exact n1) (by rw [Int.toNat_of_nonneg v0];exact n2)
 unfold Ht at hf
 rw [List.any_eq_false] at hf
 refine hf _ (mC (l:=dR d e) hj) ?_
 have tL:=EJ (cO h he j hj) hc
 have hP:bJ (de d v):=h.KJ _ (aO (by omega))
 show oz ((dR d e).getD j (0,0)) ((dR d e).getD (j+1) (0,0)) (de d v)=true
 unfold oz
 rw [tL,decide_eq_true ⟨mG h he (by omega),mG h he hj,hP⟩]
 rfl
end
def LQ (d:Dr) (i k:Int):Prop:=∃(y:Int) (X Z:Rat),lU (dR d i) y X∧lU (dR d k) y Z∧X<Z
section
variable {g:Gr} {d:Dr} {p:Pl} (h:uc g d) (hp:qw g d p)
include hp
theorem qw.ok:b7 g p:=⟨hp.len,hp.perm,hp.outs⟩
theorem qw.lt {j k:Nat} (hj:j<k) (hk:k<g.n.toNat):zR d (bL p j) (bL p k):=by
 have hl:=dA hp.ok
 have:=List.pairwise_iff_getElem.1 hp.sort j k (by omega) (by omega) hj
 rw [bL,bL,List.getD_eq_getElem?_getD,List.getD_eq_getElem?_getD,List.getElem?_eq_getElem (by omega),List.getElem?_eq_getElem (by omega)]
 exact this
include h
theorem yC {v:Int} (hv:yg g v) {k:Nat} (hn:v∉p.ord.take k):∃l,k≤l∧l<g.n.toNat∧bL p l=v:=by
 obtain ⟨l,hl,e⟩:=AM hp.ok hv.1 hv.2
 refine ⟨l,Nat.le_of_not_lt fun hlt=>hn ?_,hl,e⟩
 rw [← e];exact Ci hlt (by rw [dA hp.ok];exact hl)
theorem iR {k:Nat} (hk:k<g.n.toNat) {a:Int} (ha:qa g p k a):qU g a∧(∃X,lU (dR d a) (de d (bL p k)).2 X)∧bL p k≠jU g a:=by
 have hm:=cm h.qx
 have he:qU g a:=⟨ha.e0,ha.e1⟩
 have ht:yg g (jU g a):=cD hm (i:=a.toNat) (by have:=ha.e0;have:=ha.e1;omega)
 have hh:yg g (kU g a):=fM hm (i:=a.toNat) (by have:=ha.e0;have:=ha.e1;omega)
 obtain ⟨j,j1,_,j3⟩:=uV ha.low
 obtain ⟨l,l1,l2,l3⟩:=yC h hp hh ha.top
 have c1:=hp.lt j1 hk
 rw [j3] at c1
 have c2:(de d (bL p k)).2≤(de d (kU g a)).2:=by
  rcases Nat.lt_or_ge k l with h1|h1
  ·have:=hp.lt h1 l2
   rw [l3] at this
   unfold zR at this
   omega
  ·rw [← l3,show l=k by omega];omega
 refine ⟨he,tI h he (by unfold zR at c1;omega) c2,fun e=>uW hp.ok hk (e ▸ ha.low)⟩
theorem pe {k:Nat} (hk:k<g.n.toNat) {c:Int} (hc:c∈kC p (bL p k)):qU g c∧lU (dR d c) (de d (bL p k)).2 (de d (bL p k)).1:=by
 obtain ⟨x0,x1⟩:=eZ hp.ok hk
 obtain ⟨⟨i0,i1⟩,i2⟩:=c9.1 ((er hp.ok x0 x1).mem_iff.1 hc)
 refine ⟨⟨i0,i1⟩, ?_⟩
 have:=HX h (e:=c) ⟨i0,i1⟩
 rwa [show jU g c=bL p k from i2] at this
theorem EO:Ez g p fun _=>LQ d:=by
 have hm:=cm h.qx
 refine ⟨fun e e0 e1 k hk ek=> ?_,fun k hk a b c ha hb hc ea ec r1 r2=> ?_,fun k hk a c ha hc na nc r=>r,fun k hk a b c ha hb na eb hc r=> ?_,fun k hk a b c ha hb na eb hc r=> ?_,fun k hk=> ?_⟩
 ·have u1:=HW h (e:=e) ⟨e0,e1⟩
  refine Decidable.byContradiction fun hn=> ?_
  obtain ⟨l,l1,l2,l3⟩:=yC h hp (cD hm (i:=e.toNat) (by omega)) hn
  have l3:bL p l=jU g e:=l3
  rcases Nat.lt_or_ge k l with h1|h1
  ·have:=hp.lt h1 l2
   rw [l3,ek] at this
   unfold zR at this;omega
  ·rw [← l3, ← ek,show l=k by omega] at u1
   omega
 ·obtain ⟨ia,_,_⟩:=iR h hp hk ha
  obtain ⟨ib,⟨X,hX⟩,nb⟩:=iR h hp hk hb
  obtain ⟨ic,_,_⟩:=iR h hp hk hc
  refine Decidable.byContradiction fun hn=>wN h ib (eZ hp.ok hk) nb (Ne.symm hn) ?_
  obtain ⟨y1,X1,Z1,a1,b1,l1⟩:=r1
  obtain ⟨y2,X2,Z2,a2,b2,l2⟩:=r2
  have ta:=wz h ia
  have tc:=wz h ic
  rw [ea] at ta
  rw [ec] at tc
  have q1:=o9 h ia ib a1 b1 l1 ta hX
  have q2:=o9 h ib ic a2 b2 l2 hX tc
  have:X=((de d (bL p k)).1:Int):=by grind
  rwa [this] at hX
 ·obtain ⟨ia,⟨X,hX⟩,nb⟩:=iR h hp hk ha
  obtain ⟨ib,_,_⟩:=iR h hp hk hb
  obtain ⟨y1,X1,Z1,a1,b1,l1⟩:=r
  have tb:=wz h ib
  rw [eb] at tb
  have q1:=o9 h ia ib a1 b1 l1 hX tb
  have q2:X≠((de d (bL p k)).1:Int):=fun e=>wN h ia (eZ hp.ok hk) nb (Ne.symm na) (e ▸ hX)
  exact ⟨_,_,_,hX,(pe h hp hk hc).2,by grind⟩
 ·obtain ⟨ia,⟨X,hX⟩,nb⟩:=iR h hp hk ha
  obtain ⟨ib,_,_⟩:=iR h hp hk hb
  obtain ⟨y1,X1,Z1,b1,a1,l1⟩:=r
  have tb:=wz h ib
  rw [eb] at tb
  have q1:=o9 h ib ia b1 a1 l1 tb hX
  have q2:X≠((de d (bL p k)).1:Int):=fun e=>wN h ia (eZ hp.ok hk) nb (Ne.symm na) (e ▸ hX)
  exact ⟨_,_,_,(pe h hp hk hc).2,hX,by grind⟩
 ·obtain ⟨x0,x1⟩:=eZ hp.ok hk
  have hs:=hp.EE (bL p k).toNat (by omega)
  rw [show (((bL p k).toNat:Nat):Int)=bL p k by omega] at hs
  refine List.Pairwise.imp_of_mem (R:=jS d (bL p k)) (fun {i c} hi hc r=> ?_) hs
  have hit:jU g i=bL p k:=(c9.1 ((er hp.ok x0 x1).mem_iff.1 hi)).2
  have qt:jU g c=bL p k:=(c9.1 ((er hp.ok x0 x1).mem_iff.1 hc)).2
  have ii:=(pe h hp hk hi).1
  have ic:=(pe h hp hk hc).1
  have u1:=nI h ii.1 ii.2 hit
  have u2:=nI h ic.1 ic.2 qt
  have f1:=mF h ii
  have f2:=mF h ic
  rw [hit] at f1
  rw [qt] at f2
  have n1:=fW h ii
  have n2:=fW h ic
  unfold jS qu tm at r
  have hA:(dR d i).getD 1 (0,0)=gA d i:=rfl
  have hB:(dR d c).getD 1 (0,0)=gA d c:=rfl
  generalize de d (bL p k)=P at*
  generalize gA d i=A at*
  generalize gA d c=B at*
  obtain ⟨y,hy⟩:∃y,y=min A.2 B.2:=⟨_,rfl⟩
  obtain ⟨X,hX⟩:=tG (p:=P) (q:=A) (y:=(y:Rat)) u1 (by exact_mod_cast (show P.2≤y by omega)) (by exact_mod_cast (show y≤A.2 by omega))
  obtain ⟨Z,hZ⟩:=tG (p:=P) (q:=B) (y:=(y:Rat)) u2 (by exact_mod_cast (show P.2≤y by omega)) (by exact_mod_cast (show y≤B.2 by omega))
  refine ⟨y,X,Z,⟨0,by omega, ?_⟩,⟨0,by omega, ?_⟩, ?_⟩
  ·rw [f1];rw [← hA] at hX;exact hX
  ·rw [f2];rw [← hB] at hZ;exact hZ
  ·have p1:(0:Rat)<(A.2:Rat) - P.2:=by
    have:(P.2:Rat)<A.2:=by exact_mod_cast u1
    grind
   have p2:(0:Rat)<(B.2:Rat) - P.2:=by
    have:(P.2:Rat)<B.2:=by exact_mod_cast u2
    grind
   have p3:(0:Rat)<(y:Rat) - P.2:=by
    have:(P.2:Rat)<y:=by exact_mod_cast (show P.2<y by omega)
    grind
   have p4:(0:Rat)<((B.1:Rat) - P.1)*(A.2 - P.2) - (B.2 - P.2)*(A.1 - P.1):=by exact_mod_cast r
   have e1:=hX.eq
   have e2:=hZ.eq
   have e:(Z - X)*(((A.2:Rat) - P.2)*(B.2 - P.2))=((y:Rat) - P.2)*(((B.1:Rat) - P.1)*(A.2 - P.2) - (B.2 - P.2)*(A.1 - P.1)):=by grind
   have q1:=Rat.mul_pos p3 p4
   have q2:=Rat.mul_pos p1 p2
   refine Rat.not_le.1 fun hn=> ?_
   have:=fU (show Z - X≤0 by grind) (Rat.le_of_lt q2)
   grind
theorem EP:gQ g p:=Ck h.qx hp.ok (EO h hp)
end
end Go.Ab
end
section
namespace Go.Ab
open Go.Proofs
attribute [local congr] ACall.congr gd.congr Nx.congr
set_option maxRecDepth 20000
set_option maxHeartbeats 16000000
theorem tJ (g:Gr) (d:Dr) (hls:d.ls.length≤9223372036854775807):Spec Tryz.prog 4 (Args [eG g,eDr d]) [] (eB true) []:=by
 cases hg:lM g d with
 |true=>
  (refine Spec.hd (C:=T.cfg [] []) (rs:= [.t 4]) (T.ai _ _) Tryz.func4 rfl rfl Tryz.ntmps4 Tryz.results4 (by simp [AObj.isNest]) (by simp [AObj.isNest]) (by kernel_rfl) T.mixed fun X hX hP hC aF bY=> ?_)
  repeat' (first|refine Rn.p ?_|(with_reducible apply And.intro)|((first|(refine hK _ ?_;clear hK K)|with_reducible intro K hK|refine Rs.p ?_|((with_reducible first|apply oP|apply oQ);exact rfl)|refine aa hX hC hP (jh) rfl rfl rfl (by simp only [go_sem,simprocAttr,hg]) rfl ?_|refine aa hX hC hP (qq g d hls) rfl rfl rfl (by simp only [go_sem,simprocAttr,hg]) rfl ?_);try simp only [go_sem,simprocAttr,hg])|((with_reducible refine oD ?_ ?_);kernel_rfl)|((with_reducible intro h);try simp only [go_sem,simprocAttr,hg] at h)|omega|intro h)
 |false=>
 have eX:=hg
 simp only [lM,Bool.or_eq_false_iff,decide_eq_false_iff_not] at eX
 obtain ⟨⟨⟨h1,h2⟩,h3⟩,h4⟩:=eX
 have hl:g.es.length≤1000:=by omega
 have hp:d.pts.length≤1000:=by omega
 have DX:d.ls.length≤1000:=by omega
 have pM:∀l∈d.ls,l.length≤1000:=fun l hl=>by
  have:=(List.any_eq_false.1 h4) l hl
  simp only [decide_eq_true_eq] at this
  omega
 have Nb:=qq g d hls
 have Nc:=qA g d hl hp DX pM
 rw [hg] at Nb
 by_cases h0:(gL g d).1=0
 ·obtain ⟨hc0,h⟩:=J7 h0
  obtain ⟨p,EU⟩:=EI h
  have FV:=wq g d p hl hp DX pM h0 EU
  rw [hc0] at Nc
  have hrun:=EP h EU
  obtain ⟨bb,hr⟩:=PE g p
  have KU:=Cl g (by omega) p (Co h EU).2 bb hr
  rw [zP hr hrun] at KU
  simp only at KU
  simp only [decide_true] at KU
  (refine Spec.hd (C:=T.cfg [] []) (rs:= [.t 4]) (T.ai _ _) Tryz.func4 rfl rfl Tryz.ntmps4 Tryz.results4 (by simp [AObj.isNest]) (by simp [AObj.isNest]) (by kernel_rfl) T.mixed fun X hX hP hC aF bY=> ?_)
  repeat' (first|refine Rn.p ?_|(with_reducible apply And.intro)|((first|(refine hK _ ?_;clear hK K)|with_reducible intro K hK|refine Rs.p ?_|((with_reducible first|apply oP|apply oQ);exact rfl)|refine aa hX hC hP (jh) rfl rfl rfl (by simp only [go_sem,simprocAttr]) rfl ?_|refine aa hX hC hP (Nb) rfl rfl rfl (by simp only [go_sem,simprocAttr]) rfl ?_|refine aa hX hC hP (FV) rfl rfl rfl (by simp only [go_sem,simprocAttr]) rfl ?_|refine aa hX hC hP (Nc) rfl rfl rfl (by simp only [go_sem,simprocAttr]) rfl ?_|refine aa hX hC hP (KU) rfl rfl rfl (by simp only [go_sem,simprocAttr]) rfl ?_);try simp only [go_sem,simprocAttr])|((with_reducible refine oD ?_ ?_);kernel_rfl)|((with_reducible intro h);try simp only [go_sem,simprocAttr] at h)|omega|intro h)
 ·have hb:decide ((gL g d).1=0)=false:=decide_eq_false h0
  (refine Spec.hd (C:=T.cfg [] []) (rs:= [.t 4]) (T.ai _ _) Tryz.func4 rfl rfl Tryz.ntmps4 Tryz.results4 (by simp [AObj.isNest]) (by simp [AObj.isNest]) (by kernel_rfl) T.mixed fun X hX hP hC aF bY=> ?_)
  repeat' (first|refine Rn.p ?_|(with_reducible apply And.intro)|((first|(refine hK _ ?_;clear hK K)|with_reducible intro K hK|refine Rs.p ?_|((with_reducible first|apply oP|apply oQ);exact rfl)|refine aa hX hC hP (jh) rfl rfl rfl (by simp only [go_sem,simprocAttr,hb]) rfl ?_|refine aa hX hC hP (Nb) rfl rfl rfl (by simp only [go_sem,simprocAttr,hb]) rfl ?_|refine aa hX hC hP (Nc) rfl rfl rfl (by simp only [go_sem,simprocAttr,hb]) rfl ?_);try simp only [go_sem,simprocAttr,hb])|((with_reducible refine oD ?_ ?_);kernel_rfl)|((with_reducible intro h);try simp only [go_sem,simprocAttr,hb] at h)|omega|intro h)
end Go.Ab
end
