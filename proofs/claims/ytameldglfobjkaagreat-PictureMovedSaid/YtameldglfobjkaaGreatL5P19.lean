/- A part of the proof. -/
import Derived.Shelf.SlicesG.Cmp
import Derived.Deep.QuietTactic
import Derived.Deep.RegionHeld3
import Derived.WalkKit
import Derived.LoopNIn
import Derived.LoopIn
import Derived.Sort.WalkA
import Derived.Sort.Grow
import Derived.Shelf.SlSortCmp.NoneTotal
import Derived.RangeFuncBox
import Derived.RangeFuncLeaves
import Derived.Shelf.Abstract
import Derived.OwnWalkIn
import Derived.TacticsInMore
import Derived.Test.YtameldglfobjkaaGreatL5P18
set_option linter.unusedSimpArgs false
set_option linter.unusedVariables false
section
namespace Go.Ab
open Go.Proofs Go.RowKit Go.Shelf Go.Lib Go.Sort
set_option maxRecDepth 10000
set_option maxHeartbeats 4000000
theorem Cg (x y:Int) (W:World):Calls Tryz.prog 79 #[.int .i64 x, .int .i64 y] W fun e w'=>e= .returned (.int .i64 (compareInt x y))∧w'=W:=
 AnyG.cmp_Compare_int Tryz.JW x y W
theorem EP (W:World) (b:Nat) (c0 c1:Int) (h0:W.cell? ⟨b,0,none⟩=some (.int .i64 c0)) (h1:W.cell? ⟨b,1,none⟩=some (.int .i64 c1)):
 Calls Tryz.prog 78 #[.slice (some ⟨b,0,none⟩) 2 2] W fun e w'=>e= .returned (.int .i64 (if c0=0 then c1 else c0))∧w'=W:=by
 by_cases hc:c0=0
 ·subst hc
  rw [if_pos rfl]
  by_cases hd:c1=0
  ·subst hd
   go_enter Tryz.func78,Tryz.ntmps78
   go_wp2
   go_loopw [8] (fun i wr=>∃k:Nat,k≤2∧i= .int .i64 k∧wr=W) (fun i _=>2 - (Go.Proofs.intOf i).toNat)
   case atStart=>exact ⟨0,by omega,rfl,rfl⟩
   case round=>
    obtain ⟨k,hk,rfl,rfl⟩:=hrel
    match k,hk with
    |0,_=>
     go_wp2
     exact ⟨⟨1,by omega,rfl,trivial⟩,by decide⟩
    |1,_=>
     go_wp2
     exact ⟨⟨2,by omega,rfl,trivial⟩,by decide⟩
    |2,_=>
     go_wp2
     go_ret
     exact ⟨rfl,rfl⟩
  ·go_enter Tryz.func78,Tryz.ntmps78
   go_wp2
   go_loopw [8] (fun i wr=>∃k:Nat,k≤1∧i= .int .i64 k∧wr=W) (fun i _=>2 - (Go.Proofs.intOf i).toNat)
   case atStart=>exact ⟨0,by omega,rfl,rfl⟩
   case round=>
    obtain ⟨k,hk,rfl,rfl⟩:=hrel
    match k,hk with
    |0,_=>
     go_wp2
     exact ⟨⟨1,by omega,rfl,trivial⟩,by decide⟩
    |1,_=>
     go_wp2
     go_ret
     exact ⟨rfl,rfl⟩
 ·rw [if_neg hc]
  go_enter Tryz.func78,Tryz.ntmps78
  go_wp2
  go_loopw [8] (fun i wr=>i= .int .i64 0∧wr=W) (fun i _=>0)
  case atStart=>exact ⟨rfl,rfl⟩
  case round=>
   obtain ⟨rfl,rfl⟩:=hrel
   go_wp2
   go_ret
   exact ⟨rfl,rfl⟩
end Go.Ab
end
section
namespace Go.Ab
open Go.Proofs Go.RowKit Go.Shelf Go.Lib Go.Sort
set_option maxRecDepth 10000
set_option maxHeartbeats 4000000
def AH (p:Pt):Value:= .agg #[.int .i64 p.1, .int .i64 p.2]
theorem pH (p:Pt) (hp:bn p) (W:World):Calls Tryz.prog 166 #[AH p] W fun e w'=>e= .returned (.bool false)∧∃os',w'=grow W os':=by
 unfold AH
 have h1:max p.1 p.2≤262144:=by unfold bn at hp;omega
 have h2: -262144≤min p.1 p.2:=by unfold bn at hp;omega
 clear hp
 go_enter Tryz.func166,Tryz.ntmps166
 go_wp2
 go_ret
 refine ⟨?_,_,alloc_eq_grow _ _⟩
 show Ending.returned (.bool (decide (262144<max p.1 p.2)||decide (min p.1 p.2< -262144)))=_
 rw [decide_eq_false (by omega),decide_eq_false (by omega)];rfl
theorem ER (a b c:Pt) (ha:bn a) (hb:bn b) (hc:bn c) (W:World) (blk:Nat) (h0:∀os,(grow W os).cell? ⟨blk,0,none⟩=some (.int .i64 a.1)) (h1:∀os,(grow W os).cell? ⟨blk,1,none⟩=some (.int .i64 a.2)) (h2:∀os,(grow W os).cell? ⟨blk,2,none⟩=some (.int .i64 b.1)) (h3:∀os,(grow W os).cell? ⟨blk,3,none⟩=some (.int .i64 b.2)) (h4:∀os,(grow W os).cell? ⟨blk,4,none⟩=some (.int .i64 c.1)) (h5:∀os,(grow W os).cell? ⟨blk,5,none⟩=some (.int .i64 c.2)):
 Calls Tryz.prog 172 #[.slice (some ⟨blk,0,none⟩) 3 3, .func (.func 166) #[] #[]] W fun e w'=>e= .returned (.int .i64 (-1))∧∃os',w'=grow W os':=by
 have ca:=pH a ha
 have cb:=pH b hb
 have cc:=pH c hc
 unfold AH at ca cb cc
 go_enter Tryz.func172,Tryz.ntmps172
 go_wp2
 go_loopw [8] (fun i wr=>∃k:Nat,k≤3∧i= .int .i64 k∧∃os,wr=grow W os) (fun i _=>3 - (Go.Proofs.intOf i).toNat)
 case atStart=>exact ⟨0,by omega,rfl, #[],(grow_empty W).symm⟩
 case round=>
  obtain ⟨k,hk,rfl,os,rfl⟩:=hrel
  have g0:=h0 os
  have g1:=h1 os
  have g2:=h2 os
  have g3:=h3 os
  have g4:=h4 os
  have g5:=h5 os
  clear h0 h1 h2 h3 h4 h5
  have q1:max a.1 a.2≤262144∧ -262144≤min a.1 a.2:=by unfold bn at ha;omega
  have q2:max b.1 b.2≤262144∧ -262144≤min b.1 b.2:=by unfold bn at hb;omega
  have q3:max c.1 c.2≤262144∧ -262144≤min c.1 c.2:=by unfold bn at hc;omega
  clear ha hb hc ca cb cc
  match k,hk with
  |0,_=>
   go_wp2
   all_goals first
    |(exfalso;omega)
    |exact ⟨⟨1,by omega,rfl,_,by rw [alloc_eq_grow,grow_grow]⟩,by decide⟩
  |1,_=>
   go_wp2
   all_goals first
    |(exfalso;omega)
    |exact ⟨⟨2,by omega,rfl,_,by rw [alloc_eq_grow,grow_grow]⟩,by decide⟩
  |2,_=>
   go_wp2
   all_goals first
    |(exfalso;omega)
    |exact ⟨⟨3,by omega,rfl,_,by rw [alloc_eq_grow,grow_grow]⟩,by decide⟩
  |3,_=>
   go_wp2
   go_ret
   exact ⟨rfl,os,rfl⟩
theorem cE (W:World) (os:Array Obj) (a:Addr) (h:a.block<W.heap.size):(grow W os).cell? a=W.cell? a:=by
 simp only [grow,World.cell?,Array.getElem?_append_left h]
theorem fh (w:World) (cs:Array Value) (e k i:Nat) (hk:k=w.heap.size):(w.alloc (.cells cs e)).cell? ⟨k,i,none⟩=cs[i]? :=by
 subst hk
 rw [alloc_eq_grow]
 simp only [grow,World.cell?]
 rw [Array.getElem?_append_right (Nat.le_refl _),Nat.sub_self]
 rfl
theorem ES (a b c:Pt) (ha:bn a) (hb:bn b) (hc:bn c) (W:World) (blk:Nat) (hl:blk<W.heap.size) (h0:W.cell? ⟨blk,0,none⟩=some (.int .i64 a.1)) (h1:W.cell? ⟨blk,1,none⟩=some (.int .i64 a.2)) (h2:W.cell? ⟨blk,2,none⟩=some (.int .i64 b.1)) (h3:W.cell? ⟨blk,3,none⟩=some (.int .i64 b.2)) (h4:W.cell? ⟨blk,4,none⟩=some (.int .i64 c.1)) (h5:W.cell? ⟨blk,5,none⟩=some (.int .i64 c.2)):
 Calls Tryz.prog 115 #[.slice (some ⟨blk,0,none⟩) 3 3] W fun e w'=>e= .returned (.bool true)∧∃os',w'=grow W os':=by
 have hI:=ER a b c ha hb hc W blk (fun os=>(cE W os _ hl).trans h0) (fun os=>(cE W os _ hl).trans h1) (fun os=>(cE W os _ hl).trans h2) (fun os=>(cE W os _ hl).trans h3) (fun os=>(cE W os _ hl).trans h4) (fun os=>(cE W os _ hl).trans h5)
 have hC:Calls Tryz.prog 127 #[.slice (some ⟨blk,0,none⟩) 3 3, .func (.func 166) #[] #[]] W fun e w'=>e= .returned (.bool false)∧∃os',w'=grow W os':=by
  go_enter Tryz.func127,Tryz.ntmps127
  go_wp2_with (go_at_call 172;refine hI.mono ?_;rintro e w' ⟨rfl,os',rfl⟩)
  go_ret
  exact ⟨rfl,os',rfl⟩
 clear hI h0 h1 h2 h3 h4 h5
 go_enter Tryz.func115,Tryz.ntmps115
 go_wp2_with (go_at_call 127;refine hC.mono ?_;rintro e w' ⟨rfl,os',rfl⟩)
 go_ret
 exact ⟨rfl,os',rfl⟩
theorem AI (a b c:Pt) (ha:bn a) (hb:bn b) (hc:bn c) (W:World):Calls Tryz.prog 131 #[AH a,AH b,AH c] W fun e w'=>e= .returned (.int .i64 (sd a b c))∧∃os',w'=grow W os':=by
 have hT:∀W,Calls Tryz.prog 183 #[AH a,AH b,AH a,AH c] W fun e w'=>e= .returned (.int .i64 (tm a b a c))∧∃os',w'=grow W os':=fun W=>by
  unfold AH tm
  obtain ⟨a1,a2⟩:=a
  obtain ⟨b1,b2⟩:=b
  obtain ⟨c1,c2⟩:=c
  simp only [bn] at ha hb hc
  simp only
  have m1:=mw (x:=b1 - a1) (y:=c2 - a2) (m:=524288) (n:=524288) (by omega) (by omega)
  have m2:=mw (x:=b2 - a2) (y:=c1 - a1) (m:=524288) (n:=524288) (by omega) (by omega)
  go_enter Tryz.func183,Tryz.ntmps183
  go_wp2
  go_ret
  refine ⟨rfl, ?_⟩
  simp only [alloc_eq_grow,grow_grow]
  exact ⟨_,rfl⟩
 have hK:∀(x y:Int) (W:World),Calls Tryz.prog 79 #[.int .i64 x, .int .i64 y] W fun e w'=>e= .returned (.int .i64 (compareInt x y))∧w'=W:=fun x y W=>AnyG.cmp_Compare_int Tryz.JW x y W
 have hs:sd a b c=compareInt (tm a b a c) 0:=by
  unfold sd gB compareInt
  repeat' split
  all_goals (first|rfl|omega)
 rw [hs]
 have hK:=hK (tm a b a c) 0
 generalize tm a b a c=t at*
 generalize compareInt t 0=r at*
 unfold AH at*
 go_enter Tryz.func131,Tryz.ntmps131
 go_wp2_with (first|(go_at_call 183;refine (hT _).mono ?_;rintro e w' ⟨rfl,os',rfl⟩)|(go_at_call 79;refine (hK _).mono ?_;rintro e w' ⟨rfl,rfl⟩))
 go_ret
 refine ⟨rfl, ?_⟩
 simp only [alloc_eq_grow,grow_grow]
 exact ⟨_,rfl⟩
theorem nT (w:World) (o:Obj) (a:Addr) (h:a.block<w.heap.size):(w.alloc o).cell? a=w.cell? a:=by
 rw [alloc_eq_grow];exact cE _ _ _ h
def OQ (p:Pt):Obj:= .cells #[.int .i64 p.1, .int .i64 p.2] 54
theorem Ch (a b c:Pt) (ha:bn a) (hb:bn b) (hc:bn c) (W:World):Calls Tryz.prog 76 #[AH a,AH b,AH c] W fun e w'=>e= .returned (.int .i64 (sd a b c))∧∃os',w'=grow W os':=by
 obtain ⟨W3,Ln⟩:∃W3,((W.alloc (OQ a)).alloc (OQ b)).alloc (OQ c)=W3:=⟨_,rfl⟩
 obtain ⟨W4,ET⟩:∃W4,W3.alloc (.cells #[.int .i64 a.1, .int .i64 a.2, .int .i64 b.1, .int .i64 b.2, .int .i64 c.1, .int .i64 c.2] 54)=W4:=⟨_,rfl⟩
 have z3:W3.heap.size=W.heap.size+1+1+1:=by rw [← Ln];simp only [World.size_alloc]
 have z4:W4.heap.size=W.heap.size+1+1+1+1:=by rw [← ET,World.size_alloc,z3]
 have h1:=ES a b c ha hb hc W4 (W.heap.size+1+1+1) (by omega) (by rw [← ET,fh _ _ _ _ _ z3.symm];rfl) (by rw [← ET,fh _ _ _ _ _ z3.symm];rfl) (by rw [← ET,fh _ _ _ _ _ z3.symm];rfl) (by rw [← ET,fh _ _ _ _ _ z3.symm];rfl) (by rw [← ET,fh _ _ _ _ _ z3.symm];rfl) (by rw [← ET,fh _ _ _ _ _ z3.symm];rfl)
 have c0:∀i,W4.cell? ⟨W.heap.size,i,none⟩= #[Value.int .i64 a.1, .int .i64 a.2][i]? :=fun i=>by
  rw [← ET,nT _ _ _ (by show W.heap.size<_;omega), ← Ln,nT _ _ _ (by simp only [World.size_alloc];omega),nT _ _ _ (by simp only [World.size_alloc];omega)]
  exact fh _ _ _ _ _ rfl
 have c1:∀i,W4.cell? ⟨W.heap.size+1,i,none⟩= #[Value.int .i64 b.1, .int .i64 b.2][i]? :=fun i=>by
  rw [← ET,nT _ _ _ (by show W.heap.size+1<_;omega), ← Ln,nT _ _ _ (by simp only [World.size_alloc];omega)]
  exact fh _ _ _ _ _ (by simp only [World.size_alloc])
 have c2:∀i,W4.cell? ⟨W.heap.size+1+1,i,none⟩= #[Value.int .i64 c.1, .int .i64 c.2][i]? :=fun i=>by
  rw [← ET,nT _ _ _ (by show W.heap.size+1+1<_;omega), ← Ln]
  exact fh _ _ _ _ _ (by simp only [World.size_alloc])
 have hW:∃os,W4=grow W os:=by
  rw [← ET, ← Ln]
  simp only [alloc_eq_grow,grow_grow]
  exact ⟨_,rfl⟩
 have zi:Calls Tryz.prog 115 #[.slice (some ⟨W.heap.size+1+1+1,0,none⟩) 3 3] W4 fun e w'=>e= .returned (.bool true)∧(∃os',grow W os'=w')∧w'.cell? ⟨W.heap.size,0,none⟩=some (.int .i64 a.1)∧w'.cell? ⟨W.heap.size,1,none⟩=some (.int .i64 a.2)∧w'.cell? ⟨W.heap.size+1,0,none⟩=some (.int .i64 b.1)∧w'.cell? ⟨W.heap.size+1,1,none⟩=some (.int .i64 b.2)∧w'.cell? ⟨W.heap.size+1+1,0,none⟩=some (.int .i64 c.1)∧w'.cell? ⟨W.heap.size+1+1,1,none⟩=some (.int .i64 c.2):=by
  refine h1.mono ?_
  rintro e w' ⟨he,os',rfl⟩
  obtain ⟨os,ho⟩:=hW
  refine ⟨he,⟨os++os',by rw [ho,grow_grow]⟩, ?_, ?_, ?_, ?_, ?_, ?_⟩
  ·rw [cE _ _ _ (by show W.heap.size<_;omega),c0];rfl
  ·rw [cE _ _ _ (by show W.heap.size<_;omega),c0];rfl
  ·rw [cE _ _ _ (by show W.heap.size+1<_;omega),c1];rfl
  ·rw [cE _ _ _ (by show W.heap.size+1<_;omega),c1];rfl
  ·rw [cE _ _ _ (by show W.heap.size+1+1<_;omega),c2];rfl
  ·rw [cE _ _ _ (by show W.heap.size+1+1<_;omega),c2];rfl
 rw [← ET, ← Ln] at zi
 clear h1 c0 c1 c2 hW z3 z4 ET Ln W4 W3
 have h2:=fun W=>AI a b c ha hb hc W
 generalize sd a b c=r at*
 clear ha hb hc
 unfold OQ at*
 unfold AH at*
 go_enter Tryz.func76,Tryz.ntmps76
 go_wp2_with (first|(go_at_call 115;refine zi.mono ?_;rintro e w' ⟨rfl,⟨os',hw⟩,q0,q1,q2,q3,q4,q5⟩)|(go_at_call 131;refine (h2 _).mono ?_;rintro e w2 ⟨rfl,VR,Ur⟩))
 go_ret
 refine ⟨rfl, ?_⟩
 rw [← hw,grow_grow]
 exact ⟨_,rfl⟩
theorem xG {W:World} {os:Array Obj} {a:Addr} {v:Value} (h:W.cell? a=some v):(grow W.drew os).cell? a=some v:=by
 by_cases hl:a.block<W.heap.size
 ·exact (cE W.drew os a hl).trans h
 ·unfold World.cell? at h
  rw [Array.getElem?_eq_none (Nat.le_of_not_lt hl)] at h
  cases h
theorem HB (r:Int) (h: -1≤r∧r≤1):IntKind.i64.wrap (-r)= -r:=by
 have:r= -1∨r=0∨r=1:=by omega
 rcases this with rfl|rfl|rfl<;>decide
theorem HC (a b c:Pt): -1≤sd a b c∧sd a b c≤1:=by
 unfold sd gB
 split
 ·decide
 ·split<;>decide
theorem Lo (W:World) (B Xb bp op lp cp bl ol ll cl x i k bi oi li ci bk ok lk ck:Nat) (P Li Lk:Pt) (hP:bn P) (Su:bn Li) (Sv:bn Lk)
 (NH:W.cell? ⟨B,0,none⟩=some (.slice (some ⟨bp,op,none⟩) lp cp)) (VS:W.cell? ⟨B,1,none⟩=some (.slice (some ⟨bl,ol,none⟩) ll cl)) (hX:W.cell? ⟨Xb,0,none⟩=some (.int .i64 x))
 (hx:x<lp) (hi:i<ll) (hk:k<ll) (hi1:1<li) (Bf:1<lk)
 (p0:W.cell? ⟨bp,op+x*2,none⟩=some (.int .i64 P.1)) (p1:W.cell? ⟨bp,op+x*2+1,none⟩=some (.int .i64 P.2))
 (si:W.cell? ⟨bl,ol+i,none⟩=some (.slice (some ⟨bi,oi,none⟩) li ci)) (sk:W.cell? ⟨bl,ol+k,none⟩=some (.slice (some ⟨bk,ok,none⟩) lk ck))
 (i0:W.cell? ⟨bi,oi+2,none⟩=some (.int .i64 Li.1)) (i1:W.cell? ⟨bi,oi+2+1,none⟩=some (.int .i64 Li.2)) (k0:W.cell? ⟨bk,ok+2,none⟩=some (.int .i64 Lk.1)) (k1:W.cell? ⟨bk,ok+2+1,none⟩=some (.int .i64 Lk.2)):
 Calls Tryz.prog 75 #[.int .i64 i, .int .i64 k, .pointer (some ⟨B,0,none⟩), .pointer (some ⟨Xb,0,none⟩)] W fun e w'=>e= .returned (.int .i64 (-(sd P Lk Li)))∧∃q os',w'=grow (W.drewN q) os':=by
 have h2:=fun W=>Ch P Lk Li hP Sv Su W
 have hn:=HB _ (HC P Lk Li)
 generalize sd P Lk Li=r at*
 clear hP Su Sv
 have a1:(1:Int)<(li:Int):=by omega
 have a2:(1:Int)<(lk:Int):=by omega
 have a3:(1:Int)≤(li:Int):=by omega
 have a4:(1:Int)≤(lk:Int):=by omega
 have b1:(x:Int)<(lp:Int):=by omega
 have b2:(i:Int)<(ll:Int):=by omega
 have b3:(k:Int)<(ll:Int):=by omega
 unfold AH at h2
 go_enter Tryz.func75,Tryz.ntmps75
 go_wp2
 go_region_held3 (fun w'=>w'.cell? ⟨B,0,none⟩=some (.slice (some ⟨bp,op,none⟩) lp cp)∧w'.cell? ⟨B,1,none⟩=some (.slice (some ⟨bl,ol,none⟩) ll cl)∧w'.cell? ⟨Xb,0,none⟩=some (.int .i64 x)∧w'.cell? ⟨bp,op+x*2,none⟩=some (.int .i64 P.1)∧w'.cell? ⟨bp,op+x*2+1,none⟩=some (.int .i64 P.2)∧w'.cell? ⟨bl,ol+i,none⟩=some (.slice (some ⟨bi,oi,none⟩) li ci)∧w'.cell? ⟨bl,ol+k,none⟩=some (.slice (some ⟨bk,ok,none⟩) lk ck)∧w'.cell? ⟨bi,oi+2,none⟩=some (.int .i64 Li.1)∧w'.cell? ⟨bi,oi+2+1,none⟩=some (.int .i64 Li.2)∧w'.cell? ⟨bk,ok+2,none⟩=some (.int .i64 Lk.1)∧w'.cell? ⟨bk,ok+2+1,none⟩=some (.int .i64 Lk.2)) (first|(go_keep;done)|(repeat' (first|(refine And.intro ?_ ?_)|(exact xG (by assumption))|(show W.cell? _=_;assumption))))
  (first|(go_at_call 76;refine (h2 _).mono ?_;rintro e w' ⟨rfl,os',rfl⟩))
 go_wp2
 go_ret
 exact ⟨rfl,1,_,rfl⟩
theorem Lq (W:World) (B bp op lp cp i k:Nat) (Pi Pk:Pt)
 (NH:W.cell? ⟨B,0,none⟩=some (.slice (some ⟨bp,op,none⟩) lp cp)) (hi:i<lp) (hk:k<lp)
 (i0:W.cell? ⟨bp,op+i*2,none⟩=some (.int .i64 Pi.1)) (i1:W.cell? ⟨bp,op+i*2+1,none⟩=some (.int .i64 Pi.2)) (k0:W.cell? ⟨bp,op+k*2,none⟩=some (.int .i64 Pk.1)) (k1:W.cell? ⟨bp,op+k*2+1,none⟩=some (.int .i64 Pk.2)):
 Calls Tryz.prog 77 #[.int .i64 i, .int .i64 k, .pointer (some ⟨B,0,none⟩)] W fun e w'=>e= .returned (.int .i64 (if compareInt Pi.2 Pk.2=0 then compareInt Pi.1 Pk.1 else compareInt Pi.2 Pk.2))∧∃q os',w'=grow (W.drewN q) os':=by
 have b2:(i:Int)<(lp:Int):=by omega
 have b3:(k:Int)<(lp:Int):=by omega
 generalize Pi.1=f1 at*
 generalize Pi.2=y1 at*
 generalize Pk.1=f2 at*
 generalize Pk.2=y2 at*
 have h3:=fun W b=>EP W b (compareInt y1 y2) (compareInt f1 f2)
 generalize (if compareInt y1 y2=0 then compareInt f1 f2 else compareInt y1 y2)=r at h3 ⊢
 go_enter Tryz.func77,Tryz.ntmps77
 go_wp2
 go_region_held3 (fun w'=>w'.cell? ⟨B,0,none⟩=some (.slice (some ⟨bp,op,none⟩) lp cp)∧w'.cell? ⟨bp,op+i*2,none⟩=some (.int .i64 f1)∧w'.cell? ⟨bp,op+i*2+1,none⟩=some (.int .i64 y1)∧w'.cell? ⟨bp,op+k*2,none⟩=some (.int .i64 f2)∧w'.cell? ⟨bp,op+k*2+1,none⟩=some (.int .i64 y2)) (first|(go_keep;done)|(repeat' (first|(refine And.intro ?_ ?_)|(exact xG (by assumption))|(show W.cell? _=_;assumption))))
  (first|(go_at_call 79;refine (Cg _ _ _).mono ?_;rintro e w' ⟨rfl,rfl⟩)|(go_at_call 78;refine (h3 _ _ (by simp) (by simp)).mono ?_;rintro e w' ⟨rfl,rfl⟩))
 go_wp2
 go_ret
 exact ⟨rfl,1,_,by rw [alloc_eq_grow];rfl⟩
end Go.Ab
end
section
namespace Go.Ab
open Go.Proofs Go.RowKit Go.Shelf Go.Sort
set_option maxRecDepth 10000
theorem Ci {α:Type} {R:α→α→Prop} {l m:List α} (hp:l.Perm m) (ha:∀a b,a∈l→b∈l→R a b→R b a→a=b) (h1:l.Pairwise R) (h2:m.Pairwise R):l=m:=by
 induction l generalizing m with
 |nil=>exact hp.symm.eq_nil.symm
 |cons a l ih=>
  cases m with
  |nil=>exact absurd hp.length_eq (by simp)
  |cons b m=>
   obtain ⟨a1,a2⟩:=List.pairwise_cons.1 h1
   obtain ⟨b1,b2⟩:=List.pairwise_cons.1 h2
   have hab:a=b:=by
    refine Classical.byContradiction fun hne=> ?_
    have ma:a∈b::m:=hp.mem_iff.1 (by simp)
    have mb:b∈a::l:=hp.mem_iff.2 (by simp)
    have ma:a∈m:=(List.mem_cons.1 ma).elim (fun e=>absurd e hne) id
    have Us:b∈l:=(List.mem_cons.1 mb).elim (fun e=>absurd e.symm hne) id
    exact hne (ha a b (by simp) mb (a1 b Us) (b1 a ma))
   subst hab
   rw [ih ((List.perm_cons a).1 hp) (fun c d hc hd=>ha c d (by simp [hc]) (by simp [hd])) a2 b2]
structure Fi (cf:Int→Int→Int) (l l':List Int):Prop where
 perm:l.Perm l'
 nd:l.Nodup
 ord:l'.Pairwise fun x y=>cf x y<0∧¬cf y x<0
 OR:∀x∈l,¬cf x x<0
section
variable {cf:Int→Int→Int} {l l':List Int} (S:Fi cf l l')
include S
theorem Fi.idx {x:Int} (h:x∈l):∃i,i<l'.length∧l'.getD i 0=x:=by
 obtain ⟨i,hi,e⟩:=List.mem_iff_getElem.1 (S.perm.mem_iff.1 h)
 exact ⟨i,hi,by rw [List.getD_eq_getElem?_getD,List.getElem?_eq_getElem hi];exact e⟩
theorem Fi.lt {i j:Nat} (hi:i<l'.length) (hj:j<l'.length):cf (l'.getD i 0) (l'.getD j 0)<0↔i<j:=by
 rw [List.getD_eq_getElem?_getD,List.getElem?_eq_getElem hi,List.getD_eq_getElem?_getD,List.getElem?_eq_getElem hj,Option.getD_some,Option.getD_some]
 rcases Nat.lt_trichotomy i j with h|h|h
 ·have:=List.pairwise_iff_getElem.1 S.ord i j hi hj h
  exact ⟨fun _=>h,fun _=>this.1⟩
 ·subst h
  have:=S.OR (l'[i]) (S.perm.mem_iff.2 (List.getElem_mem hi))
  exact ⟨fun h=>absurd h this,fun h=>by omega⟩
 ·have:=List.pairwise_iff_getElem.1 S.ord j i hj hi h
  exact ⟨fun h=>absurd h this.2,fun h=>by omega⟩
theorem Fi.swo:SWO (ltOf fun x y: {x // x∈l} =>cf x.1 y.1) where
 irrefl x:=decide_eq_false (S.OR x.1 x.2)
 trans x y z h1 h2:=by
  obtain ⟨i,hi,ei⟩:=S.idx x.2
  obtain ⟨j,hj,ej⟩:=S.idx y.2
  obtain ⟨k,hk,ek⟩:=S.idx z.2
  simp only [ltOf,decide_eq_true_eq, ← ei, ← ej, ← ek,S.lt hi hj,S.lt hj hk,S.lt hi hk] at h1 h2 ⊢
  omega
 ntrans x y z h1 h2:=by
  obtain ⟨i,hi,ei⟩:=S.idx x.2
  obtain ⟨j,hj,ej⟩:=S.idx y.2
  obtain ⟨k,hk,ek⟩:=S.idx z.2
  simp only [ltOf,decide_eq_false_iff_not, ← ei, ← ej, ← ek,S.lt hi hj,S.lt hj hk,S.lt hi hk] at h1 h2 ⊢
  omega
theorem Fi.eq {d d':Array {x // x∈l}} [Inhabited {x // x∈l}] (hd:d.toList=l.attach) (hp:PermIn 0 d.size d d') (hs:SortedIn (ltOf fun x y: {x // x∈l} =>cf x.1 y.1) 0 d.size d'):d'.toList.map (·.1)=l':=by
 obtain ⟨h1,_,h3⟩:=hp
 have e1:d'.extract 0 d.size=d':=by rw [← h1];exact Array.extract_size
 have e2:d.extract 0 d.size=d:=Array.extract_size
 rw [e1,e2,hd] at h3
 have h4:(d'.toList.map (·.1)).Perm l:=by
  have:=h3.map (fun x: {x // x∈l} =>x.1)
  rwa [List.attach_map_subtype_val] at this
 refine Ci (R:=fun x y=>¬cf y x<0) (h4.trans S.perm) (fun a b ha hb r1 r2=> ?_) ?_ (S.ord.imp fun h=>h.2)
 ·obtain ⟨i,hi,ei⟩:=S.idx (h4.mem_iff.1 ha)
  obtain ⟨j,hj,ej⟩:=S.idx (h4.mem_iff.1 hb)
  rw [← ei, ← ej,S.lt hj hi] at r1
  rw [← ei, ← ej,S.lt hi hj] at r2
  rw [← ei, ← ej,show i=j by omega]
 ·rw [List.pairwise_map,List.pairwise_iff_getElem]
  intro i j hi hj hij
  have:=hs i j (by omega) hij (by simpa [h1] using hj)
  rw [getElem!_pos d' j (by simpa using hj),getElem!_pos d' i (by simpa using hi)] at this
  simpa [ltOf] using this
end
def HD (P:Program) (g:Nat) (cb:Array Value) (cf:Int→Int→Int) (l:List Int) (blk:Nat) (w:World):Prop:=
 ∀W:World,w.heap.size≤W.heap.size→(∀b,b<w.heap.size→b≠blk→W.heap[b]? =w.heap[b]?)→∀x,x∈l→∀y,y∈l→
  Calls P g (#[.int .i64 x, .int .i64 y]++cb) W fun e w'=>e= .returned (.int .i64 (cf x y))∧∃q os',w'=grow (W.drewN q) os'
theorem nj {α:Type} [Inhabited α] (enc:α→Value) (w:World) (blk m:Nat) (dk:Array α) (os:Array Obj) {b:Nat} (hb:b<w.heap.size) (hne:b≠blk):(sortWorld enc w blk 0 m dk os).heap[b]? =w.heap[b]? :=by
 show ((w.heap.modify blk _)++os)[b]? =_
 rw [Array.getElem?_append_left (by simpa using hb),Array.getElem?_modify,if_neg (by omega)]
theorem nk {α:Type} [Inhabited α] (enc:α→Value) (w:World) (blk m:Nat) (dk:Array α) (os:Array Obj):w.heap.size≤(sortWorld enc w blk 0 m dk os).heap.size:=by
 show _≤((w.heap.modify blk _)++os).size
 simp
theorem wo {α:Type} [Inhabited α] (enc:α→Value) (w:World) (blk m:Nat) (dk:Array α) (os:Array Obj) {cur:Array Value} {e:TypeId} {fr:Nat × Nat} (hb:w.heap[blk]? =some (.cells cur e fr)):
 (sortWorld enc w blk 0 m dk os).heap[blk]? =some (.cells (putCells enc 0 dk cur) e fr):=by
 have hlt:blk<w.heap.size:=(Array.getElem?_eq_some_iff.1 hb).1
 show ((w.heap.modify blk _)++os)[blk]? =_
 rw [Array.getElem?_append_left (by simpa using hlt),Array.getElem?_modify,if_pos rfl,hb]
 rfl
theorem sO (g:Nat) (cb:Array Value) {cf:Int→Int→Int} {l l':List Int} (S:Fi cf l l') (hlen:l.length≤1000000) (eg:∀args w,(callFunc g args).run Tryz.prog w= .ok (.enter g args) w)
 (blk cap:Nat) (w:World) {cur:Array Value} {e:TypeId} (hb:w.heap[blk]? =some (.cells cur e (0,0))) (hc:∀i,i<l.length→cur[i]? =some (.int .i64 (l.getD i 0))) (hne:l≠ [])
 (hcmp:HD Tryz.prog g cb cf l blk w):
 Calls Tryz.prog 74 #[.slice (some ⟨blk,0,none⟩) l.length cap, .func (.func g) #[] cb] w fun en w'=>en= .returned (.tuple #[])∧
  w'.os=w.os∧w'.tape=w.tape∧w'.output=w.output∧w.heap.size≤w'.heap.size∧(∀b,b<w.heap.size→b≠blk→w'.heap[b]? =w.heap[b]?)∧
  ∃cur',w'.heap[blk]? =some (.cells cur' e (0,0))∧cur'.size=cur.size∧∀i,i<l'.length→cur'[i]? =some (.int .i64 (l'.getD i 0)):=by
 have hlt:blk<w.heap.size:=(Array.getElem?_eq_some_iff.1 hb).1
 obtain ⟨a0,ha0⟩:∃a,a∈l:=by
  cases l with
  |nil=>exact absurd rfl hne
  |cons a l=>exact ⟨a,by simp⟩
 letI:Inhabited {x // x∈l} :=⟨⟨a0,ha0⟩⟩
 have hsz:(l.attach.toArray).size=l.length:=by simp
 have QN:∀j (hj:j<l.length),((l.attach.toArray)[j]!).1=l.getD j 0:=fun j hj=>by
  rw [getElem!_pos _ j (by simpa using hj),List.getD_eq_getElem?_getD,List.getElem?_eq_getElem hj]
  simp
 have hH:Holds (fun x: {x // x∈l} =>Value.int .i64 x.1) w blk 0 l.attach.toArray:=fun j hj=>by
  rw [hsz] at hj
  refine ⟨?_, ?_⟩
  ·show _=some (Value.int .i64 ((l.attach.toArray)[j]!).1)
   rw [Nat.zero_add,QN j hj, ← hc j hj]
   simp [World.cell?,hb]
  ·simp [World.frozen?,hb]
 have LR:CmpLays1 Tryz.prog g cb (fun x: {x // x∈l} =>Value.int .i64 x.1) (fun x y=>cf x.1 y.1) blk 0 (l.attach.toArray).size w:=fun m os dk _ x y=>
  hcmp _ (nk ..) (fun b h1 h2=>nj _ _ _ _ _ _ h1 h2) x.1 x.2 y.1 y.2
 have N0:=Any.slices_SortFunc Tryz.HA (fun x: {x // x∈l} =>Value.int .i64 x.1) (fun _=>rfl) (fun x y=>cf x.1 y.1) S.swo g cb blk 0 cap l.attach.toArray w eg LR hH hlt (by rw [hsz];omega)
 rw [hsz] at N0
 refine Calls.mono N0 ?_
 rintro en w' ⟨rfl,d',n,os,hp,hs,rfl⟩
 rw [← hsz] at hp hs
 have he:=S.eq (d:=l.attach.toArray) (by simp) hp hs
 have hds:d'.size=l.length:=by rw [hp.1,hsz]
 refine ⟨rfl,rfl,rfl,rfl,nk ..,fun b h1 h2=>nj _ _ _ _ _ _ h1 h2,_,wo _ _ _ _ _ _ hb,by simp [putCells],fun i hi=> ?_⟩
 have hi2:i<l.length:=by rw [S.perm.length_eq];exact hi
 have hic:i<cur.size:=(Array.getElem?_eq_some_iff.1 (hc i hi2)).1
 simp only [putCells,Array.getElem?_mapIdx,Array.getElem?_eq_getElem hic,Option.map_some]
 rw [if_pos ⟨by omega,by omega⟩,Nat.sub_zero,getElem!_pos d' i (by omega)]
 have:l'.getD i 0=(d'[i]'(by omega)).1:=by
  rw [← he,List.getD_eq_getElem?_getD,List.getElem?_map,Array.getElem?_toList,Array.getElem?_eq_getElem (by omega)]
  rfl
 rw [this]
theorem iY (p:Option Addr) (cap:Nat) (fv:Value) (w:World):Calls Tryz.prog 74 #[.slice p 0 cap,fv] w fun e w'=>e= .returned (.tuple #[])∧w'=w:=
 AnyF.slices_SortFunc_none {Tryz.HA with} p cap fv w
end Go.Ab
end
section
namespace Go.Ab
open Go.Proofs Go.RowKit Go.Shelf Go.Sort
set_option maxRecDepth 10000
theorem Rp {a b:AObj} (ha:a.isNest=false) (hb:b.isNest=false) {q:Nat} {o:AObj} (h:bB [(10000,a),(10001,b)] q=some o):(q=10000∧o=a)∨(q=10001∧o=b):=by
 have hl:look [(10000,a),(10001,b)] q=some o:=(e8 (fun p hp=>by
  simp only [List.mem_cons,List.not_mem_nil,or_false] at hp
  rcases hp with rfl|rfl
  ·exact ha
  ·exact hb) h).1
 simp only [look] at hl
 split at hl
 ·rename_i e;cases hl;exact .inl ⟨e.symm,rfl⟩
 ·split at hl
  ·rename_i e;cases hl;exact .inr ⟨e.symm,rfl⟩
  ·cases hl
theorem Cj {g:Nat} {cells:List AV} {cf:Int→Int→Int} {l l':List Int} (S:Fi cf l l') (hlen:l.length≤1000000) (eg:∀args w,(callFunc g args).run Tryz.prog w= .ok (.enter g args) w) (sX:AV.idss cells= [])
 (hcmp:∀(w:World) (E:Env) (B blk:Nat) (vs:List Value) (e:TypeId),w.heap[B]? =some (.cells vs.toArray e (0,0))→AVrs w E cells vs→B≠blk→E.z blk=0→HD Tryz.prog g #[.pointer (some ⟨B,0,none⟩)] cf l blk w):
 Spec Tryz.prog 74 (Args [.ref 10000, .fn g [] [.ptr 10001 0]]) [(10000, .own 3 1 (l.map rI)),(10001, .box cells)] (.tup []) [(10000, .own 3 1 (l'.map rI)),(10001, .box cells)]:=by
 refine ⟨⟨Tryz.f74,_,Tryz.func74,by kernel_rfl,rfl⟩,fun E w vals hg hA=> ?_⟩
 obtain ⟨v,vs,rfl,h0,h3⟩:=hA
 obtain ⟨v2,Sw,rfl,h1,h4⟩:=h3
 simp only [AVrs] at h4
 subst h4
 obtain ⟨us,us',rfl,h5,h6⟩:=h1
 obtain ⟨u,IA,rfl,h7,h8⟩:=h6
 simp only [AVrs] at h5 h8
 subst h5 h8
 obtain ⟨rfl,_⟩:=h0
 have o1:=hg.gI 10000 (.own 3 1 (l.map rI)) rfl
 obtain ⟨B,cs,e,g1,g2,g3,g4,g5⟩:=hg.gI 10001 (.box cells) rfl
 obtain ⟨B',hB,rfl⟩:=h7
 rw [g1] at hB
 cases hB
 obtain ⟨_,_,o2⟩:=o1
 have jK:l.length=l'.length:=S.perm.length_eq
 have hkeep:∀ {w':World},(∀b,0<E.z b→w'.heap[b]? =w.heap[b]?)→aL w E.z w' E.z:=fun h b=>⟨Nat.le_refl _,fun o ho=>by
  simp only [World.cell?,h b (by omega)]⟩
 rcases o2 with ⟨r0,r1,p,r2⟩|⟨b,cur,cap,r0,r1,r2,r3,r4,r5,r6,r7⟩
 ·have hl0:l= []:=List.map_eq_nil_iff.1 r1
  subst hl0
  have Ck:l'= []:=S.perm.symm.eq_nil
  subst Ck
  rw [r2]
  refine (iY p 0 _ w).mono ?_
  rintro en w' ⟨rfl,rfl⟩
  exact ⟨_,E,rfl,Fl.refl _ _ _,hg,fun q o b hq hro hb=> .inr ⟨q,o,hq,hro,hb⟩,⟨[],rfl,rfl⟩⟩
 ·rw [List.length_map] at r2 r3
  rw [r2]
  by_cases hl0:l= []
  ·subst hl0
   have Ck:l'= []:=S.perm.symm.eq_nil
   subst Ck
   refine (iY _ cap _ w).mono ?_
   rintro en w' ⟨rfl,rfl⟩
   exact ⟨_,E,rfl,Fl.refl _ _ _,hg,fun q o b hq hro hb=> .inr ⟨q,o,hq,hro,hb⟩,⟨[],rfl,rfl⟩⟩
  have hne:B≠b:=fun e=>by
   subst e
   have:=hg.inj 10000 10001 B (by simp [bN,look]) (by simp [bN,look]) r0 g1
   omega
  have vQ:b<w.heap.size:=(Array.getElem?_eq_some_iff.1 r1).1
  have Lr:∀i,i<l.length→cur[i]? =some (.int .i64 (l.getD i 0)):=fun i hi=>by
   obtain ⟨v,h1,h2⟩:=r7 i 0 (rI l[i]) (.sc (.int .i64 l[i])) (by simp [List.getElem?_eq_getElem hi]) rfl
   rw [u9 h2] at h1
   simpa [List.getD_eq_getElem?_getD,List.getElem?_eq_getElem hi] using h1
  refine (sO g #[.pointer (some ⟨B,0,none⟩)] S hlen eg b cap w r1 Lr hl0 (hcmp w E B b cs e g2 g4 hne r6)).mono ?_
  rintro en w' ⟨rfl,k1,k2,k3,k4,k5,cur',k6,k7,k8⟩
  have hst:aL w E.z w' E.z:=hkeep fun q hq=>by
   by_cases Rq:q<w.heap.size
   ·exact k5 q Rq fun e=>by subst e;omega
   ·have:=hg.fresh q (by omega);omega
  have hs2:∀ {q o},bB [(10000, .own 3 1 (l'.map rI)),(10001, .box cells)] q=some o→(q=10000∧o= .own 3 1 (l'.map rI))∨(q=10001∧o= .box cells):=fun h=>Rp rfl rfl h
  have N1:∀ {q:Nat},bB [(10000, .own 3 1 (l'.map rI)),(10001, .box cells)] q≠none→bB [(10000, .own 3 1 (l.map rI)),(10001, .box cells)] q≠none:=fun {q} h=>by
   obtain ⟨o,ho⟩:=Option.ne_none_iff_exists'.1 h
   rcases hs2 ho with ⟨rfl,_⟩|⟨rfl,_⟩
   ·simp [bN,look]
   ·simp [bN,look]
  refine ⟨_,E,rfl,⟨k1,k2,k3,k4,hst,fun q hq hnm=>⟨k5 q hq fun e=> ?_,rfl⟩,fun _ _=>⟨rfl,rfl⟩⟩,⟨fun q hq=> ?_,fun q q' c hq lZ=>hg.inj q q' c (N1 hq) (N1 lZ),fun q o hq=> ?_,fun q hq=>hg.fresh q (by omega)⟩,fun q o c hq hro hc=> ?_,⟨[],rfl,rfl⟩⟩
  ·subst e
   exact hnm ⟨10000,_,rfl,rfl,r0⟩
  ·simp only [look] at hq
   split at hq
   ·omega
   ·split at hq
    ·omega
    ·exact absurd rfl hq
  ·rcases hs2 hq with ⟨rfl,rfl⟩|⟨rfl,rfl⟩
   ·refine ⟨fun r hr=> ?_,by decide, .inr ⟨b,cur',cap,r0,k6, ?_, ?_,by rw [k7];exact r4,r5,r6,fun i j r x h1 h2=> ?_⟩⟩
    ·obtain ⟨v,_,rfl⟩:=List.mem_map.1 hr
     rfl
    ·rw [List.length_map, ← jK];exact r2
    ·rw [List.length_map, ← jK];exact r3
    ·rw [List.getElem?_map] at h1
     obtain ⟨v,h3,rfl⟩:=Option.map_eq_some_iff.1 h1
     cases j with
     |succ j=>simp [rI] at h2
     |zero=>
      simp only [rI,List.getElem?_cons_zero,Option.some.injEq] at h2
      subst h2
      have hi:i<l'.length:=(List.getElem?_eq_some_iff.1 h3).1
      refine ⟨_,by simpa using k8 i hi, ?_⟩
      rw [h3]
      exact .sc _ rfl
   ·have JX:B<w.heap.size:=(Array.getElem?_eq_some_iff.1 g2).1
    exact ⟨B,cs,e,g1,(k5 B JX hne).trans g2,g3,AVrs.mono ⟨hst,fun _ _=>rfl,fun _ _=>rfl⟩ (fun _ _=>trivial) (live:=fun _=>True) g4,g5⟩
  ·refine .inr ?_
   rcases hs2 hq with ⟨rfl,rfl⟩|⟨rfl,rfl⟩
   ·exact ⟨10000,_,rfl,rfl,hc⟩
   ·exact ⟨10001,_,rfl,rfl,hc⟩
end Go.Ab
end
section
namespace Go.Ab
open Go.Proofs Go.RowKit Go.Shelf Go.Sort
set_option maxRecDepth 10000
theorem Rr {a b c:AObj} (ha:a.isNest=false) (hb:b.isNest=false) (hc:c.isNest=false) {q:Nat} {o:AObj} (h:bB [(10000,a),(10001,b),(10002,c)] q=some o):(q=10000∧o=a)∨(q=10001∧o=b)∨(q=10002∧o=c):=by
 have hl:look [(10000,a),(10001,b),(10002,c)] q=some o:=(e8 (fun p hp=>by
  simp only [List.mem_cons,List.not_mem_nil,or_false] at hp
  rcases hp with rfl|rfl|rfl
  ·exact ha
  ·exact hb
  ·exact hc) h).1
 simp only [look] at hl
 split at hl
 ·rename_i e;cases hl;exact .inl ⟨e.symm,rfl⟩
 ·split at hl
  ·rename_i e;cases hl;exact .inr (.inl ⟨e.symm,rfl⟩)
  ·split at hl
   ·rename_i e;cases hl;exact .inr (.inr ⟨e.symm,rfl⟩)
   ·cases hl
theorem AJ {g:Nat} {c1 c2:List AV} {cf:Int→Int→Int} {l l':List Int} (S:Fi cf l l') (hlen:l.length≤1000000) (eg:∀args w,(callFunc g args).run Tryz.prog w= .ok (.enter g args) w)
 (hcmp:∀(w:World) (E:Env) (B1 B2 blk:Nat) (v1 v2:List Value) (e1 e2:TypeId),w.heap[B1]? =some (.cells v1.toArray e1 (0,0))→w.heap[B2]? =some (.cells v2.toArray e2 (0,0))→AVrs w E c1 v1→AVrs w E c2 v2→B1≠blk→B2≠blk→E.z blk=0→HD Tryz.prog g #[.pointer (some ⟨B1,0,none⟩), .pointer (some ⟨B2,0,none⟩)] cf l blk w):
 Spec Tryz.prog 74 (Args [.ref 10000, .fn g [] [.ptr 10001 0, .ptr 10002 0]]) [(10000, .own 3 1 (l.map rI)),(10001, .box c1),(10002, .box c2)] (.tup []) [(10000, .own 3 1 (l'.map rI)),(10001, .box c1),(10002, .box c2)]:=by
 refine ⟨⟨Tryz.f74,_,Tryz.func74,by kernel_rfl,rfl⟩,fun E w vals hg hA=> ?_⟩
 obtain ⟨v,vs,rfl,h0,h3⟩:=hA
 obtain ⟨v2,Sw,rfl,h1,h4⟩:=h3
 simp only [AVrs] at h4
 subst h4
 obtain ⟨us,us',rfl,h5,h6⟩:=h1
 obtain ⟨u,IA,rfl,h7,h8⟩:=h6
 obtain ⟨u2,VT,rfl,h9,OL⟩:=h8
 simp only [AVrs] at h5 OL
 subst h5 OL
 obtain ⟨rfl,_⟩:=h0
 have o1:=hg.gI 10000 (.own 3 1 (l.map rI)) rfl
 obtain ⟨B,cs,e,g1,g2,g3,g4,g5⟩:=hg.gI 10001 (.box c1) rfl
 obtain ⟨D,ds,e',HS,Ml,Ki,Sx,Ut⟩:=hg.gI 10002 (.box c2) rfl
 obtain ⟨B',hB,rfl⟩:=h7
 rw [g1] at hB
 cases hB
 obtain ⟨D',hD,rfl⟩:=h9
 rw [HS] at hD
 cases hD
 obtain ⟨_,_,o2⟩:=o1
 have jK:l.length=l'.length:=S.perm.length_eq
 have hkeep:∀ {w':World},(∀b,0<E.z b→w'.heap[b]? =w.heap[b]?)→aL w E.z w' E.z:=fun h b=>⟨Nat.le_refl _,fun o ho=>by
  simp only [World.cell?,h b (by omega)]⟩
 rcases o2 with ⟨r0,r1,p,r2⟩|⟨b,cur,cap,r0,r1,r2,r3,r4,r5,r6,r7⟩
 ·have hl0:l= []:=List.map_eq_nil_iff.1 r1
  subst hl0
  have Ck:l'= []:=S.perm.symm.eq_nil
  subst Ck
  rw [r2]
  refine (iY p 0 _ w).mono ?_
  rintro en w' ⟨rfl,rfl⟩
  exact ⟨_,E,rfl,Fl.refl _ _ _,hg,fun q o b hq hro hb=> .inr ⟨q,o,hq,hro,hb⟩,⟨[],rfl,rfl⟩⟩
 ·rw [List.length_map] at r2 r3
  rw [r2]
  by_cases hl0:l= []
  ·subst hl0
   have Ck:l'= []:=S.perm.symm.eq_nil
   subst Ck
   refine (iY _ cap _ w).mono ?_
   rintro en w' ⟨rfl,rfl⟩
   exact ⟨_,E,rfl,Fl.refl _ _ _,hg,fun q o b hq hro hb=> .inr ⟨q,o,hq,hro,hb⟩,⟨[],rfl,rfl⟩⟩
  have hne:B≠b:=fun e=>by
   subst e
   have:=hg.inj 10000 10001 B (by simp [bN,look]) (by simp [bN,look]) r0 g1
   omega
  have EU:D≠b:=fun e=>by
   subst e
   have:=hg.inj 10000 10002 D (by simp [bN,look]) (by simp [bN,look]) r0 HS
   omega
  have vQ:b<w.heap.size:=(Array.getElem?_eq_some_iff.1 r1).1
  have Lr:∀i,i<l.length→cur[i]? =some (.int .i64 (l.getD i 0)):=fun i hi=>by
   obtain ⟨v,h1,h2⟩:=r7 i 0 (rI l[i]) (.sc (.int .i64 l[i])) (by simp [List.getElem?_eq_getElem hi]) rfl
   rw [u9 h2] at h1
   simpa [List.getD_eq_getElem?_getD,List.getElem?_eq_getElem hi] using h1
  refine (sO g #[.pointer (some ⟨B,0,none⟩), .pointer (some ⟨D,0,none⟩)] S hlen eg b cap w r1 Lr hl0 (hcmp w E B D b cs ds e e' g2 Ml g4 Sx hne EU r6)).mono ?_
  rintro en w' ⟨rfl,k1,k2,k3,k4,k5,cur',k6,k7,k8⟩
  have hst:aL w E.z w' E.z:=hkeep fun q hq=>by
   by_cases Rq:q<w.heap.size
   ·exact k5 q Rq fun e=>by subst e;omega
   ·have:=hg.fresh q (by omega);omega
  have hs2:∀ {q o},bB [(10000, .own 3 1 (l'.map rI)),(10001, .box c1),(10002, .box c2)] q=some o→(q=10000∧o= .own 3 1 (l'.map rI))∨(q=10001∧o= .box c1)∨(q=10002∧o= .box c2):=fun h=>Rr rfl rfl rfl h
  have N1:∀ {q:Nat},bB [(10000, .own 3 1 (l'.map rI)),(10001, .box c1),(10002, .box c2)] q≠none→bB [(10000, .own 3 1 (l.map rI)),(10001, .box c1),(10002, .box c2)] q≠none:=fun {q} h=>by
   obtain ⟨o,ho⟩:=Option.ne_none_iff_exists'.1 h
   rcases hs2 ho with ⟨rfl,_⟩|⟨rfl,_⟩|⟨rfl,_⟩
   ·simp [bN,look]
   ·simp [bN,look]
   ·simp [bN,look]
  refine ⟨_,E,rfl,⟨k1,k2,k3,k4,hst,fun q hq hnm=>⟨k5 q hq fun e=> ?_,rfl⟩,fun _ _=>⟨rfl,rfl⟩⟩,⟨fun q hq=> ?_,fun q q' c hq lZ=>hg.inj q q' c (N1 hq) (N1 lZ),fun q o hq=> ?_,fun q hq=>hg.fresh q (by omega)⟩,fun q o c hq hro hc=> ?_,⟨[],rfl,rfl⟩⟩
  ·subst e
   exact hnm ⟨10000,_,rfl,rfl,r0⟩
  ·simp only [look] at hq
   split at hq
   ·omega
   ·split at hq
    ·omega
    ·split at hq
     ·omega
     ·exact absurd rfl hq
  ·rcases hs2 hq with ⟨rfl,rfl⟩|⟨rfl,rfl⟩|⟨rfl,rfl⟩
   ·refine ⟨fun r hr=> ?_,by decide, .inr ⟨b,cur',cap,r0,k6, ?_, ?_,by rw [k7];exact r4,r5,r6,fun i j r x h1 h2=> ?_⟩⟩
    ·obtain ⟨v,_,rfl⟩:=List.mem_map.1 hr
     rfl
    ·rw [List.length_map, ← jK];exact r2
    ·rw [List.length_map, ← jK];exact r3
    ·rw [List.getElem?_map] at h1
     obtain ⟨v,h3,rfl⟩:=Option.map_eq_some_iff.1 h1
     cases j with
     |succ j=>simp [rI] at h2
     |zero=>
      simp only [rI,List.getElem?_cons_zero,Option.some.injEq] at h2
      subst h2
      have hi:i<l'.length:=(List.getElem?_eq_some_iff.1 h3).1
      refine ⟨_,by simpa using k8 i hi, ?_⟩
      rw [h3]
      exact .sc _ rfl
   ·have JX:B<w.heap.size:=(Array.getElem?_eq_some_iff.1 g2).1
    exact ⟨B,cs,e,g1,(k5 B JX hne).trans g2,g3,AVrs.mono ⟨hst,fun _ _=>rfl,fun _ _=>rfl⟩ (fun _ _=>trivial) (live:=fun _=>True) g4,g5⟩
   ·have Uu:D<w.heap.size:=(Array.getElem?_eq_some_iff.1 Ml).1
    exact ⟨D,ds,e',HS,(k5 D Uu EU).trans Ml,Ki,AVrs.mono ⟨hst,fun _ _=>rfl,fun _ _=>rfl⟩ (fun _ _=>trivial) (live:=fun _=>True) Sx,Ut⟩
  ·refine .inr ?_
   rcases hs2 hq with ⟨rfl,rfl⟩|⟨rfl,rfl⟩|⟨rfl,rfl⟩
   ·exact ⟨10000,_,rfl,rfl,hc⟩
   ·exact ⟨10001,_,rfl,rfl,hc⟩
   ·exact ⟨10002,_,rfl,rfl,hc⟩
end Go.Ab
end
section
namespace Go.Ab
open Go.Proofs
set_option maxRecDepth 10000
structure rS (g:Gr) (p:Pl) (k:Nat) (e:Int):Prop where
 e0:0≤e
 e1:e<g.es.length
 low:kX g e∈p.ord.take k
 top:mB g e∉p.ord.take k
structure Ds (g:Gr) (p:Pl) (L:Nat→Int→Int→Prop):Prop where
 up:∀e:Int,0≤e→e<g.es.length→∀k,k<g.n.toNat→bJ p k=mB g e→kX g e∈p.ord.take k
 Uv:∀k,k<g.n.toNat→∀a b c:Int,rS g p k a→rS g p k b→rS g p k c→mB g a=bJ p k→mB g c=bJ p k→L k a b→L k b c→mB g b=bJ p k
 keep:∀k,k<g.n.toNat→∀a b:Int,rS g p k a→rS g p k b→mB g a≠bJ p k→mB g b≠bJ p k→L k a b→L (k+1) a b
 left:∀k,k<g.n.toNat→∀a b c:Int,rS g p k a→rS g p k b→mB g a≠bJ p k→mB g b=bJ p k→c∈kU p (bJ p k)→L k a b→L (k+1) a c
 right:∀k,k<g.n.toNat→∀a b c:Int,rS g p k a→rS g p k b→mB g a≠bJ p k→mB g b=bJ p k→c∈kU p (bJ p k)→L k b a→L (k+1) c a
 outs:∀k,k<g.n.toNat→(kU p (bJ p k)).Pairwise (L (k+1))
theorem xH {α:Type} (P:α→Prop) [DecidablePred P]:∀l:List α,∃X v,l=X++v∧(∀t∈X,P t)∧(v= []∨∃b v',v=b::v'∧¬P b)
 | []=>⟨[], [],rfl,by simp, .inl rfl⟩
 |a::l=>by
  by_cases h:P a
  ·obtain ⟨X,v,e,h1,h2⟩:=xH P l
   exact ⟨a::X,v,by simp [e],fun t ht=>(List.mem_cons.1 ht).elim (fun e=>e ▸ h) (h1 t),h2⟩
  ·exact ⟨[],a::l,rfl,by simp, .inr ⟨a,l,rfl,h⟩⟩
theorem xI {α:Type} {P:α→Prop} [DecidablePred P] {R:α→α→Prop} :∀ {l:List α},l.Pairwise R→(∀a b c,a∈l→b∈l→c∈l→P a→P c→R a b→R b c→P b)→(∃a∈l,P a)→
 ∃u X v,l=u++X++v∧(∀t∈u,¬P t)∧(∀t∈X,P t)∧X≠ []∧∀t∈v,¬P t
 | [],_,_,⟨a,ha,_⟩=>by cases ha
 |t::l,hp,hb,hex=>by
  obtain ⟨hp1,hp2⟩:=List.pairwise_cons.1 hp
  by_cases h:P t
  ·obtain ⟨X,v,e,h1,h2⟩:=xH P l
   refine ⟨[],t::X,v,by simp [e],by simp,fun s hs=>(List.mem_cons.1 hs).elim (fun e=>e ▸ h) (h1 s),by simp,fun c hc Sy=> ?_⟩
   rcases h2 with rfl|⟨b,v',rfl,hnb⟩
   ·cases hc
   ·have aC:b∈l:=by rw [e];simp
    rcases List.mem_cons.1 hc with rfl|qS
    ·exact hnb Sy
    ·have hbc:R b c:=by
      rw [e] at hp2
      have:=(List.pairwise_append.1 hp2).2.1
      exact (List.pairwise_cons.1 this).1 c qS
     exact hnb (hb t b c (by simp) (by simp [aC]) (by rw [e];simp [qS]) h Sy (hp1 b aC) hbc)
  ·obtain ⟨a,ha,hPa⟩:=hex
   have JC:a∈l:=(List.mem_cons.1 ha).elim (fun e=>absurd (e ▸ hPa) h) id
   obtain ⟨u,X,v,e,h1,h2,h3,h4⟩:=xI hp2 (fun a b c ha hb' hc=>hb a b c (by simp [ha]) (by simp [hb']) (by simp [hc])) ⟨a,JC,hPa⟩
   exact ⟨t::u,X,v,by simp [e],fun s hs=>(List.mem_cons.1 hs).elim (fun e=>e ▸ h) (h1 s),h2,h3,h4⟩
theorem xJ {p:Pl} {k:Nat} {y:Int} (h:y∈p.ord.take k):∃j,j<k∧j<p.ord.length∧bJ p j=y:=by
 obtain ⟨j,hj,e⟩:=List.mem_iff_getElem.1 h
 simp only [List.length_take] at hj
 refine ⟨j,by omega,by omega, ?_⟩
 rw [bJ,List.getD_eq_getElem?_getD,List.getElem?_eq_getElem (by omega),Option.getD_some, ← e,List.getElem_take]
theorem EV {p:Pl} {k j:Nat} (h1:j<k) (h2:j<p.ord.length):bJ p j∈p.ord.take k:=by
 rw [bJ,List.getD_eq_getElem?_getD,List.getElem?_eq_getElem h2,Option.getD_some]
 exact List.mem_iff_getElem.2 ⟨j,by simp;omega,by simp⟩
theorem xK {g:Gr} {p:Pl} (hp:cH g p) {k:Nat} (hk:k<g.n.toNat):bJ p k∉p.ord.take k:=fun h=>by
 obtain ⟨j,h1,h2,h3⟩:=xJ h
 have:=Db hp (i:=j) (j:=k) (by omega) hk h3
 omega
theorem Cl {g:Gr} {p:Pl} (hp:cH g p) {k:Nat} (hk:k<g.n.toNat):p.ord.take (k+1)=p.ord.take k++ [bJ p k]:=by
 rw [List.take_add_one,List.getElem?_eq_getElem (by rw [dx hp];exact hk),bJ,List.getD_eq_getElem?_getD,List.getElem?_eq_getElem (by rw [dx hp];exact hk)]
 rfl
section
variable {g:Gr} {p:Pl}
theorem lV (hm:aX g=true) {f:Fr} (hi:An g f) {k:Nat} (ez:f.pl=p.ord.take k) {t:It} (ht:t∈gq f.row):rS g p k t.1∧kX g t.1=t.2.1∧mB g t.1=t.2.2:=by
 obtain ⟨h1,h2⟩:=fM.1 ht
 rcases hi.it t h1 with h|⟨_,g2,g3,g4⟩
 ·omega
 ·refine ⟨⟨h2,g2, ?_, ?_⟩,g3.symm,g4.symm⟩
  ·rw [← ez];unfold kX;rw [← g3];exact hi.tail t h1 h2
  ·rw [← ez];unfold mB;rw [← g4];exact hi.head t h1 h2
theorem vE (hc:(dD g).1=0) (hp:cH g p) {L:Nat→Int→Int→Prop} (hL:Ds g p L):∀ {k:Nat},k≤g.n.toNat→
 (∀j,j<k→Ar g p j=true)∧((gq (fK g p k).row).Pairwise fun s t=>L k s.1 t.1)∧∀e,rS g p k e→∃t∈(fK g p k).row,t.1=e
 |0,_=>⟨fun j hj=>by omega,by simp [fK,gq],fun e he=>by have:=he.low;simp at this⟩
 |k+1,hk=>by
  have hm:=bW hc
  obtain ⟨ih1,ih2,ih3⟩:=vE hc hp hL (k:=k) (by omega)
  obtain ⟨hi,ez,_⟩:=lT hm hp (k:=k) (by omega) ih1
  obtain ⟨x0,x1⟩:=dZ hp (k:=k) (by omega)
  have hnew:=xK hp (k:=k) (by omega)
  have hnext:=Cl hp (k:=k) (by omega)
  have hpx:=eu hp x0 x1
  have hout:∀i∈kU p (bJ p k),(0≤i∧i<g.es.length)∧kX g i=bJ p k:=fun i hi=>dy.1 (hpx.mem_iff.1 hi)
  have DH:=hL.outs k (by omega)
  have JY:fK g p (k+1)=(aN g (fK g p k) (bJ p k) (kU p (bJ p k))).2:=rfl
  have hab:=xz (g:=g) (x:=bJ p k) (o:=kU p (bJ p k)) fun i hi=>(hout i hi).1.1
  have fin:∀a X c:List It,Ar g p k=true→gq (fK g p k).row=a++X++c→gK (bJ p k) a→gK (bJ p k) c→wm (bJ p k) X→(X≠ []∨a++c= [])→gq (fK g p (k+1)).row=a++gq (bz g (bJ p k) (kU p (bJ p k)))++c→
   (∀j,j<k+1→Ar g p j=true)∧((gq (fK g p (k+1)).row).Pairwise fun s t=>L (k+1) s.1 t.1)∧∀e,rS g p (k+1) e→∃t∈(fK g p (k+1)).row,t.1=e:=by
   intro a X c hR e ha qS hX EW hs
   refine ⟨fun j hj=> ?_, ?_,fun q hq=> ?_⟩
   ·by_cases h:j=k
    ·subst h;exact hR
    ·exact ih1 j (by omega)
   ·have hma:∀t∈a,t∈gq (fK g p k).row:=fun t ht=>by rw [e];simp [ht]
    have OS:∀t∈X,t∈gq (fK g p k).row:=fun t ht=>by rw [e];simp [ht]
    have H8:∀t∈c,t∈gq (fK g p k).row:=fun t ht=>by rw [e];simp [ht]
    have qD:=fun t ht=>lV (p:=p) hm hi ez (t:=t) ht
    rw [e,List.pairwise_append,List.pairwise_append] at ih2
    obtain ⟨⟨pa,pX,Uw⟩,pc,N2⟩:=ih2
    have hne:∀t,t∈a∨t∈c→mB g t.1≠bJ p k:=fun t ht=>by
     rcases ht with ht|ht
     ·rw [(qD t (hma t ht)).2.2];exact ha t ht
     ·rw [(qD t (H8 t ht)).2.2];exact qS t ht
    rw [hs,hab,List.pairwise_append,List.pairwise_append]
    refine ⟨⟨?_, ?_, ?_⟩, ?_, ?_⟩
    ·exact pa.imp_of_mem fun {s t} hs' ht' h=>hL.keep k (by omega) _ _ (qD s (hma s hs')).1 (qD t (hma t ht')).1 (hne s (.inl hs')) (hne t (.inl ht')) h
    ·rw [List.pairwise_map];exact DH
    ·intro s hs' t ht'
     obtain ⟨i,hi',rfl⟩:=List.mem_map.1 ht'
     rcases EW with EW|h0
     ·obtain ⟨y,Y,rfl⟩:∃y Y,X=y::Y:=by
       cases X with
       |nil=>exact absurd rfl EW
       |cons y Y=>exact ⟨y,Y,rfl⟩
      exact hL.left k (by omega) s.1 y.1 i (qD s (hma s hs')).1 (qD y (OS y (by simp))).1 (hne s (.inl hs')) (by rw [(qD y (OS y (by simp))).2.2];exact hX y (by simp)) hi' (Uw s hs' y (by simp))
     ·rw [(List.append_eq_nil_iff.1 h0).1] at hs';cases hs'
    ·exact pc.imp_of_mem fun {s t} hs' ht' h=>hL.keep k (by omega) _ _ (qD s (H8 s hs')).1 (qD t (H8 t ht')).1 (hne s (.inr hs')) (hne t (.inr ht')) h
    ·intro s hs' t ht'
     rcases List.mem_append.1 hs' with hs1|hs1
     ·exact hL.keep k (by omega) _ _ (qD s (hma s hs1)).1 (qD t (H8 t ht')).1 (hne s (.inl hs1)) (hne t (.inr ht')) (N2 s (by simp [hs1]) t ht')
     ·obtain ⟨i,hi',rfl⟩:=List.mem_map.1 hs1
      rcases EW with EW|h0
      ·obtain ⟨y,Y,rfl⟩:∃y Y,X=y::Y:=by
        cases X with
        |nil=>exact absurd rfl EW
        |cons y Y=>exact ⟨y,Y,rfl⟩
       exact hL.right k (by omega) t.1 y.1 i (qD t (H8 t ht')).1 (qD y (OS y (by simp))).1 (hne t (.inr ht')) (by rw [(qD y (OS y (by simp))).2.2];exact hX y (by simp)) hi' (N2 y (by simp) t ht')
      ·rw [(List.append_eq_nil_iff.1 h0).2] at ht';cases ht'
   ·have A8:∃t∈gq (fK g p (k+1)).row,t.1=q:=by
     have hl:=hq.low
     rw [hnext,List.mem_append,List.mem_singleton] at hl
     have ht:=hq.top
     rw [hnext,List.mem_append,List.mem_singleton] at ht
     rw [hs]
     rcases hl with hl|hl
     ·obtain ⟨t,ht1,ht2⟩:=ih3 q ⟨hq.e0,hq.e1,hl,fun h=>ht (.inl h)⟩
      have hte:t∈gq (fK g p k).row:=fM.2 ⟨ht1,by rw [ht2];exact hq.e0⟩
      have hh:=(lV (p:=p) hm hi ez hte).2.2
      have iR:=hte
      rw [e,List.mem_append,List.mem_append] at iR
      rcases iR with (h1|h1)|h1
      ·exact ⟨t,by simp [h1],ht2⟩
      ·exact absurd (by rw [← ht2,hh];exact hX t h1) fun h=>ht (.inr h)
      ·exact ⟨t,by simp [h1],ht2⟩
     ·refine ⟨qv g (bJ p k) q, ?_,rfl⟩
      rw [hab,List.mem_append,List.mem_append]
      exact .inl (.inr (List.mem_map.2 ⟨q,hpx.mem_iff.2 (dy.2 ⟨⟨hq.e0,hq.e1⟩,hl⟩),rfl⟩))
    obtain ⟨t,h1,h2⟩:=A8
    exact ⟨t,(fM.1 h1).1,h2⟩
  by_cases hn:bM g (bJ p k)=0
  ·have hno:=ij hm hi.toiO x0 hn
   have hR:Ar g p k=true:=by
    show aK g (fK g p k) (bJ p k)=true
    unfold aK
    rw [if_neg (by rintro (h|h|h);omega;omega;exact hnew (ez ▸ h)),if_pos hn]
   have hrow:(fK g p k).row= []:=by
    rcases hi.src with h|⟨s,hs,hs0⟩
    ·exact h.2
    ·have:=tC hc (hi.uV s hs) ⟨x0,x1⟩ hs0 hn
     exact absurd (by rw [← ez, ← this];exact hs) hnew
   refine fin [] [] [] hR (by rw [hrow];rfl) (fun t ht=>by cases ht) (fun t ht=>by cases ht) (fun t ht=>by cases ht) (.inr rfl) ?_
   rw [JY,jg _ hno,hrow]
   simp
  ·have hex:∃e,e∈aZ (·.2) g.es g.es.length (bJ p k):=by
    cases h:aZ (·.2) g.es g.es.length (bJ p k) with
    |nil=>exact absurd (by unfold bM;rw [h];rfl) hn
    |cons e l=>exact ⟨e,by simp⟩
   have N3:∀e,e∈aZ (·.2) g.es g.es.length (bJ p k)→∃t∈gq (fK g p k).row,t.1=e∧t.2.2=bJ p k:=fun e he=>by
    obtain ⟨⟨e0,e1⟩,e2⟩:=dy.1 he
    obtain ⟨t,ht1,ht2⟩:=ih3 e ⟨e0,e1,hL.up e e0 e1 k (by omega) e2.symm,by rw [show mB g e=bJ p k from e2];exact hnew⟩
    have hte:t∈gq (fK g p k).row:=fM.2 ⟨ht1,by rw [ht2];exact e0⟩
    exact ⟨t,hte,ht2,by rw [← (lV (p:=p) hm hi ez hte).2.2,ht2];exact e2⟩
   obtain ⟨e,he⟩:=hex
   obtain ⟨t0,Rt,_,Ru⟩:=N3 e he
   obtain ⟨a,X,c,hE,ha,hX,nX,qS⟩:=xI (P:=fun t:It=>t.2.2=bJ p k) ih2 (fun a b c ma mb mc ea ec r1 r2=>by
    have ca:=lV (p:=p) hm hi ez ma
    have cb:=lV (p:=p) hm hi ez mb
    have cc:=lV (p:=p) hm hi ez mc
    rw [← cb.2.2]
    exact hL.Uv k (by omega) a.1 b.1 c.1 ca.1 cb.1 cc.1 (by rw [ca.2.2];exact ea) (by rw [cc.2.2];exact ec) r1 r2) ⟨t0,Rt,Ru⟩
   have hlen:X.length=bM g (bJ p k):=by
    have fA:((gq (fK g p k).row).map (·.1)).Nodup:=by
     rw [List.Nodup,List.pairwise_map]
     exact (hi.once.filter _).imp_of_mem fun {s t} hs ht h=>h (fM.1 hs).2
    have Rv:(X.map (·.1)).Nodup:=by
     rw [hE,List.map_append,List.map_append] at fA
     exact (List.nodup_append.1 (List.nodup_append.1 fA).1).2.1
    have JT:(X.map (·.1)).Perm (aZ (·.2) g.es g.es.length (bJ p k)):=by
     refine (List.perm_ext_iff_of_nodup Rv gj).2 fun e=>⟨fun h=> ?_,fun h=> ?_⟩
     ·obtain ⟨t,ht,rfl⟩:=List.mem_map.1 h
      have hte:t∈gq (fK g p k).row:=by rw [hE];simp [ht]
      have ct:=lV (p:=p) hm hi ez hte
      exact dy.2 ⟨⟨ct.1.e0,ct.1.e1⟩,(show mB g t.1=_ by rw [ct.2.2];exact hX t ht)⟩
     ·obtain ⟨t,ht,h1,h2⟩:=N3 e h
      rw [hE,List.mem_append,List.mem_append] at ht
      rcases ht with (h3|h3)|h3
      ·exact absurd h2 (ha t h3)
      ·exact List.mem_map.2 ⟨t,h3,h1⟩
      ·exact absurd h2 (qS t h3)
    have:=JT.length_eq
    rw [List.length_map] at this
    exact this
   have hR:Ar g p k=true:=AA hm hi.toiO x0 x1 (by rw [ez];exact hnew) hE ha qS hX nX hlen
   exact fin a X c hR hE ha qS hX (.inl nX) (by rw [JY];exact Dk hm hi.toiO hR hn hE ha qS hX nX _)
theorem EX (hc:(dD g).1=0) (hp:cH g p) {L:Nat→Int→Int→Prop} (hL:Ds g p L):dF g p:=
 ⟨hc,hp,fun k hk=>(vE hc hp hL (k:=k+1) (by omega)).1 k (by omega)⟩
end
end Go.Ab
end
section
namespace Go.Ab
open Go.Proofs
attribute [local congr] ACall.congr gd.congr Nx.congr
set_option maxRecDepth 20000
set_option maxHeartbeats 8000000
def OU (g:Gr) (st:List Int) (x:Nat) (l:List Int):Nat→List Int
 |0=>st
 |j+1=>(OU g st x l j).set x (max ((OU g st x l j).getD x 0) ((OU g st x l j).getD (kX g (l.getD j 0)).toNat 0+1))
def Sz (g:Gr):Nat→List Int
 |0=>List.replicate g.n.toNat 0
 |k+1=>OU g (Sz g k) ((IX g).getD k 0).toNat (aZ (fun e=>e.2) g.es g.es.length ((IX g).getD k 0)) (aZ (fun e=>e.2) g.es g.es.length ((IX g).getD k 0)).length
def SA (g:Gr):List Int:=Sz g (IX g).length
end Go.Ab
end
section
namespace Go.Ab
open Go.Proofs
set_option maxRecDepth 10000
set_option linter.unusedSectionVars false
structure Ux (g:Gr) (st:List Int) (D:List Int):Prop where
 out:∀v:Nat,(v:Int)∉D→st.getD v 0=0
 up:∀i,i<g.es.length→hd g i∈D→st.getD (tl g i).toNat 0+1≤st.getD (hd g i).toNat 0
 why:∀v:Nat,(v:Int)∈D→st.getD v 0=0∨∃i,i<g.es.length∧hd g i=v∧st.getD v 0=st.getD (tl g i).toNat 0+1
end Go.Ab
end
section
namespace Go.Ab
set_option maxRecDepth 10000
set_option linter.unusedSectionVars false
variable {P:PS}
structure PS.Hi (P:PS) (R:Int→Int) (f0 f1:Int) (hi:Int→Int):Prop where
 mid:∀ {x u a b v},P.ins x=u++a::b::v→hi (R a)=x
 h0:hi f0=P.NM
 h1:hi f1=P.NM
def PS.VU (P:PS) (a:Int):Prop:=∃x u b v,P.outs x=u++a::b::v
section
variable (h:P.Ok) {L R:Int→Int} {f0 f1:Int} {low:Int→Int} (F:P.jT L R f0 f1 low)
include h F
theorem PS.Hi.Fg {hi:Int→Int} (H:P.Hi R f0 f1 hi):P.Fg.Hi L f1 f0 hi:=
 {mid:=fun {x u a b v} e=>by
   have e:=jh (show (P.ins x).reverse=_ from e)
   rw [← F.Cb e];exact H.mid e
  h0:=H.h1
  h1:=H.h0}
variable {L' R':Int→Int} {Uy Uz:Int} {low':Int→Int} (F':P.jT L' R' Uy Uz low')
include F'
end
section
variable (h:P.Ok) {L R:Int→Int} {f0 f1:Int} {low:Int→Int} (F:P.jT L R f0 f1 low)
include h F
variable {hi:Int→Int} (H:P.Hi R f0 f1 hi)
include H
end
def Rx (t h:Int→Int) (l:List Int) (x:Int):Int:=match l.find? (fun i=>decide (t i=x)) with
 |some i=>h i
 |none=>x
def Ry (t h:Int→Int) (l:List Int) (x:Int):Nat→Int
 |0=>x
 |k+1=>Rx t h l (Ry t h l x k)
section
variable (h:P.Ok) {L R:Int→Int} {f0 f1:Int} {low:Int→Int} (F:P.jT L R f0 f1 low) {hi:Int→Int} (H:P.Hi R f0 f1 hi)
include h F H
end
end Go.Ab
end
section
namespace Go.Ab
open Go.Proofs
set_option maxRecDepth 10000
set_option linter.unusedSectionVars false
section
variable (g:Gr) (p:Pl)
def cK:Nat→Nat
 |0=>1
 |k+1=>cK k+((kU p (bJ p k)).length - 1)
def OV (e:Int):Nat:=(kU p (kX g e)).findIdx (fun i=>decide (i=e))
def AK (x:Int):Int:=(jL g p x).headD 0
def N4 (x:Int):Int:=(jL g p x).getLastD 0
def LK:Nat→Int→Int
 |0,_=>0
 |k+1,e=>if kX g e=bJ p k then (if OV g p e=0 then (if k=0 then 0 else LK k (AK g p (bJ p k))) else (cK p k:Int)+OV g p e - 1) else LK k e
def RK (r:Int):Nat→Int→Int
 |0,_=>0
 |k+1,e=>if kX g e=bJ p k then (if OV g p e+1<(kU p (bJ p k)).length then (cK p k:Int)+OV g p e else (if k=0 then r else RK r k (N4 g p (bJ p k)))) else RK r k e
def Ls:Nat→List Int
 |0=> [bJ p 0]
 |k+1=>Ls k++List.replicate ((kU p (bJ p k)).length - 1) (bJ p k)
end
section
variable {g:Gr} {p:Pl}
variable (h:dF g p)
include h
def WK (g:Gr) (p:Pl) (k:Nat):List Int:=(gq (fK g p k).row).map (·.1)
end
end Go.Ab
end
section
namespace Go.Ab
open Go.Proofs
attribute [local congr] ACall.congr gd.congr Nx.congr
set_option maxRecDepth 10000
set_option maxHeartbeats 8000000
def Dt (A o:List Int) (f:Nat→Int):Nat→List Int
 |0=>A
 |j+1=>(Dt A o f j).set (o.getD j 0).toNat (f j)
def SB (A o:List Int) (left:Int) (c:Nat) (j:Nat):List Int:=Dt A o (fun j=>if j=0 then left else (c:Int)+j - 1) j
def SC (A o:List Int) (right:Int) (c:Nat) (j:Nat):List Int:=Dt A o (fun j=>if j+1<o.length then (c:Int)+j else right) j
def JZ (c k:Nat):List Int:=(List.range k).map fun i:Nat=>((c+i:Nat):Int)
def VV (left:Int) (c d j:Nat):Int:=if min j (d - 1)=0 then left else (c:Int)+(min j (d - 1):Nat) - 1
def VW (ed gp:D) (A B lo hi:List Int):List (Nat × AObj):= [(10000, .box [.d ed, .d gp, .ref 10001, .ref 10002, .ref 10003, .ref 10004]),(10001, .own 3 1 (A.map rI)),(10002, .own 3 1 (B.map rI)),(10003, .tip 3 1 (lo.map rI)),(10004, .own 3 1 (hi.map rI))]
def VX (ed gp:D) (A B lo hi:List Int):List (Nat × AObj):= [(10000, .box [.d ed, .d gp, .ref 10001, .ref 10002, .ref 10005, .ref 10006]),(10001, .own 3 1 (A.map rI)),(10002, .own 3 1 (B.map rI)),(10005, .tip 3 1 (lo.map rI)),(10006, .own 3 1 (hi.map rI))]
end Go.Ab
end
section
namespace Go.Ab
open Go.Proofs
attribute [local congr] ACall.congr gd.congr Nx.congr
set_option maxRecDepth 10000
set_option maxHeartbeats 8000000
def N5 (A fs:List Int) (x:Int) (j:Nat):List Int:=Dt A fs (fun _=>x) j
end Go.Ab
end
section
namespace Go.Ab
open Go.Proofs
set_option maxRecDepth 10000
set_option linter.unusedSectionVars false
def arr (f:Int→Int) (m:Nat):List Int:=(List.range m).map fun i:Nat=>f (i:Int)
section
variable {g:Gr} {p:Pl} (h:dF g p)
include h
end
section
variable (g:Gr) (p:Pl)
def Cm:Nat→List Int
 |0=>kU p (bJ p 0)
 |j+1=>if kU p (bJ p (j+1))= [] then Cm j else (Cm j).take (gw (Cm j) (AK g p (bJ p (j+1)))).toNat++kU p (bJ p (j+1))++(Cm j).drop ((gw (Cm j) (AK g p (bJ p (j+1)))).toNat+(jL g p (bJ p (j+1))).length)
def N6:Nat→List Int
 |0=> [0]++JZ 1 ((kU p (bJ p 0)).length - 1)++ [-1]
 |j+1=>(N6 j).take ((gw (Cm g p j) (AK g p (bJ p (j+1)))).toNat+1)++JZ (cK p (j+1)) ((kU p (bJ p (j+1))).length - 1)++(N6 j).drop ((gw (Cm g p j) (AK g p (bJ p (j+1)))).toNat+(jL g p (bJ p (j+1))).length)
def N7 (k:Nat):List Int:=((jL g p (bJ p k)).dropLast).map (RK g p (-1) k)
def Rz:Nat→List Int
 |0=> [bJ p (g.n.toNat - 1)]
 |k+1=>N5 (Rz k) (N7 g p k) (bJ p k) (N7 g p k).length++List.replicate ((kU p (bJ p k)).length - 1) 0
end
section
variable {g:Gr} {p:Pl}
variable (h:dF g p)
include h
end
end Go.Ab
end
section
namespace Go.Ab
open Go.Proofs
attribute [local congr] ACall.congr gd.congr Nx.congr
set_option maxRecDepth 10000
set_option maxHeartbeats 8000000
def swapT (l:List It) (k:Nat):List It:=(List.range l.length).map fun p=>if p<k∨l.length - 1<p+k then l.getD (l.length - 1 - p) (0,0,0) else l.getD p (0,0,0)
def SD (rs:List Int) (l:List It):Int:=match l.find? (fun t=>decide (t.2.2∈rs)) with
 |some t=>t.2.2
 |none=>rs.headD (-1)
end Go.Ab
end
section
namespace Go.Ab
open Go.Proofs
attribute [local congr] ACall.congr gd.congr Nx.congr
set_option maxRecDepth 10000
set_option maxHeartbeats 8000000
def VY (b:Bool) (g:Gr) (p:Pl):List Int × List Int × Int:=
 if (gE b g p).2.1=0∧H9 g=true then (Di g p false g.n.toNat,Di g p true g.n.toNat,0) else ([], [],1)
end Go.Ab
end
section
namespace Go.Ab
open Go.Proofs
attribute [local congr] ACall.congr gd.congr Nx.congr
set_option maxRecDepth 10000
set_option maxHeartbeats 8000000
theorem Cn {b:Bool} {g:Gr} {p:Pl} (hr:b=true↔(dD g).1=0∧cH g p) (h:dF g p):gE b g p=((iq g p g.n.toNat,xx g p),(0,0)):=by
 obtain rfl:b=true:=hr.2 ⟨h.1,h.2.1⟩
 unfold gE
 rw [if_neg (by simp),jC.2 h.2.2]
 rfl
end Go.Ab
end
section
namespace Go.Ab
open Go.Proofs
attribute [local congr] ACall.congr gd.congr Nx.congr
set_option maxRecDepth 60000
set_option maxHeartbeats 8000000
structure Fc where
 L:List Int
 R:List Int
 lo:List Int
 hi:List Int
def RA (g:Gr) (p:Pl) (f:Int):Int:=if f= -1 then (cK p g.n.toNat:Int) else f
def UA (g:Gr) (p:Pl):Fc:=⟨arr (LK g p g.n.toNat) g.es.length,(arr (RK g p (-1) g.n.toNat) g.es.length).map (RA g p),Ls p g.n.toNat++ [bJ p 0],Rz g p g.n.toNat++ [bJ p (g.n.toNat - 1)]⟩
def UB:Fc:=⟨[], [], [], []⟩
def VZ (b:Bool) (g:Gr) (p:Pl):Fc × Int:=if ((gE b g p).2.1=0∧H9 g=true)∧0<g.es.length then (UA g p,0) else (UB,1)
def V3 (f:Fc):AV:= .agg [.d (sI f.L), .d (sI f.R), .d (sI f.lo), .d (sI f.hi)]
def UC (l:List Int) (f:Int→Int) (j:Nat):List Int:=(l.take j).map f++l.drop j
end Go.Ab
end
section
namespace Go.Ab
open Go.Proofs
set_option maxRecDepth 10000
set_option linter.unusedSectionVars false
section
variable (g:Gr) (p:Pl)
def cN:Nat:=cK p g.n.toNat
def Lf (e:Int):Int:=LK g p g.n.toNat e
def Rf (e:Int):Int:=RK g p (cN g p) g.n.toNat e
def UD:List Int:=Ls p g.n.toNat++ [bJ p 0]
def UE:List Int:=Rz g p g.n.toNat++ [bJ p (g.n.toNat - 1)]
def V4 (f:Int):Int:=(UD g p).getD f.toNat 0
def V5 (f:Int):Int:=(UE g p).getD f.toNat 0
end
section
variable {g:Gr} {p:Pl}
variable (h:dF g p) (hI:H9 g=true)
include h hI
end
end Go.Ab
end
section
namespace Go.Ab
open Go.Proofs
set_option maxRecDepth 10000
def HE (q:Nat→Bool):Nat→Nat
 |0=>0
 |n+1=>HE q n ||| (if q n then 2 ^ n else 0)
theorem qH {q:Nat→Bool} {y:Nat} :∀ {n:Nat},(HE q n).testBit y=(decide (y<n)&&q y)
 |0=>by simp [HE]
 |n+1=>by
  rw [HE,Nat.testBit_or,qH]
  by_cases h:y=n
  ·subst h
   cases hq:q y<;>simp [Nat.testBit_two_pow_self]
  ·have h2:(if q n then 2 ^ n else 0).testBit y=false:=by
    split
    ·rw [Nat.testBit_two_pow];exact decide_eq_false fun e=>h e.symm
    ·simp
   rw [h2,Bool.or_false]
   congr 1
   rw [decide_eq_decide];omega
inductive Fj (g:Gr) (both:Bool) (c:Nat→Bool) (x:Nat):Nat→Prop
 |refl:Fj g both c x x
 |fwd {i:Nat} :i<g.es.length→c i=true→Fj g both c x (tl g i).toNat→Fj g both c x (hd g i).toNat
 |SE {i:Nat} :i<g.es.length→c i=true→both=true→Fj g both c x (hd g i).toNat→Fj g both c x (tl g i).toNat
theorem Fj.trans {g:Gr} {both:Bool} {c:Nat→Bool} {x y z:Nat} (h1:Fj g both c x y) (h2:Fj g both c y z):Fj g both c x z:=by
 induction h2 with
 |refl=>exact h1
 |fwd a b _ ih=>exact .fwd a b ih
 |SE a b d _ ih=>exact .SE a b d ih
open Classical in
noncomputable def RB (g:Gr) (both:Bool) (c:Nat→Bool) (x:Nat):Nat:=HE (fun y=>decide (Fj g both c x y)) g.n.toNat
noncomputable def UF (g:Gr) (both:Bool) (c:Nat→Bool):List Nat:=(List.range g.n.toNat).map (RB g both c)
open Classical in
theorem OW {g:Gr} {both:Bool} {c:Nat→Bool} {x y:Nat} :(RB g both c x).testBit y=true↔y<g.n.toNat∧Fj g both c x y:=by
 unfold RB
 rw [qH]
 simp
def N8 (g:Gr) (both:Bool) (c:Nat→Bool) (a:List Nat):Nat→List Nat × Bool
 |0=>(a,false)
 |k+1=>
  let s:=N8 g both c a k
  if c k=true then
   let t:=s.1.getD (tl g k).toNat 0 ||| s.1.getD (hd g k).toNat 0
   let h:=if both=true then t else s.1.getD (hd g k).toNat 0
   ((s.1.set (tl g k).toNat t).set (hd g k).toNat h,s.2||(decide (t≠s.1.getD (tl g k).toNat 0)||decide (h≠s.1.getD (hd g k).toNat 0)))
  else s
structure SF (g:Gr) (both:Bool) (c:Nat→Bool) (a:List Nat):Prop where
 len:a.length=g.n.toNat
 own:∀x,x<g.n.toNat→(a.getD x 0).testBit x=true
 snd:∀x y,x<g.n.toNat→(a.getD x 0).testBit y=true→y<g.n.toNat∧Fj g both c x y
theorem SF.lt {g:Gr} {both:Bool} {c:Nat→Bool} {a:List Nat} (h:SF g both c a) (hn:g.n.toNat≤64) (x:Nat):a.getD x 0<18446744073709551616:=by
 by_cases hx:x<g.n.toNat
 ·have:a.getD x 0<2 ^ 64:=Nat.lt_pow_two_of_testBit _ fun i hi=>by
   cases hb:(a.getD x 0).testBit i with
   |false=>rfl
   |true=>have:=(h.snd x i hx hb).1;omega
  simpa using this
 ·rw [List.getD_eq_getElem?_getD,List.getElem?_eq_none (by rw [h.len];omega)];simp
def UG (a:List Nat):Nat:=a.foldr (· + ·) 0
end Go.Ab
end
section
namespace Go.Ab
open Go.Proofs
attribute [local congr] ACall.congr gd.congr Nx.congr
set_option maxRecDepth 20000
set_option maxHeartbeats 8000000
def rU (n:Nat):List D:= [.sc (.int .u64 (n:Int))]
def eU (n:Nat):AV:= .d (.sc (.int .u64 (n:Int)))
def sU (l:List Nat):D:= .sl 1 (l.map rU)
theorem getD_rU (ps:List Nat) (i:Nat):(ps.map rU).getD i [.sc (.int .u64 0)]= [.sc (.int .u64 ((ps.getD i 0:Nat):Int))]:=by
 rw [List.getD_eq_getElem?_getD,List.getElem?_map,List.getD_eq_getElem?_getD]
 cases ps[i]? <;>rfl
attribute [go_sem] eU sU getD_rU InU
end Go.Ab
end
section
namespace Go.Ab
open Go.Proofs
attribute [local congr] ACall.congr gd.congr Nx.congr
set_option maxRecDepth 20000
set_option maxHeartbeats 8000000
def RC (k:Nat):List Nat:=(List.range k).map fun x=>2 ^ x
def SG (g:Gr):List Nat:=if aX g=true then RC g.n.toNat else []
theorem xg {l:List Nat} :∀r∈l.map rU,∀x∈r,∃v,x=D.sc v:=by
 intro r hr x hx
 obtain ⟨y,_,rfl⟩:=List.mem_map.1 hr
 simp only [rU,List.mem_singleton] at hx
 exact ⟨_,hx⟩
noncomputable def V6 (g:Gr):List Nat:=if aX g=true then UF g false (fun _=>true) else []
end Go.Ab
end
section
namespace Go.Ab
open Go.Proofs
set_option maxRecDepth 10000
set_option linter.unusedSectionVars false
def UH (s:Nat) (x:Int):Bool:=decide (0≤x)&&decide (x<64)&&s.testBit x.toNat
section
variable {P:PS} (h:P.Ok) {L R:Int→Int} {f0 f1:Int} {low:Int→Int} (F:P.jT L R f0 f1 low)
def UI (P:PS) (R:Int→Int) (f:Int):Nat→Nat
 |0=>0
 |j+1=>if R (P.sh j)=f then j+1 else UI P R f j
include h F
end
section
variable (g:Gr) (p:Pl)
def UJ:Gr:=⟨(cN g p:Int)+1,(List.range g.es.length).map fun i:Nat=>(Lf g p i,Rf g p i)⟩
end
section
variable {g:Gr} {p:Pl}
variable (h:dF g p) (hI:H9 g=true)
include h hI
end
end Go.Ab
end
section
namespace Go.Ab
open Go.Proofs
attribute [local congr] ACall.congr gd.congr Nx.congr
set_option maxRecDepth 10000
set_option maxHeartbeats 16000000
end Go.Ab
end
section
namespace Go.Ab
open Go.Proofs
attribute [local congr] ACall.congr gd.congr Nx.congr
set_option maxRecDepth 20000
set_option maxHeartbeats 8000000
end Go.Ab
end
section
namespace Go.Ab
open Go.Proofs
attribute [local congr] ACall.congr gd.congr Nx.congr
set_option maxRecDepth 20000
set_option maxHeartbeats 8000000
def V7 (f:Fc) (k:Nat):List Edge:=(List.range k).map fun i:Nat=>(f.L.getD i 0,f.R.getD i 0)
def UK (b:Bool) (g:Gr) (p:Pl):Bool:= !Rh g p&&H9 g&&decide ((gE b g p).2.1=0)&&decide (0<(g.es.length:Int))&&decide ((g.es.length:Int)≤60)
def g18:Gr:=⟨4, [(0,1),(1,3),(0,2),(2,3)]⟩
def V8:Pl:=⟨[0,1,2,3], [[0,2], [1], [3], []]⟩
end Go.Ab
end
section
namespace Go.Ab
open Go.Proofs
attribute [local congr] ACall.congr gd.congr Nx.congr
set_option maxRecDepth 20000
set_option maxHeartbeats 16000000
structure Br where
 y:List Int
 fr:List Int
 to:List Int
 x:List Int
def V9 (b:Br):AV:= .agg [.d (sI b.y), .d (sI b.fr), .d (sI b.to), .d (sI b.x)]
section
variable (g:Gr) (p:Pl)
def OX (f:Int):Int:=(SA (UJ g p)).getD f.toNat 0
def UL (e:Int):Int:=OX g p (Lf g p e)
def UM (l:List Int):Int:=if l= [] then 0 else OX g p (Lf g p (l.getD 0 0))
def toV (l:List Int):Int:=(if l= [] then OX g p (cN g p) else OX g p (Rf g p (l.getD (l.length - 1) 0))) - 1
def Wa:Br:=⟨SA g,p.outs.map (UM g p),p.outs.map (toV g p),arr (UL g p) g.es.length⟩
end
end Go.Ab
end
section
namespace Go.Ab
open Go.Proofs
attribute [local congr] ACall.congr gd.congr Nx.congr
set_option maxRecDepth 20000
set_option maxHeartbeats 16000000
def hasB (b:Br) (x:Nat) (q:Int):Bool:=decide (b.fr.getD x 0≤q)&&decide (q≤b.to.getD x 0)
def UN (b:Br) (x z:Nat):Bool:=decide (b.y.getD z 0=b.y.getD x 0)&&decide (b.fr.getD z 0≤b.to.getD x 0)&&decide (b.fr.getD x 0≤b.to.getD z 0)
def UO (b:Br) (x:Nat):Bool:=decide (b.fr.getD x 0≤b.to.getD x 0)&&(List.range x).all fun z=> !UN b x z
def Lt (b:Br):Bool:=(List.range b.y.length).all (UO b)
end Go.Ab
end
section
namespace Go.Ab
open Go.Proofs
attribute [local congr] ACall.congr gd.congr Nx.congr
set_option maxRecDepth 20000
set_option maxHeartbeats 32000000
def J1 (b:Br) (g:Gr):Bool:=decide ((b.y.length:Int)=g.n)&&decide ((b.fr.length:Int)=g.n)&&decide ((b.to.length:Int)=g.n)&&decide ((b.x.length:Int)=(g.es.length:Int))
def UP (b:Br) (lo hi q:Int) (x:Nat):Bool:=decide (lo<b.y.getD x 0)&&decide (b.y.getD x 0<hi)&&hasB b x q
def HF (b:Br) (s t:Nat) (q:Int):Bool:=decide (b.y.getD s 0<b.y.getD t 0)&&hasB b s q&&hasB b t q&&(List.range b.y.length).all fun x=> !UP b (b.y.getD s 0) (b.y.getD t 0) q x
def UQ (g:Gr) (b:Br) (i k:Nat):Bool:=decide (b.x.getD k 0=b.x.getD i 0)&&decide (b.y.getD (tl g i).toNat 0<b.y.getD (hd g k).toNat 0)&&decide (b.y.getD (tl g k).toNat 0<b.y.getD (hd g i).toNat 0)
def UR (g:Gr) (b:Br) (i:Nat):Bool:=HF b (tl g i).toNat (hd g i).toNat (b.x.getD i 0)&&(List.range i).all fun k=> !UQ g b i k
def N9 (g:Gr) (b:Br):Bool:=decide ((dD g).1=0)&&J1 b g&&Lt b&&(List.range g.es.length).all (UR g b)
end Go.Ab
end
section
namespace Go.Ab
open Go.Proofs
attribute [local congr] ACall.congr gd.congr Nx.congr
set_option maxRecDepth 20000
set_option maxHeartbeats 32000000
def US (b:Br) (x z:Nat):Bool:= !decide ((x:Int)=(z:Int))&&decide (b.y.getD x 0=b.y.getD z 0)&& !(decide (b.to.getD x 0<b.fr.getD z 0)||decide (b.to.getD z 0<b.fr.getD x 0))
def UT (b:Br) (n x:Nat):Bool:=decide (b.fr.getD x 0≤b.to.getD x 0)&&(List.range n).all fun z=> !US b x z
def UU (g:Gr) (b:Br) (i k:Nat):Bool:= !decide ((k:Int)=(i:Int))&&decide (b.x.getD k 0=b.x.getD i 0)&& !(decide (b.y.getD (hd g i).toNat 0≤b.y.getD (tl g k).toNat 0)||decide (b.y.getD (hd g k).toNat 0≤b.y.getD (tl g i).toNat 0))
def UW (g:Gr) (b:Br) (i:Nat):Bool:=HF b (tl g i).toNat (hd g i).toNat (b.x.getD i 0)&&(List.range g.es.length).all fun k=> !UU g b i k
def L8 (g:Gr) (b:Br):Bool:=decide ((dD g).1=0)&&J1 b g&&(List.range b.y.length).all (UT b b.y.length)&&(List.range g.es.length).all (UW g b)
end Go.Ab
end
section
namespace Go.Ab
open Go.Proofs
attribute [local congr] ACall.congr gd.congr Nx.congr
set_option maxRecDepth 20000
set_option maxHeartbeats 32000000
end Go.Ab
end
section
namespace Go.Ab
open Go.Proofs
attribute [local congr] ACall.congr gd.congr Nx.congr
set_option maxRecDepth 20000
set_option maxHeartbeats 8000000
def SH (g:Gr) (b:Br):Bool:=decide (80<(g.es.length:Int))||decide (70<(b.y.length:Int))||decide (70<(b.fr.length:Int))||decide (70<(b.to.length:Int))||decide (80<(b.x.length:Int))
end Go.Ab
end
section
namespace Go.Ab
open Go.Proofs
set_option maxRecDepth 10000
structure Lu (g:Gr) (b:Br):Prop where
 s9:(dD g).1=0
 ly:(b.y.length:Int)=g.n
 lf:(b.fr.length:Int)=g.n
 lt:(b.to.length:Int)=g.n
 lx:b.x.length=g.es.length
 Wb:∀v,v<b.y.length→b.fr.getD v 0≤b.to.getD v 0
 apart:∀v,v<b.y.length→∀z,z<v→¬(b.y.getD z 0=b.y.getD v 0∧b.fr.getD z 0≤b.to.getD v 0∧b.fr.getD v 0≤b.to.getD z 0)
 up:∀i,i<g.es.length→b.y.getD (tl g i).toNat 0<b.y.getD (hd g i).toNat 0∧(b.fr.getD (tl g i).toNat 0≤b.x.getD i 0∧b.x.getD i 0≤b.to.getD (tl g i).toNat 0)∧(b.fr.getD (hd g i).toNat 0≤b.x.getD i 0∧b.x.getD i 0≤b.to.getD (hd g i).toNat 0)
 clear:∀i,i<g.es.length→∀v,v<b.y.length→¬(b.y.getD (tl g i).toNat 0<b.y.getD v 0∧b.y.getD v 0<b.y.getD (hd g i).toNat 0∧b.fr.getD v 0≤b.x.getD i 0∧b.x.getD i 0≤b.to.getD v 0)
 SI:∀i,i<g.es.length→∀k,k<i→¬(b.x.getD k 0=b.x.getD i 0∧b.y.getD (tl g i).toNat 0<b.y.getD (hd g k).toNat 0∧b.y.getD (tl g k).toNat 0<b.y.getD (hd g i).toNat 0)
def SJ (b:Br):Br:=⟨b.y.map fun y=>3*y - 7,(List.range b.y.length).map fun v=>5*b.fr.getD v 0+1,(List.range b.y.length).map fun v=>5*b.to.getD v 0+2,b.x.map fun x=>5*x+1⟩
def SK (b:Br):Br:=⟨b.y,(List.range b.y.length).map fun v=> -b.to.getD v 0,(List.range b.y.length).map fun v=> -b.fr.getD v 0,b.x.map fun x=> -x⟩
end Go.Ab
end
section
namespace Go.Ab
open Go.Proofs
set_option maxRecDepth 10000
set_option linter.unusedSectionVars false
def yB (b:Br) (v:Int):Int:=b.y.getD v.toNat 0
def fB (b:Br) (v:Int):Int:=b.fr.getD v.toNat 0
def tB (b:Br) (v:Int):Int:=b.to.getD v.toNat 0
def xB (b:Br) (e:Int):Int:=b.x.getD e.toNat 0
def SL (b:Br) (u v:Int):Prop:=yB b u<yB b v∨yB b u=yB b v∧fB b u<fB b v
structure HG (g:Gr) (b:Br) (p:Pl):Prop where
 perm:p.ord.Perm (eY g.n.toNat)
 sort:p.ord.Pairwise (SL b)
 len:p.outs.length=g.n.toNat
 outs:∀x:Nat,x<g.n.toNat→(p.outs.getD x []).Perm (dG g x)
 AL:∀x:Nat,x<g.n.toNat→(p.outs.getD x []).Pairwise fun i k=>xB b i<xB b k
section
variable {g:Gr} {b:Br} {p:Pl} (h:Lu g b) (hp:HG g b p)
include hp
theorem HG.ok:cH g p:=⟨hp.len,hp.perm,hp.outs⟩
theorem HG.lt {j k:Nat} (hj:j<k) (hk:k<g.n.toNat):SL b (bJ p j) (bJ p k):=by
 have hl:=dx hp.ok
 have:=List.pairwise_iff_getElem.1 hp.sort j k (by omega) (by omega) hj
 rw [bJ,bJ,List.getD_eq_getElem?_getD,List.getD_eq_getElem?_getD,List.getElem?_eq_getElem (by omega),List.getElem?_eq_getElem (by omega)]
 exact this
include h
end
end Go.Ab
end
section
namespace Go.Ab
open Go.Proofs
attribute [local congr] ACall.congr gd.congr Nx.congr
set_option maxRecDepth 10000
set_option maxHeartbeats 8000000
def mo (l:List Int) (k:Nat):List Int:=(List.range l.length).map fun p=>if p<k∨l.length - 1<p+k then l.getD (l.length - 1 - p) 0 else l.getD p 0
theorem dz {l:List Int} {k:Nat} :(mo l k).length=l.length:=by simp [mo]
theorem kQ {l:List Int} {k p:Nat} (h:p<l.length):(mo l k)[p]? =some (if p<k∨l.length - 1<p+k then l.getD (l.length - 1 - p) 0 else l.getD p 0):=by
 simp [mo,List.getElem?_range h]
theorem vF {l:List Int} {k p:Nat} (h:p<l.length) (d:Int):(mo l k).getD p d=if p<k∨l.length - 1<p+k then l.getD (l.length - 1 - p) 0 else l.getD p 0:=by
 rw [List.getD_eq_getElem?_getD,kQ h];rfl
theorem Co {l:List Int} :mo l 0=l:=by
 refine List.ext_getElem? fun i=> ?_
 by_cases hi:i<l.length
 ·rw [kQ hi,if_neg (by omega),List.getD_eq_getElem?_getD,List.getElem?_eq_getElem hi];rfl
 ·rw [List.getElem?_eq_none (by rw [dz];omega),List.getElem?_eq_none (by omega)]
theorem EY {l:List Int} {k:Nat} (h:l.length≤2*k+1):mo l k=l.reverse:=by
 refine List.ext_getElem? fun i=> ?_
 by_cases hi:i<l.length
 ·rw [kQ hi,List.getElem?_reverse hi]
  split
  ·rw [List.getD_eq_getElem?_getD,List.getElem?_eq_getElem (by omega)];rfl
  ·have:i=l.length - 1 - i:=by omega
   rw [← this,List.getD_eq_getElem?_getD,List.getElem?_eq_getElem hi];rfl
 ·rw [List.getElem?_eq_none (by rw [dz];omega),List.getElem?_eq_none (by rw [List.length_reverse];omega)]
theorem Cp {l:List Int} {k:Nat} (h:k<l.length - 1 - k):((mo l k).set k ((mo l k).getD (l.length - 1 - k) 0)).set (l.length - 1 - k) ((mo l k).getD k 0)=mo l (k+1):=by
 refine List.ext_getElem? fun i=> ?_
 rw [List.getElem?_set,List.length_set,dz,List.getElem?_set,dz]
 by_cases hi:i<l.length
 ·rw [kQ hi,kQ hi,vF (by omega),vF (by omega)]
  by_cases h1:l.length - 1 - k=i
  ·rw [if_pos h1,if_pos (by omega),if_neg (by omega),if_pos (by omega)]
   congr 2;omega
  ·rw [if_neg h1]
   by_cases h2:k=i
   ·rw [if_pos h2,if_pos (by omega),if_neg (by omega),if_pos (by omega)]
    congr 2;omega
   ·rw [if_neg h2]
    congr 1
    by_cases h3:i<k∨l.length - 1<i+k
    ·rw [if_pos h3,if_pos (by omega)]
    ·rw [if_neg h3,if_neg (by omega)]
 ·rw [List.getElem?_eq_none (by rw [dz];omega),List.getElem?_eq_none (by rw [dz];omega),if_neg (by omega),if_neg (by omega)]
theorem wq (l:List Int) (hl:l.length≤1000000):Spec Tryz.prog 82 (Args [.ref 10000]) [(10000, .own 3 1 (l.map rI))] (.tup []) [(10000, .own 3 1 (l.reverse.map rI))]:=by
 (refine Spec.hd (C:=T.cfg [] []) (rs:= []) (T.ah _ _) Tryz.func82 rfl rfl Tryz.ntmps82 Tryz.results82 (by simp [AObj.isNest]) (by simp [AObj.isNest]) (by kernel_rfl) T.mixed fun X hX hP hC aB bK=> ?_)
 repeat' (first|refine Rn.p ?_|(with_reducible apply And.intro)|((first|(refine hK _ ?_;clear hK K)|with_reducible intro K hK|refine Rs.p ?_|((with_reducible first|apply oP|apply oQ);exact rfl));try simp only [go_sem,simprocAttr])|((with_reducible refine oD ?_ ?_);kernel_rfl)|((with_reducible intro h);try simp only [go_sem,simprocAttr] at h)|omega|intro h)
 refine ag (fun k:Nat=>2*k≤l.length+1) (fun k=>⟨[(0, .ref 10000),(2,eN k),(3,eN ((l.length:Int) - 1 - k))], [(10000, .own 3 1 ((mo l k).map rI))]⟩) (fun k=>l.length+1 - k) 0 (by omega) ?_ ?_
 ·refine Le.of ?_ ?_<;>simp [go_sem,simprocAttr,Co]
 rintro k hk
 rcases Nat.lt_or_ge (2*k+1) l.length with hlt|hge
 ·have hb:decide ((k:Int)<(l.length:Int) - 1 - (k:Int))=true:=decide_eq_true (by omega)
  have ht:((l.length:Int) - 1 - (k:Int)).toNat=l.length - 1 - k:=by omega
  repeat' (first|refine Rn.p ?_|(with_reducible apply And.intro)|((first|(refine hK _ ?_;clear hK K)|with_reducible intro K hK|refine Rs.p ?_|((with_reducible first|apply oP|apply oQ);exact rfl));try simp only [go_sem,simprocAttr,hb,ht,dz,yg,List.length_cons,List.length_nil,List.drop_succ_cons,List.drop_zero,List.drop_nil])|((with_reducible refine oD ?_ ?_);kernel_rfl)|((with_reducible intro h);try simp only [go_sem,simprocAttr,hb,ht,dz,yg,List.length_cons,List.length_nil,List.drop_succ_cons,List.drop_zero,List.drop_nil] at h)|omega|intro h)
  refine ⟨k+1,by omega, ?_,by omega⟩
  refine Le.of ?_ ?_<;>simp [go_sem,simprocAttr]
  all_goals (first|omega|skip)
  all_goals (rw [← Cp (by omega),List.map_set,List.map_set];simp only [List.getD_eq_getElem?_getD];try rfl)
 ·have hb:decide ((k:Int)<(l.length:Int) - 1 - (k:Int))=false:=decide_eq_false (by omega)
  repeat' (first|refine Rn.p ?_|(with_reducible apply And.intro)|((first|(refine hK _ ?_;clear hK K)|with_reducible intro K hK|refine Rs.p ?_|((with_reducible first|apply oP|apply oQ);exact rfl));try simp only [go_sem,simprocAttr,hb])|((with_reducible refine oD ?_ ?_);kernel_rfl)|((with_reducible intro h);try simp only [go_sem,simprocAttr,hb] at h)|omega|intro h)
  simp only [go_sem,simprocAttr,hb,EY hge]
theorem qI (ps:List Int) (hl:ps.length≤1000000):
 Spec Tryz.prog 44 (Args [.d (sI ps)]) [] (.ref 10000) [(10000, .own 3 1 (ps.map rI))]:=by
 (refine Spec.CT (C:=T.cfg [5,7] []) (rs:= [.t 2]) [(10000,7)] (T.ah _ _) Tryz.func44 rfl rfl Tryz.ntmps44 Tryz.results44 (by simp [AObj.isNest]) (by simp [AObj.isNest]) (by first|(simp [look];done)|(simp [asN];done)|(intro l hl;simp only [asN];repeat (rw [if_neg (fun e=>by subst e;simp [look] at hl)]))) (by first|(simp [look];done)|(simp [asN];done)|(intro l hl;simp only [asN];repeat (rw [if_neg (fun e=>by subst e;simp [look] at hl)]))) (by kernel_rfl) T.mixed fun X hX hP hC aB bK=> ?_)
 repeat' (first|(show cA _ .ret _ _;(try simp only [go_sem,simprocAttr]);refine gv hX 2 7 (.own 3 1 []) ?_ ?_ (by decide) ⟨3,1,by decide, .inl rfl⟩ ?_;(iterate 2 (focus (simp only [go_sem,simprocAttr];done)));simp only [go_sem,simprocAttr])|refine Rn.p ?_|(with_reducible apply And.intro)|((first|(refine hK _ ?_;clear hK K)|with_reducible intro K hK|refine Rs.p ?_|((with_reducible first|apply oP|apply oQ);exact rfl));try simp only [go_sem,simprocAttr])|((with_reducible refine oD ?_ ?_);kernel_rfl)|((with_reducible intro h);try simp only [go_sem,simprocAttr] at h)|omega|intro h)
 exact h.symm
end Go.Ab
end
section
namespace Go.Ab
open Go.Proofs
attribute [local congr] ACall.congr gd.congr Nx.congr
set_option maxRecDepth 20000
set_option maxHeartbeats 16000000
theorem AM (f:Edge→Int) (g:Gr) (hm:aX g=true) (x:Int) (hx:0≤x∧x<g.n):Spec Tryz.prog 128 (Args [.d (vw g), .d (.sl 1 (H6 f g)),eN x]) [] (.ref 10000) [(10000, .own 3 1 ((aZ f g.es g.es.length x).map rI))]:=by
 rw [aA]
 have hn:=bF hm
 have hl':(aZ f g.es g.es.length x).length≤1000000:=by have:=je (f:=f) (es:=g.es) (k:=g.es.length) (x:=x);omega
 have hv:=mP (f:=f) (g:=g) (x:=x.toNat) (by omega)
 have he:fD f g.es g.es.length x.toNat=aZ f g.es g.es.length x:=by rw [mQ,show ((x.toNat:Nat):Int)=x from by omega]
 rw [he] at hv
 have aC:decide (x<0)=false:=decide_eq_false (by omega)
 have aI:decide (g.n≤x)=false:=decide_eq_false (by omega)
 have RD:=qI (aZ f g.es g.es.length x) hl'
 (refine Spec.CT (C:=T.cfg [] []) (rs:= [.t 6]) [(10000,22)] (T.ah _ _) Tryz.func128 rfl rfl Tryz.ntmps128 Tryz.results128 (by simp [AObj.isNest]) (by simp [AObj.isNest]) (by first|(simp [look];done)|(simp [asN];done)|(intro l hl;simp only [asN];repeat (rw [if_neg (fun e=>by subst e;simp [look] at hl)]))) (by first|(simp [look];done)|(simp [asN];done)|(intro l hl;simp only [asN];repeat (rw [if_neg (fun e=>by subst e;simp [look] at hl)]))) (by kernel_rfl) T.mixed fun X hX hP hC aB bK=> ?_)
 repeat' (first|refine Rn.p ?_|(with_reducible apply And.intro)|((first|(refine hK _ ?_;clear hK K)|with_reducible intro K hK|refine Rs.p ?_|((with_reducible first|apply oP|apply oQ);exact rfl)|(refine iS hX hC hP 22 (RD) rfl rfl rfl ?_ ?_ (by first|exact ⟨_,_,_,rfl,xb⟩|exact ⟨_,_,_,rfl,xd⟩|exact ⟨_,_,_,rfl,xg⟩) rfl (by decide) ?_;(iterate 2 (focus (simp only [go_sem,simprocAttr,hv,aC,aI];done)));simp only [go_sem,simprocAttr,hv,aC,aI]));try simp only [go_sem,simprocAttr,hv,aC,aI])|((with_reducible refine oD ?_ ?_);kernel_rfl)|((with_reducible intro h);try simp only [go_sem,simprocAttr,hv,aC,aI] at h)|omega|intro h)
theorem Cq (g:Gr) (hm:aX g=true) (x:Int) (hx:0≤x∧x<g.n):Spec Tryz.prog 73 (Args [.d (vw g),eN x]) [] (.ref 10000) [(10000, .own 3 1 ((dG g x).map rI))]:=by
 have hT:=AM (·.1) g hm x hx
 (refine Spec.CT (C:=T.cfg [] []) (rs:= [.t 4]) [(10000,11)] (T.ah _ _) Tryz.func73 rfl rfl Tryz.ntmps73 Tryz.results73 (by simp [AObj.isNest]) (by simp [AObj.isNest]) (by first|(simp [look];done)|(simp [asN];done)|(intro l hl;simp only [asN];repeat (rw [if_neg (fun e=>by subst e;simp [look] at hl)]))) (by first|(simp [look];done)|(simp [asN];done)|(intro l hl;simp only [asN];repeat (rw [if_neg (fun e=>by subst e;simp [look] at hl)]))) (by kernel_rfl) T.mixed fun X hX hP hC aB bK=> ?_)
 repeat' (first|refine Rn.p ?_|(with_reducible apply And.intro)|((first|(refine hK _ ?_;clear hK K)|with_reducible intro K hK|refine Rs.p ?_|((with_reducible first|apply oP|apply oQ);exact rfl)|(refine iS hX hC hP 11 (hT) rfl rfl rfl ?_ ?_ (by first|exact ⟨_,_,_,rfl,xb⟩|exact ⟨_,_,_,rfl,xd⟩|exact ⟨_,_,_,rfl,xg⟩) rfl (by decide) ?_;(iterate 2 (focus (simp only [go_sem,simprocAttr,aA];done)));simp only [go_sem,simprocAttr,aA]));try simp only [go_sem,simprocAttr,aA])|((with_reducible refine oD ?_ ?_);kernel_rfl)|((with_reducible intro h);try simp only [go_sem,simprocAttr,aA] at h)|omega|intro h)
 rfl
section
open Go.RowKit Go.Shelf Go.Sort Go.Lib
def Wc (b:Br) (i k:Int):Int:=compareInt (xB b i) (xB b k)
def Wd (b:Br) (u v:Int):Int:=if compareInt (yB b u) (yB b v)=0 then compareInt (fB b u) (fB b v) else compareInt (yB b u) (yB b v)
theorem Du {x y:Int} :compareInt x y<0↔x<y:=by
 unfold compareInt
 split
 ·simp [*]
 ·split<;>simp<;>omega
theorem Dv {x y:Int} :compareInt x y=0↔x=y:=by
 unfold compareInt
 split
 ·simp;omega
 ·split<;>simp<;>omega
def We (b:Br):List AV:= [.d (sI b.y), .d (sI b.fr), .d (sI b.to), .d (sI b.x)]
theorem b7 {w W:World} {b o:Nat} {blk:Nat} (hW:∀b,b<w.heap.size→b≠blk→W.heap[b]? =w.heap[b]?) (hb:b<w.heap.size) (hne:b≠blk):W.cell? ⟨b,o,none⟩=w.cell? ⟨b,o,none⟩:=by
 simp only [World.cell?,hW b hb hne]
end
end Go.Ab
end
section
namespace Go.Ab
open Go.Proofs
attribute [local congr] ACall.congr gd.congr Nx.congr
set_option maxRecDepth 20000
set_option maxHeartbeats 16000000
section
open Go.RowKit Go.Shelf Go.Sort Go.Lib
def OY (d:Dr) (x i k:Int):Int:= -(sd (dh d x) (gn d k) (gn d i))
def OZ (d:Dr) (u v:Int):Int:=if compareInt (dh d u).2 (dh d v).2=0 then compareInt (dh d u).1 (dh d v).1 else compareInt (dh d u).2 (dh d v).2
def Cr (d:Dr) (u v:Int):Prop:=(dh d u).2<(dh d v).2∨((dh d u).2=(dh d v).2∧(dh d u).1<(dh d v).1)
theorem Cs {d:Dr} {x i k:Int} :OY d x i k<0↔iX d x i k:=by
 unfold OY iX qD sd gB
 split
 ·omega
 ·split<;>omega
theorem Ct {d:Dr} {u v:Int} :OZ d u v<0↔Cr d u v:=by
 unfold OZ Cr
 by_cases h:(dh d u).2=(dh d v).2
 ·rw [if_pos (Dv.2 h),Du];omega
 ·rw [if_neg (fun e=>h (Dv.1 e)),Du];omega
theorem Dw {w:World} {z:Nat→Nat} {v:Value} {l:List Pt} (h:Rd w z v (sP l)) (hne:l≠ []):∃b off cap,v= .slice (some ⟨b,off,none⟩) l.length cap∧b<w.heap.size∧0<z b∧∀j,j<l.length→w.cell? ⟨b,off+j*2,none⟩=some (.int .i64 (l.getD j (0,0)).1)∧w.cell? ⟨b,off+j*2+1,none⟩=some (.int .i64 (l.getD j (0,0)).2):=by
 generalize hx:sP l=x at h
 cases h with
 |sc v h=>cases hx
 |pt b off cells vs hz hc hr=>cases hx
 |nil p sz=>
  simp only [sP,D.sl.injEq,List.map_eq_nil_iff] at hx
  exact absurd hx.2 hne
 |sl b off n cap sz rows vs hn hsz hz hcap hc hr=>
  simp only [sP,D.sl.injEq] at hx
  obtain ⟨rfl,rfl⟩:=hx
  rw [List.length_map] at hn
  subst hn
  have hpos:0<l.length:=List.length_pos_iff.2 hne
  refine ⟨b,off,cap,rfl, ?_,by omega,fun j hj=>⟨?_, ?_⟩⟩
  ·have:=hc 0 (by omega)
   by_cases hlt:b<w.heap.size
   ·exact hlt
   ·exfalso
    simp [World.cell?,Array.getElem?_eq_none (Nat.le_of_not_lt hlt)] at this
  ·have h1:=hc (j*2+0) (by omega)
   have h2:=hr j 0 (rP l[j]) (.sc (.int .i64 l[j].1)) (by simp [List.getElem?_eq_getElem hj]) rfl
   have h3:=u9 h2
   simp only [Nat.add_zero] at h1 h3
   rw [h1,h3]
   simp [List.getD_eq_getElem?_getD,List.getElem?_eq_getElem hj]
  ·have h1:=hc (j*2+1) (by omega)
   have h2:=hr j 1 (rP l[j]) (.sc (.int .i64 l[j].2)) (by simp [List.getElem?_eq_getElem hj]) rfl
   have h3:=u9 h2
   rw [Nat.add_assoc,h1,h3]
   simp [List.getD_eq_getElem?_getD,List.getElem?_eq_getElem hj]
theorem Lv {w:World} {z:Nat→Nat} {v:Value} {l:List (List Pt)} (h:Rd w z v (sLn l)) (hne:l≠ []):∃b off cap,v= .slice (some ⟨b,off,none⟩) l.length cap∧b<w.heap.size∧0<z b∧∀j,j<l.length→∃u,w.cell? ⟨b,off+j,none⟩=some u∧Rd w z u (sP (l.getD j [])):=by
 generalize hx:sLn l=x at h
 cases h with
 |sc v h=>cases hx
 |pt b off cells vs hz hc hr=>cases hx
 |nil p sz=>
  simp only [sLn,vP,D.sl.injEq,List.map_eq_nil_iff] at hx
  exact absurd hx.2 hne
 |sl b off n cap sz rows vs hn hsz hz hcap hc hr=>
  simp only [sLn,vP,D.sl.injEq] at hx
  obtain ⟨rfl,rfl⟩:=hx
  rw [List.length_map] at hn
  subst hn
  have hpos:0<l.length:=List.length_pos_iff.2 hne
  refine ⟨b,off,cap,rfl, ?_,by omega,fun j hj=> ?_⟩
  ·have:=hc 0 (by omega)
   by_cases hlt:b<w.heap.size
   ·exact hlt
   ·exfalso
    simp [World.cell?,Array.getElem?_eq_none (Nat.le_of_not_lt hlt)] at this
  ·have h1:=hc j (by omega)
   have h2:=hr j 0 [sP l[j]] (sP l[j]) (by simp [List.getElem?_eq_getElem hj]) rfl
   simp only [Nat.mul_one,Nat.add_zero] at h2
   refine ⟨_,h1, ?_⟩
   rw [List.getD_eq_getElem?_getD,List.getElem?_eq_getElem hj]
   exact h2
def qJ (d:Dr):List AV:= [.d (sP d.pts), .d (sLn d.ls)]
theorem HH {d:Dr} {w:World} {E:Env} {vs:List Value} (h:AVrs w E (qJ d) vs):∃v0 v1,vs= [v0,v1]∧Rd w E.z v0 (sP d.pts)∧Rd w E.z v1 (sLn d.ls):=by
 obtain ⟨v0,r0,rfl,h0,h⟩:=h
 obtain ⟨v1,r1,rfl,h1,h⟩:=h
 simp only [AVrs] at h
 subst h
 exact ⟨v0,v1,rfl,h0,h1⟩
theorem Cu {g:Gr} {d:Dr} (R:s5 g d) {x:Int} (hx0:0≤x∧x<g.n) {l l':List Int} (S:Fi (OY d x) l l') (hl:∀i∈l,0≤i∧i<g.es.length) (hlen:l.length≤1000000):
 Spec Tryz.prog 74 (Args [.ref 10000, .fn 75 [] [.ptr 10001 0, .ptr 10002 0]]) [(10000, .own 3 1 (l.map rI)),(10001, .box (qJ d)),(10002, .box [eN x])] (.tup []) [(10000, .own 3 1 (l'.map rI)),(10001, .box (qJ d)),(10002, .box [eN x])]:=by
 refine AJ S hlen (enters_of Tryz.func75 (by kernel_rfl) rfl) ?_
 intro w E B Xb blk v1 v2 e1 e2 hB hX hA J2 hne EU hz W hsz hW i hi k hk
 obtain ⟨va,vb,rfl,ha,hb⟩:=HH hA
 obtain ⟨xv,r2,rfl,UX,uf⟩:=J2
 simp only [AVrs] at uf
 subst uf
 have ON:xv= .int .i64 x:=bC UX
 subst ON
 have hi2:=hl i hi
 have hk2:=hl k hk
 have hnl:=R.nl
 have hnp:=R.np
 obtain ⟨bp,op,cp,rfl,g1,g2,g3⟩:=Dw ha (fun e=>by rw [e] at hnp;simp at hnp;omega)
 obtain ⟨bl,ol,cl,rfl,g4,g5,g6⟩:=Lv hb (fun e=>by rw [e] at hnl;simp at hnl;omega)
 have JX:B<w.heap.size:=(Array.getElem?_eq_some_iff.1 hB).1
 have NJ:Xb<w.heap.size:=(Array.getElem?_eq_some_iff.1 hX).1
 obtain ⟨ui,c1,r1⟩:=g6 i.toNat (by omega)
 obtain ⟨uk,c2,r2⟩:=g6 k.toNat (by omega)
 have li:=R.len _ (fS R hi2.1 hi2.2)
 have lk:=R.len _ (fS R hk2.1 hk2.2)
 obtain ⟨bi,oi,ci,rfl,i1,i2,i3⟩:=Dw r1 (fun e=>by have:(ee d i).length=0:=by unfold ee;rw [e];rfl
                                                  omega)
 obtain ⟨bk,ok,ck,rfl,k1,k2,k3⟩:=Dw r2 (fun e=>by have:(ee d k).length=0:=by unfold ee;rw [e];rfl
                                                  omega)
 have nz:∀b,0<E.z b→b≠blk:=fun b hb e=>by rw [e] at hb;omega
 have hq:=g3 x.toNat (by omega)
 have hqi:=i3 1 (by show 1<(ee d i).length;omega)
 have IN:=k3 1 (by show 1<(ee d k).length;omega)
 have UY:(d.ls.getD i.toNat []).getD 1 (0,0)=gn d i:=rfl
 have UZ:(d.ls.getD k.toNat []).getD 1 (0,0)=gn d k:=rfl
 rw [UY] at hqi
 rw [UZ] at IN
 have iP:bn (dh d x):=R.Lh _ (aD (by omega))
 have iI:bn (gn d i):=R.kT _ (fS R hi2.1 hi2.2) _ (aD (by omega))
 have iK:bn (gn d k):=R.kT _ (fS R hk2.1 hk2.2) _ (aD (by omega))
 have hc:=Lo W B Xb bp op d.pts.length cp bl ol d.ls.length cl x.toNat i.toNat k.toNat bi oi (d.ls.getD i.toNat []).length ci bk ok (d.ls.getD k.toNat []).length ck (dh d x) (gn d i) (gn d k) iP iI iK
  (by rw [b7 hW JX hne];simp [World.cell?,hB]) (by rw [b7 hW JX hne];simp [World.cell?,hB]) (by rw [b7 hW NJ EU];simp [World.cell?,hX];omega)
  (by omega) (by omega) (by omega) (by show 1<(ee d i).length;omega) (by show 1<(ee d k).length;omega)
  (by rw [b7 hW g1 (nz _ g2)];exact hq.1) (by rw [b7 hW g1 (nz _ g2)];exact hq.2)
  (by rw [b7 hW g4 (nz _ g5)];exact c1) (by rw [b7 hW g4 (nz _ g5)];exact c2)
  (by rw [b7 hW i1 (nz _ i2)];exact hqi.1) (by rw [b7 hW i1 (nz _ i2)];exact hqi.2) (by rw [b7 hW k1 (nz _ k2)];exact IN.1) (by rw [b7 hW k1 (nz _ k2)];exact IN.2)
 rw [show ((i.toNat:Nat):Int)=i by omega,show ((k.toNat:Nat):Int)=k by omega] at hc
 exact hc
theorem Cw {g:Gr} {d:Dr} (R:s5 g d) {l l':List Int} (S:Fi (OZ d) l l') (hl:∀i∈l,0≤i∧i<g.n) (hlen:l.length≤1000000):
 Spec Tryz.prog 74 (Args [.ref 10000, .fn 77 [] [.ptr 10001 0]]) [(10000, .own 3 1 (l.map rI)),(10001, .box (qJ d))] (.tup []) [(10000, .own 3 1 (l'.map rI)),(10001, .box (qJ d))]:=by
 refine Cj S hlen (enters_of Tryz.func77 (by kernel_rfl) rfl) rfl ?_
 intro w E B blk vs e hB hA hne hz W hsz hW i hi k hk
 obtain ⟨va,vb,rfl,ha,hb⟩:=HH hA
 have hi2:=hl i hi
 have hk2:=hl k hk
 have hnp:=R.np
 obtain ⟨bp,op,cp,rfl,g1,g2,g3⟩:=Dw ha (fun e=>by rw [e] at hnp;simp at hnp;omega)
 have JX:B<w.heap.size:=(Array.getElem?_eq_some_iff.1 hB).1
 have nz:∀b,0<E.z b→b≠blk:=fun b hb e=>by rw [e] at hb;omega
 have hqi:=g3 i.toNat (by omega)
 have IN:=g3 k.toNat (by omega)
 have hc:=Lq W B bp op d.pts.length cp i.toNat k.toNat (dh d i) (dh d k) (by rw [b7 hW JX hne];simp [World.cell?,hB]) (by omega) (by omega)
  (by rw [b7 hW g1 (nz _ g2)];exact hqi.1) (by rw [b7 hW g1 (nz _ g2)];exact hqi.2) (by rw [b7 hW g1 (nz _ g2)];exact IN.1) (by rw [b7 hW g1 (nz _ g2)];exact IN.2)
 rw [show ((i.toNat:Nat):Int)=i by omega,show ((k.toNat:Nat):Int)=k by omega] at hc
 exact hc
end
structure qK (g:Gr) (d:Dr) (p:Pl):Prop where
 perm:p.ord.Perm (eY g.n.toNat)
 sort:p.ord.Pairwise (Cr d)
 len:p.outs.length=g.n.toNat
 outs:∀x:Nat,x<g.n.toNat→(p.outs.getD x []).Perm (dG g x)
 AL:∀x:Nat,x<g.n.toNat→(p.outs.getD x []).Pairwise (iX d x)
theorem EZ {g:Gr} {d:Dr} {p:Pl} (hp:qK g d p) {x:Nat} (hx:x<g.n.toNat):Fi (OY d x) (dG g x) (p.outs.getD x []):=
 {perm:=(hp.outs x hx).symm,nd:=gj,ord:=(hp.AL x hx).imp fun h=>⟨Cs.2 h,fun h2=>qF h (Cs.1 h2)⟩,OR:=fun i _ h=>by have:=Cs.1 h;exact qF this this}
theorem HI {g:Gr} {d:Dr} {p:Pl} (hp:qK g d p):Fi (OZ d) (eY g.n.toNat) p.ord:=
 {perm:=hp.perm.symm,nd:=jA,ord:=hp.sort.imp fun h=>⟨Ct.2 h,fun h2=>by have:=Ct.1 h2;unfold Cr at*;omega⟩,OR:=fun i _ h=>by have:=Ct.1 h;unfold Cr at this;omega}
end Go.Ab
end
section
namespace Go.Ab
open Go.Proofs
set_option maxRecDepth 10000
set_option linter.unusedSectionVars false
def sR (g:Gr) (e:Int):Prop:=0≤e∧e<g.es.length
section
variable {g:Gr} {d:Dr} (h:s5 g d)
include h
theorem dc {e:Int} (he:sR g e):Jf (ee d e):=by
 have h0:=he.1;have h1:=he.2
 exact h.BP e.toNat (by omega)
theorem gH {e:Int} (he:sR g e):2≤(ee d e).length:=(h.len _ (fS h he.1 he.2)).1
theorem nU {e:Int} (he:sR g e):(ee d e).getD 0 (0,0)=dh d (kX g e):=by
 have h0:=he.1;have h1:=he.2
 exact h.fst e.toNat (by omega)
theorem tI {e:Int} (he:sR g e):(ee d e).getD ((ee d e).length - 1) (0,0)=dh d (mB g e):=by
 have h0:=he.1;have h1:=he.2
 exact h.IZ e.toNat (by omega)
theorem Lw {e:Int} (he:sR g e):(dh d (kX g e)).2<(dh d (mB g e)).2:=by
 have:=yW (dc h he) (i:=0) (j:=(ee d e).length - 1) (by have:=gH h he;omega) (by have:=gH h he;omega)
 rwa [nU h he,tI h he] at this
theorem Lx {e:Int} (he:sR g e):mz (ee d e) (dh d (kX g e)).2 (dh d (kX g e)).1:=by
 have hl:=gH h he
 refine ⟨0,by omega, ?_⟩
 have:=dc h he 0 (by omega)
 rw [← nU h he]
 exact jF this lK
theorem yX {e:Int} (he:sR g e):mz (ee d e) (dh d (mB g e)).2 (dh d (mB g e)).1:=by
 have hl:=gH h he
 obtain ⟨m,hm⟩:∃m,(ee d e).length=m+2:=⟨(ee d e).length - 2,by omega⟩
 refine ⟨m,by omega, ?_⟩
 have:=dc h he m (by omega)
 rw [← tI h he,hm,show m+2 - 1=m+1 by omega]
 exact jF this (by rw [qm];exact lK)
theorem jW {e y:Int} {X:Rat} (he:sR g e) (hX:mz (ee d e) y X):(dh d (kX g e)).2≤y∧y≤(dh d (mB g e)).2:=by
 obtain ⟨j,hj,hc⟩:=hX
 have k1:=hc.lo
 have k2:=hc.hi
 have k3:((ee d e).getD j (0,0)).2≤y:=by exact_mod_cast k1
 have k4:y≤((ee d e).getD (j+1) (0,0)).2:=by exact_mod_cast k2
 have k5:=vD (dc h he) (Nat.zero_le j) (by omega)
 have k6:=vD (dc h he) (show j+1≤(ee d e).length - 1 by omega) (by omega)
 rw [nU h he] at k5
 rw [tI h he] at k6
 omega
theorem vG {e y:Int} (he:sR g e) (h0:(dh d (kX g e)).2≤y) (h1:y≤(dh d (mB g e)).2):∃X,mz (ee d e) y X:=
 Lm (dc h he) (gH h he) (by rw [nU h he];exact h0) (by rw [tI h he];exact h1)
theorem nV {e:Int} (he:sR g e) {j:Nat} (hj:j<(ee d e).length):bn ((ee d e).getD j (0,0)):=h.kT _ (fS h he.1 he.2) _ (aD hj)
theorem AN {i k:Int} (hi:sR g i) (hk:sR g k) (hlt:k<i) {t X:Rat} (a:mz (ee d i) t X) (b:mz (ee d k) t X):
 ∃v:Int,(v=kX g i∨v=mB g i)∧(v=kX g k∨v=mB g k)∧t=((dh d v).2:Int):=by
 obtain ⟨j,hj,ca⟩:=a
 obtain ⟨m,hm,cb⟩:=b
 have i0:=hi.1;have i1:=hi.2;have k0:=hk.1;have k1:=hk.2
 have uj:=dc h hi j hj
 have um:=dc h hk m hm
 have hb:=h.apart i.toNat k.toNat (by omega) (by omega) _ (nR (l:=ee d i) hj) _ (nR (l:=ee d k) hm)
 have hM:=Je uj um ca cb
 have hV:eW ((ee d i).getD j (0,0)) ((ee d i).getD (j+1) (0,0)) ((ee d k).getD m (0,0)) ((ee d k).getD (m+1) (0,0))=fm ((ee d i).getD j (0,0)) ((ee d i).getD (j+1) (0,0)) ((ee d k).getD m (0,0)) ((ee d k).getD (m+1) (0,0)):=by
  rw [tw,if_pos ⟨nV h hi (by omega),nV h hi hj,nV h hk (by omega),nV h hk hm⟩]
 unfold fG at hb
 simp only [hV,Bool.or_eq_false_iff,decide_eq_false_iff_not,Bool.and_eq_false_iff,Bool.not_eq_false',List.any_eq_true,Bool.and_eq_true] at hb
 obtain ⟨aC,aI⟩:=hb
 rcases aI with aI|⟨p,hp,o1,o2⟩
 ·omega
 ·unfold eC oo at hp
  simp only [List.take_succ_cons,List.take_zero,List.mem_map,List.mem_filter,List.mem_cons,List.not_mem_nil,or_false,GN,Bool.or_eq_true,decide_eq_true_eq] at hp
  obtain ⟨v,⟨v1,v2⟩,rfl⟩:=hp
  have R1:iu ((ee d i).getD j (0,0)) ((ee d i).getD (j+1) (0,0)) (dh d v)=true:=by unfold lH at o1;rw [Bool.and_eq_true] at o1;exact o1.2
  have U0:iu ((ee d k).getD m (0,0)) ((ee d k).getD (m+1) (0,0)) (dh d v)=true:=by unfold lH at o2;rw [Bool.and_eq_true] at o2;exact o2.2
  have da:=jF uj R1
  have db:=jF um U0
  refine ⟨v,v1,v2, ?_⟩
  rcases (show t<((dh d v).2:Int)∨t=((dh d v).2:Int)∨((dh d v).2:Int)<t by grind) with hlt|he|hlt
  ·have:=AF uj um ca cb da db hlt;omega
  ·exact he
  ·have:=AF uj um da db ca cb hlt;omega
theorem tJ {i k:Int} (hi:sR g i) (hk:sR g k) (hne:i≠k) {t X:Rat} (a:mz (ee d i) t X) (b:mz (ee d k) t X):
 ∃v:Int,(v=kX g i∨v=mB g i)∧(v=kX g k∨v=mB g k)∧t=((dh d v).2:Int):=by
 rcases Int.lt_or_gt_of_ne hne with hlt|hlt
 ·obtain ⟨v,v1,v2,v3⟩:=AN h hk hi hlt b a
  exact ⟨v,v2,v1,v3⟩
 ·exact AN h hi hk hlt a b
theorem HJ {y c:Int} {t:Rat} (h1:(y:Rat)<t) (h2:t<((y+1:Int):Rat)) (e:t=(c:Rat)):False:=by
 rw [e] at h1 h2
 have h3:y<c:=by exact_mod_cast h1
 have h4:c<y+1:=by exact_mod_cast h2
 omega
theorem xL {i k:Int} (hi:sR g i) (hk:sR g k) (hne:i≠k) {y:Int} {X Z:Rat} (a:mz (ee d i) y X) (b:mz (ee d k) y Z) (hlt:X<Z):
 ∀n:Nat,∀X2 Z2:Rat,mz (ee d i) (y+n:Int) X2→mz (ee d k) (y+n:Int) Z2→X2≤Z2∧(X2=Z2→y+n=(dh d (mB g i)).2)
 |0,X2,Z2,a2,b2=>by
  rw [show y+((0:Nat):Int)=y by omega] at a2 b2
  obtain rfl:=gG (dc h hi) a a2
  obtain rfl:=gG (dc h hk) b b2
  exact ⟨Rat.le_of_lt hlt,fun e=>by grind⟩
 |n+1,X2,Z2,a2,b2=>by
  have ra:=jW h hi a
  have rb:=jW h hk b
  have RE:=jW h hi a2
  have RF:=jW h hk b2
  have e1:y+((n+1:Nat):Int)=y+n+1:=by omega
  rw [e1] at a2 b2 RE RF ⊢
  obtain ⟨X1,a1⟩:=vG h hi (y:=y+n) (by omega) (by omega)
  obtain ⟨Z1,b1⟩:=vG h hk (y:=y+n) (by omega) (by omega)
  have ih:=xL hi hk hne a b hlt n X1 Z1 a1 b1
  have hs:X1<Z1:=by
   have hle:=ih.1
   rcases (show X1<Z1∨X1=Z1 by grind) with h1|h1
   ·exact h1
   ·have:=ih.2 h1;omega
  refine ⟨Rat.not_lt.1 fun hgt=> ?_,fun e=> ?_⟩
  ·obtain ⟨t,W,t1,t2,w1,w2⟩:=AG (dc h hi) (dc h hk) (gH h hi) (gH h hk) a1 b1 a2 b2 hs hgt
   obtain ⟨v,_,_,v3⟩:=tJ h hi hk hne w1 w2
   exact HJ h t1 t2 v3
  ·rw [← e] at b2
   obtain ⟨v,v1,_,v3⟩:=tJ h hi hk hne a2 b2
   have v4:y+n+1=(dh d v).2:=by exact_mod_cast v3
   rcases v1 with rfl|rfl
   ·omega
   ·exact v4
theorem xM {i k:Int} (hi:sR g i) (hk:sR g k) (hne:i≠k) {y:Int} {X Z:Rat} (a:mz (ee d i) y X) (b:mz (ee d k) y Z) (hlt:X<Z):
 ∀n:Nat,∀X2 Z2:Rat,mz (ee d i) (y - n:Int) X2→mz (ee d k) (y - n:Int) Z2→X2≤Z2∧(X2=Z2→y - n=(dh d (kX g i)).2)
 |0,X2,Z2,a2,b2=>by
  rw [show y - ((0:Nat):Int)=y by omega] at a2 b2
  obtain rfl:=gG (dc h hi) a a2
  obtain rfl:=gG (dc h hk) b b2
  exact ⟨Rat.le_of_lt hlt,fun e=>by grind⟩
 |n+1,X2,Z2,a2,b2=>by
  have ra:=jW h hi a
  have rb:=jW h hk b
  have RE:=jW h hi a2
  have RF:=jW h hk b2
  obtain ⟨w,hw⟩:∃w:Int,y - ((n+1:Nat):Int)=w:=⟨_,rfl⟩
  have e1:y - (n:Int)=w+1:=by omega
  rw [hw] at a2 b2 RE RF ⊢
  obtain ⟨X1,a1⟩:=vG h hi (y:=y - n) (by omega) (by omega)
  obtain ⟨Z1,b1⟩:=vG h hk (y:=y - n) (by omega) (by omega)
  have ih:=xM hi hk hne a b hlt n X1 Z1 a1 b1
  have hs:X1<Z1:=by
   have hle:=ih.1
   rcases (show X1<Z1∨X1=Z1 by grind) with h1|h1
   ·exact h1
   ·have:=ih.2 h1;omega
  rw [e1] at a1 b1
  refine ⟨Rat.not_lt.1 fun hgt=> ?_,fun e=> ?_⟩
  ·obtain ⟨t,W,t1,t2,w1,w2⟩:=AG (dc h hk) (dc h hi) (gH h hk) (gH h hi) b2 a2 b1 a1 hgt hs
   obtain ⟨v,_,_,v3⟩:=tJ h hi hk hne w2 w1
   exact HJ h t1 t2 v3
  ·rw [← e] at b2
   obtain ⟨v,v1,_,v3⟩:=tJ h hi hk hne a2 b2
   have v4:w=(dh d v).2:=by exact_mod_cast v3
   rcases v1 with rfl|rfl
   ·exact v4
   ·omega
theorem nq {i k:Int} (hi:sR g i) (hk:sR g k) {y z:Int} {X Z X2 Z2:Rat} (a:mz (ee d i) y X) (b:mz (ee d k) y Z) (hlt:X<Z) (a2:mz (ee d i) z X2) (b2:mz (ee d k) z Z2):X2≤Z2:=by
 have hne:i≠k:=fun e=>by
  subst e
  have:=gG (dc h hi) a b
  grind
 rcases Int.le_total y z with hyz|hyz
 ·obtain ⟨n,hn⟩:∃n:Nat,z=y+n:=⟨(z - y).toNat,by omega⟩
  subst hn
  exact (xL h hi hk hne a b hlt n X2 Z2 a2 b2).1
 ·obtain ⟨n,hn⟩:∃n:Nat,z=y - n:=⟨(y - z).toNat,by omega⟩
  subst hn
  exact (xM h hi hk hne a b hlt n X2 Z2 a2 b2).1
theorem yY {e v:Int} (he:sR g e) (hv:xD g v) (n1:v≠kX g e) (n2:v≠mB g e):¬mz (ee d e) (dh d v).2 (dh d v).1:=by
 rintro ⟨j,hj,hc⟩
 have h0:=he.1;have h1:=he.2;have v0:=hv.1;have v1:=hv.2
 have hnp:=h.np
 have hf:=h.free e.toNat v.toNat (by omega) (by omega) (by rw [Int.toNat_of_nonneg v0];exact n1) (by rw [Int.toNat_of_nonneg v0];exact n2)
 unfold JN at hf
 rw [List.any_eq_false] at hf
 refine hf _ (nR (l:=ee d e) hj) ?_
 have vO:=Hw (dc h he j hj) hc
 have hP:bn (dh d v):=h.Lh _ (aD (by omega))
 show lH ((ee d e).getD j (0,0)) ((ee d e).getD (j+1) (0,0)) (dh d v)=true
 unfold lH
 rw [vO,decide_eq_true ⟨nV h he (by omega),nV h he hj,hP⟩]
 rfl
end
def LQ (d:Dr) (i k:Int):Prop:=∃(y:Int) (X Z:Rat),mz (ee d i) y X∧mz (ee d k) y Z∧X<Z
section
variable {g:Gr} {d:Dr} {p:Pl} (h:s5 g d) (hp:qK g d p)
include hp
theorem qK.ok:cH g p:=⟨hp.len,hp.perm,hp.outs⟩
theorem qK.lt {j k:Nat} (hj:j<k) (hk:k<g.n.toNat):Cr d (bJ p j) (bJ p k):=by
 have hl:=dx hp.ok
 have:=List.pairwise_iff_getElem.1 hp.sort j k (by omega) (by omega) hj
 rw [bJ,bJ,List.getD_eq_getElem?_getD,List.getD_eq_getElem?_getD,List.getElem?_eq_getElem (by omega),List.getElem?_eq_getElem (by omega)]
 exact this
include h
theorem AO {v:Int} (hv:xD g v) {k:Nat} (hn:v∉p.ord.take k):∃l,k≤l∧l<g.n.toNat∧bJ p l=v:=by
 obtain ⟨l,hl,e⟩:=qy hp.ok hv.1 hv.2
 refine ⟨l,Nat.le_of_not_lt fun hlt=>hn ?_,hl,e⟩
 rw [← e];exact EV hlt (by rw [dx hp.ok];exact hl)
theorem jG {k:Nat} (hk:k<g.n.toNat) {a:Int} (ha:rS g p k a):sR g a∧(∃X,mz (ee d a) (dh d (bJ p k)).2 X)∧bJ p k≠kX g a:=by
 have hm:=bW h.s9
 have he:sR g a:=⟨ha.e0,ha.e1⟩
 have ht:xD g (kX g a):=cM hm (i:=a.toNat) (by have:=ha.e0;have:=ha.e1;omega)
 have hh:xD g (mB g a):=gA hm (i:=a.toNat) (by have:=ha.e0;have:=ha.e1;omega)
 obtain ⟨j,j1,_,j3⟩:=xJ ha.low
 obtain ⟨l,l1,l2,l3⟩:=AO h hp hh ha.top
 have c1:=hp.lt j1 hk
 rw [j3] at c1
 have c2:(dh d (bJ p k)).2≤(dh d (mB g a)).2:=by
  rcases Nat.lt_or_ge k l with h1|h1
  ·have:=hp.lt h1 l2
   rw [l3] at this
   unfold Cr at this
   omega
  ·rw [← l3,show l=k by omega];omega
 refine ⟨he,vG h he (by unfold Cr at c1;omega) c2,fun e=>xK hp.ok hk (e ▸ ha.low)⟩
theorem qL {k:Nat} (hk:k<g.n.toNat) {c:Int} (hc:c∈kU p (bJ p k)):sR g c∧mz (ee d c) (dh d (bJ p k)).2 (dh d (bJ p k)).1:=by
 obtain ⟨x0,x1⟩:=dZ hp.ok hk
 obtain ⟨⟨i0,i1⟩,i2⟩:=dy.1 ((eu hp.ok x0 x1).mem_iff.1 hc)
 refine ⟨⟨i0,i1⟩, ?_⟩
 have:=Lx h (e:=c) ⟨i0,i1⟩
 rwa [show kX g c=bJ p k from i2] at this
theorem vH:Ds g p fun _=>LQ d:=by
 have hm:=bW h.s9
 refine ⟨fun e e0 e1 k hk ek=> ?_,fun k hk a b c ha hb hc ea ec r1 r2=> ?_,fun k hk a c ha hc na nc r=>r,fun k hk a b c ha hb na eb hc r=> ?_,fun k hk a b c ha hb na eb hc r=> ?_,fun k hk=> ?_⟩
 ·have u1:=Lw h (e:=e) ⟨e0,e1⟩
  refine Decidable.byContradiction fun hn=> ?_
  obtain ⟨l,l1,l2,l3⟩:=AO h hp (cM hm (i:=e.toNat) (by omega)) hn
  have l3:bJ p l=kX g e:=l3
  rcases Nat.lt_or_ge k l with h1|h1
  ·have:=hp.lt h1 l2
   rw [l3,ek] at this
   unfold Cr at this;omega
  ·rw [← l3, ← ek,show l=k by omega] at u1
   omega
 ·obtain ⟨ia,_,_⟩:=jG h hp hk ha
  obtain ⟨ib,⟨X,hX⟩,nb⟩:=jG h hp hk hb
  obtain ⟨ic,_,_⟩:=jG h hp hk hc
  refine Decidable.byContradiction fun hn=>yY h ib (dZ hp.ok hk) nb (Ne.symm hn) ?_
  obtain ⟨y1,X1,Z1,a1,b1,l1⟩:=r1
  obtain ⟨y2,X2,Z2,a2,b2,l2⟩:=r2
  have ta:=yX h ia
  have tc:=yX h ic
  rw [ea] at ta
  rw [ec] at tc
  have q1:=nq h ia ib a1 b1 l1 ta hX
  have q2:=nq h ib ic a2 b2 l2 hX tc
  have:X=((dh d (bJ p k)).1:Int):=by grind
  rwa [this] at hX
 ·obtain ⟨ia,⟨X,hX⟩,nb⟩:=jG h hp hk ha
  obtain ⟨ib,_,_⟩:=jG h hp hk hb
  obtain ⟨y1,X1,Z1,a1,b1,l1⟩:=r
  have tb:=yX h ib
  rw [eb] at tb
  have q1:=nq h ia ib a1 b1 l1 hX tb
  have q2:X≠((dh d (bJ p k)).1:Int):=fun e=>yY h ia (dZ hp.ok hk) nb (Ne.symm na) (e ▸ hX)
  exact ⟨_,_,_,hX,(qL h hp hk hc).2,by grind⟩
 ·obtain ⟨ia,⟨X,hX⟩,nb⟩:=jG h hp hk ha
  obtain ⟨ib,_,_⟩:=jG h hp hk hb
  obtain ⟨y1,X1,Z1,b1,a1,l1⟩:=r
  have tb:=yX h ib
  rw [eb] at tb
  have q1:=nq h ib ia b1 a1 l1 tb hX
  have q2:X≠((dh d (bJ p k)).1:Int):=fun e=>yY h ia (dZ hp.ok hk) nb (Ne.symm na) (e ▸ hX)
  exact ⟨_,_,_,(qL h hp hk hc).2,hX,by grind⟩
 ·obtain ⟨x0,x1⟩:=dZ hp.ok hk
  have hs:=hp.AL (bJ p k).toNat (by omega)
  rw [show (((bJ p k).toNat:Nat):Int)=bJ p k by omega] at hs
  refine List.Pairwise.imp_of_mem (R:=iX d (bJ p k)) (fun {i c} hi hc r=> ?_) hs
  have hit:kX g i=bJ p k:=(dy.1 ((eu hp.ok x0 x1).mem_iff.1 hi)).2
  have SM:kX g c=bJ p k:=(dy.1 ((eu hp.ok x0 x1).mem_iff.1 hc)).2
  have ii:=(qL h hp hk hi).1
  have ic:=(qL h hp hk hc).1
  have u1:=pG h ii.1 ii.2 hit
  have u2:=pG h ic.1 ic.2 SM
  have f1:=nU h ii
  have f2:=nU h ic
  rw [hit] at f1
  rw [SM] at f2
  have n1:=gH h ii
  have n2:=gH h ic
  unfold iX qD tm at r
  have hA:(ee d i).getD 1 (0,0)=gn d i:=rfl
  have hB:(ee d c).getD 1 (0,0)=gn d c:=rfl
  generalize dh d (bJ p k)=P at*
  generalize gn d i=A at*
  generalize gn d c=B at*
  obtain ⟨y,hy⟩:∃y,y=min A.2 B.2:=⟨_,rfl⟩
  obtain ⟨X,hX⟩:=vC (p:=P) (q:=A) (y:=(y:Rat)) u1 (by exact_mod_cast (show P.2≤y by omega)) (by exact_mod_cast (show y≤A.2 by omega))
  obtain ⟨Z,hZ⟩:=vC (p:=P) (q:=B) (y:=(y:Rat)) u2 (by exact_mod_cast (show P.2≤y by omega)) (by exact_mod_cast (show y≤B.2 by omega))
  refine ⟨y,X,Z,⟨0,by omega, ?_⟩,⟨0,by omega, ?_⟩, ?_⟩
  ·rw [f1];rw [← hA] at hX;exact hX
  ·rw [f2];rw [← hB] at hZ;exact hZ
  ·have p1:(0:Rat)<(A.2:Rat) - P.2:=by
    have:(P.2:Rat)<A.2:=by exact_mod_cast u1
    grind
   have p2:(0:Rat)<(B.2:Rat) - P.2:=by
    have:(P.2:Rat)<B.2:=by exact_mod_cast u2
    grind
   have p3:(0:Rat)<(y:Rat) - P.2:=by
    have:(P.2:Rat)<y:=by exact_mod_cast (show P.2<y by omega)
    grind
   have p4:(0:Rat)<((B.1:Rat) - P.1)*(A.2 - P.2) - (B.2 - P.2)*(A.1 - P.1):=by exact_mod_cast r
   have e1:=hX.eq
   have e2:=hZ.eq
   have e:(Z - X)*(((A.2:Rat) - P.2)*(B.2 - P.2))=((y:Rat) - P.2)*(((B.1:Rat) - P.1)*(A.2 - P.2) - (B.2 - P.2)*(A.1 - P.1)):=by grind
   have q1:=Rat.mul_pos p3 p4
   have q2:=Rat.mul_pos p1 p2
   refine Rat.not_le.1 fun hn=> ?_
   have:=gF (show Z - X≤0 by grind) (Rat.le_of_lt q2)
   grind
theorem kR:dF g p:=EX h.s9 hp.ok (vH h hp)
end
end Go.Ab
end
section
namespace Go.Ab
open Go.Proofs
set_option maxRecDepth 10000
set_option linter.unusedSectionVars false
def fk (f:Pt→Pt) (d:Dr):Dr:=⟨d.pts.map f,d.ls.map fun l=>l.map f⟩
structure O0 (f:Pt→Pt):Prop where
 x:∃c e:Int,c≠0∧∀a,(f a).1=c*a.1+e
 y:∃c e:Int,0<c∧∀a,(f a).2=c*a.2+e
theorem J3 {k z:Int} (hk:0<k):k*z≤0↔z≤0:=by
 refine ⟨fun h=>Int.not_lt.1 fun hz=> ?_,fun h=>Int.mul_nonpos_of_nonneg_of_nonpos (Int.le_of_lt hk) h⟩
 have:=Int.mul_pos hk hz
 omega
theorem Oa {k z:Int} (hk:0<k):k*z<0↔z<0:=by
 refine ⟨fun h=>Int.not_le.1 fun hz=> ?_,fun h=>Int.mul_neg_of_pos_of_neg hk h⟩
 have:=Int.mul_nonneg (Int.le_of_lt hk) hz
 omega
theorem yZ {c:Int} (h:c≠0):0<c*c:=by
 rcases Int.lt_or_gt_of_ne h with h|h
 ·exact Int.mul_pos_of_neg_of_neg h h
 ·exact Int.mul_pos h h
section
variable {f:Pt→Pt} (A:O0 f)
include A
theorem Dx {a b:Pt} (e:f a=f b):a=b:=by
 obtain ⟨c,k,hc,hx⟩:=A.x
 obtain ⟨c',k',qS,hy⟩:=A.y
 have e1:(f a).1=(f b).1:=by rw [e]
 have e2:(f a).2=(f b).2:=by rw [e]
 rw [hx,hx] at e1
 rw [hy,hy] at e2
 have h1:c*a.1=c*b.1:=by omega
 have h2:c'*a.2=c'*b.2:=by omega
 exact Prod.ext (Int.eq_of_mul_eq_mul_left hc h1) (Int.eq_of_mul_eq_mul_left (by omega) h2)
theorem AP:∃k:Int,k≠0∧∀a b c,aj (f a) (f b) (f c)=k*aj a b c:=by
 obtain ⟨c,k,hc,hx⟩:=A.x
 obtain ⟨c',k',qS,hy⟩:=A.y
 refine ⟨c*c',Int.mul_ne_zero hc (by omega),fun p q r=> ?_⟩
 unfold aj
 rw [hx,hx,hx,hy,hy,hy]
 grind
theorem vJ {a b c:Pt} :iu (f a) (f b) (f c)=iu a b c:=by
 obtain ⟨k,hk,ha⟩:=AP A
 obtain ⟨cx,ex,OK,hx⟩:=A.x
 obtain ⟨cy,ey,Wf,hy⟩:=A.y
 rw [Bool.eq_iff_iff,fc,fc,ha]
 have e1:((f a).1 - (f c).1)*((f b).1 - (f c).1)=(cx*cx)*((a.1 - c.1)*(b.1 - c.1)):=by rw [hx,hx,hx];grind
 have e2:((f a).2 - (f c).2)*((f b).2 - (f c).2)=(cy*cy)*((a.2 - c.2)*(b.2 - c.2)):=by rw [hy,hy,hy];grind
 rw [e1,e2,J3 (yZ OK),J3 (yZ (show cy≠0 by omega)),Int.mul_eq_zero]
 simp only [hk,false_or]
theorem Dy {a b c d p:Pt} :vU (f a) (f b) (f c) (f d) p↔∃q,vU a b c d q∧p=f q:=by
 unfold vU
 rw [vJ A,vJ A,vJ A,vJ A]
 constructor
 ·rintro (⟨h,rfl⟩|⟨h,rfl⟩|⟨h,rfl⟩|⟨h,rfl⟩)
  ·exact ⟨a, .inl ⟨h,rfl⟩,rfl⟩
  ·exact ⟨b, .inr (.inl ⟨h,rfl⟩),rfl⟩
  ·exact ⟨c, .inr (.inr (.inl ⟨h,rfl⟩)),rfl⟩
  ·exact ⟨d, .inr (.inr (.inr ⟨h,rfl⟩)),rfl⟩
 ·rintro ⟨q,⟨h,rfl⟩|⟨h,rfl⟩|⟨h,rfl⟩|⟨h,rfl⟩,rfl⟩
  ·exact .inl ⟨h,rfl⟩
  ·exact .inr (.inl ⟨h,rfl⟩)
  ·exact .inr (.inr (.inl ⟨h,rfl⟩))
  ·exact .inr (.inr (.inr ⟨h,rfl⟩))
def Ob (f:Pt→Pt) (l:List Int):List Int:=key (f (l.getD 0 0,l.getD 1 0))
theorem Lz {a b c d:Pt} :(K4 (f a) (f b) (f c) (f d)).length=(K4 a b c d).length:=by
 have hn:((K4 a b c d).map (Ob f)).Nodup:=by
  refine List.pairwise_map.2 (List.Pairwise.imp_of_mem (R:=fun x y=>x≠y) (fun {x y} hx hy hne e=> ?_) (mW a b c d))
  obtain ⟨p,_,rfl⟩:=gD.1 hx
  obtain ⟨q,_,rfl⟩:=gD.1 hy
  exact hne (congrArg key (Dx A (key_inj.1 (show key (f p)=key (f q) from e))))
 have e:(K4 (f a) (f b) (f c) (f d)).Perm ((K4 a b c d).map (Ob f)):=(List.perm_ext_iff_of_nodup (mW _ _ _ _) hn).2 fun x=>by
  rw [gD,List.mem_map]
  constructor
  ·rintro ⟨p,hp,rfl⟩
   obtain ⟨q,hq,rfl⟩:=(Dy A).1 hp
   exact ⟨key q,gD.2 ⟨q,hq,rfl⟩,rfl⟩
  ·rintro ⟨y,hy,rfl⟩
   obtain ⟨q,hq,rfl⟩:=gD.1 hy
   exact ⟨f q,(Dy A).2 ⟨q,hq,rfl⟩,rfl⟩
 rw [e.length_eq,List.length_map]
theorem E3 {a b c d:Pt} :fm (f a) (f b) (f c) (f d)=fm a b c d:=by
 obtain ⟨k,hk,ha⟩:=AP A
 unfold fm
 rw [Lz A]
 have h2:∀p q r s t u,sd (f p) (f q) (f r)*sd (f s) (f t) (f u)<0↔sd p q r*sd s t u<0:=fun p q r s t u=>by
  rw [nM,nM,nM,nM,ha,ha,qn,qn]
  rw [show k*aj p q r*(k*aj s t u)=(k*k)*(aj p q r*aj s t u) by grind]
  exact Oa (yZ hk)
 simp only [h2]
theorem E5 {a b c d:Pt} (h:bn a∧bn b∧bn c∧bn d) (h':bn (f a)∧bn (f b)∧bn (f c)∧bn (f d)):eW (f a) (f b) (f c) (f d)=eW a b c d:=by
 rw [tw,tw,if_pos h,if_pos h',E3 A]
theorem y3 {a b c:Pt} (h:bn a∧bn b∧bn c) (h':bn (f a)∧bn (f b)∧bn (f c)):lH (f a) (f b) (f c)=lH a b c:=by
 unfold lH
 rw [decide_eq_true h,decide_eq_true h',vJ A]
end
theorem ir {f:Pt→Pt} {l:List Pt} {i:Nat} (h:i<l.length):(l.map f).getD i (0,0)=f (l.getD i (0,0)):=by
 simp [List.getD_eq_getElem?_getD,List.getElem?_eq_getElem h]
theorem rV {f:Pt→Pt} {d:Dr} {i:Nat} :(fk f d).ls.getD i []=(d.ls.getD i []).map f:=by
 unfold fk
 simp only [List.getD_eq_getElem?_getD,List.getElem?_map]
 cases d.ls[i]? <;>rfl
theorem tK {f:Pt→Pt} {l:List Pt} {q:Pc} (h:q∈eD (l.map f)):∃a b,(a,b)∈eD l∧q=(f a,f b)∧a∈l∧b∈l:=by
 obtain ⟨j,hj,rfl⟩:=yG.1 h
 rw [List.length_map] at hj
 exact ⟨_,_,yG.2 ⟨j,hj,rfl⟩,by rw [ir (by omega),ir (by omega)],aD (by omega),aD (by omega)⟩
theorem Dz {p:Pt} (h:bn p):jZ p=false:=by rw [qj,decide_eq_true h];rfl
section
variable {f:Pt→Pt} (A:O0 f) {g:Gr} {d:Dr} (hP:s5 g d) (i1:∀q∈d.pts,bn (f q)) (i2:∀l∈d.ls,∀q∈l,bn (f q))
include A hP i1 i2
theorem AQ (h:rC g d):rC g (fk f d):=by
 have hm:=h.may
 have hlen:∀i,i<g.es.length→2≤(d.ls.getD i []).length∧d.ls.getD i []∈d.ls:=fun i hi=>by
  have hl:d.ls.getD i []∈d.ls:=aD (by rw [hP.nl];exact hi)
  exact ⟨(hP.len _ hl).1,hl⟩
 have hpt:∀x:Int,0≤x→x<g.n→(fk f d).pts.getD x.toNat (0,0)=f (d.pts.getD x.toNat (0,0))∧d.pts.getD x.toNat (0,0)∈d.pts:=fun x h0 h1=>by
  have:=hP.np
  exact ⟨ir (by omega),aD (by omega)⟩
 refine ⟨?_, ?_,fun i hi=> ?_,fun i hi=> ?_,fun x hx=> ?_,fun i hi=> ?_,fun i hi=> ?_⟩
 ·have h1:=h.fit
  unfold fz fk at*
  simpa using h1
 ·unfold dH
  simp only [Bool.and_eq_true,Bool.not_eq_true',List.any_eq_false]
  refine ⟨fun q hq=> ?_,fun l hl=> ?_⟩
  ·obtain ⟨q',h1,rfl⟩:=List.mem_map.1 hq
   rw [Dz (i1 q' h1)];simp
  ·obtain ⟨l',h1,rfl⟩:=List.mem_map.1 hl
   have h2:=hP.len l' h1
   unfold iB
   have h3:(l'.map f).any jZ=false:=List.any_eq_false.2 fun q hq=>by
    obtain ⟨q',h4,rfl⟩:=List.mem_map.1 hq
    rw [Dz (i2 l' h1 q' h4)];simp
   rw [h3,List.length_map,decide_eq_false (by omega),decide_eq_false (by omega)];simp
 ·obtain ⟨l1,l2⟩:=hlen i hi
  have he:=dX hm hi
  have h1:=h.ends i hi
  unfold om at h1 ⊢
  simp only [Bool.and_eq_true,decide_eq_true_eq] at h1 ⊢
  rw [rV,(hpt _ he.1.1 he.1.2).1,(hpt _ he.2.1 he.2.2).1,List.length_map,ir (by omega),ir (by omega),h1.1,h1.2]
  exact ⟨rfl,rfl⟩
 ·have h1:=h.BP i hi
  rw [rV]
  unfold fF at h1 ⊢
  simp only [Bool.not_eq_true',List.any_eq_false,decide_eq_true_eq] at h1 ⊢
  intro q hq
  obtain ⟨a,b,h2,rfl,_,_⟩:=tK hq
  have h3:=h1 _ h2
  obtain ⟨c,e,hc,hy⟩:=A.y
  show ¬(f b).2≤(f a).2
  rw [hy,hy]
  have:0<c*(b.2 - a.2):=Int.mul_pos hc (by show 0<b.2 - a.2;have:¬b.2≤a.2:=h3;omega)
  rw [Int.mul_sub] at this
  omega
 ·have hx':x<d.pts.length:=by simpa [fk] using hx
  have h1:=h.alone x hx'
  unfold dY at h1 ⊢
  simp only [Bool.not_eq_true',decide_eq_false_iff_not] at h1 ⊢
  intro hmem
  refine h1 ?_
  have e1:(fk f d).pts.getD x (0,0)=f (d.pts.getD x (0,0)):=ir hx'
  have e2:(fk f d).pts.take x=(d.pts.take x).map f:=by unfold fk;rw [List.map_take]
  rw [e1,e2] at hmem
  obtain ⟨q,h2,h3⟩:=List.mem_map.1 hmem
  rw [← Dx A h3];exact h2
 ·have h1:=h.free i hi
  obtain ⟨l1,l2⟩:=hlen i hi
  unfold jw mh at h1 ⊢
  rw [List.all_eq_true] at h1 ⊢
  intro x hx
  have hx':x<d.pts.length:=by simpa [fk] using hx
  have h2:=h1 x (List.mem_range.2 hx')
  rw [rV]
  have e1:(fk f d).pts.getD x (0,0)=f (d.pts.getD x (0,0)):=ir hx'
  rw [e1]
  simp only [Bool.or_eq_true,decide_eq_true_eq,Bool.not_eq_true'] at h2 ⊢
  refine h2.imp id fun h3=> ?_
  unfold JN at h3 ⊢
  rw [List.any_eq_false] at h3 ⊢
  intro q hq
  obtain ⟨a,b,h4,rfl,ha,hb⟩:=tK hq
  have h5:=h3 _ h4
  have hpx:d.pts.getD x (0,0)∈d.pts:=aD hx'
  show ¬lH (f a) (f b) _=true
  rw [y3 A ⟨hP.kT _ l2 _ ha,hP.kT _ l2 _ hb,hP.Lh _ hpx⟩ ⟨i2 _ l2 _ ha,i2 _ l2 _ hb,i1 _ hpx⟩]
  exact h5
 ·have h1:=h.apart i hi
  obtain ⟨l1,l2⟩:=hlen i hi
  unfold fu gV at h1 ⊢
  rw [List.all_eq_true] at h1 ⊢
  intro k hk
  have hki:=List.mem_range.1 hk
  obtain ⟨m1,m2⟩:=hlen k (by omega)
  have h2:=h1 k hk
  rw [List.all_eq_true] at h2 ⊢
  rw [rV,rV]
  intro qa U1
  obtain ⟨a1,a2,h3,rfl,ha1,ha2⟩:=tK U1
  have h4:=h2 _ h3
  rw [List.all_eq_true] at h4 ⊢
  intro qb U2
  obtain ⟨b1,b2,h5,rfl,aC,aI⟩:=tK U2
  have h6:=h4 _ h5
  have Jg:∀q∈eC g d i k,q∈d.pts:=fun q hq=>by
   unfold eC oo at hq
   obtain ⟨x,hx,rfl⟩:=List.mem_map.1 hq
   have hx:=(List.mem_filter.1 hx).1
   have he:=dX hm hi
   have hx:x=(g.es.getD i (0,0)).1∨x=(g.es.getD i (0,0)).2:=by simpa using hx
   rcases hx with rfl|rfl
   ·exact (hpt _ he.1.1 he.1.2).2
   ·exact (hpt _ he.2.1 he.2.2).2
  have hce:eC g (fk f d) i k=(eC g d i k).map f:=by
   unfold eC oo
   rw [List.map_map]
   refine List.map_congr_left fun x hx=> ?_
   have hx:=(List.mem_filter.1 hx).1
   have he:=dX hm hi
   have hx:x=(g.es.getD i (0,0)).1∨x=(g.es.getD i (0,0)).2:=by simpa using hx
   rcases hx with rfl|rfl
   ·exact (hpt _ he.1.1 he.1.2).1
   ·exact (hpt _ he.2.1 he.2.2).1
  rw [hce]
  unfold fG at h6 ⊢
  have ia:=hP.kT _ l2
  have ib:=hP.kT _ m2
  have ja:=i2 _ l2
  have jb:=i2 _ m2
  have e1:eW (f a1) (f a2) (f b1) (f b2)=eW a1 a2 b1 b2:=E5 A ⟨ia _ ha1,ia _ ha2,ib _ aC,ib _ aI⟩ ⟨ja _ ha1,ja _ ha2,jb _ aC,jb _ aI⟩
  simp only at h6 ⊢
  rw [e1,List.any_map]
  have e2:(eC g d i k).any ((fun p=>lH (f a1) (f a2) p&&lH (f b1) (f b2) p) ∘ f)=(eC g d i k).any fun p=>lH a1 a2 p&&lH b1 b2 p:=by
   rw [Bool.eq_iff_iff,List.any_eq_true,List.any_eq_true]
   refine exists_congr fun q=>and_congr_right fun hq=> ?_
   show (lH (f a1) (f a2) (f q)&&lH (f b1) (f b2) (f q))=true↔_
   rw [y3 A ⟨ia _ ha1,ia _ ha2,hP.Lh _ (Jg q hq)⟩ ⟨ja _ ha1,ja _ ha2,i1 _ (Jg q hq)⟩,y3 A ⟨ib _ aC,ib _ aI,hP.Lh _ (Jg q hq)⟩ ⟨jb _ aC,jb _ aI,i1 _ (Jg q hq)⟩]
  rw [e2]
  exact h6
end
def AR (SN p:Pt):Pt:=(3*p.1+SN.1,5*p.2+SN.2)
def gL (p:Pt):Pt:=(-p.1,p.2)
theorem Jh {b:Pt} :O0 (AR b):=⟨⟨3,b.1,by omega,fun _=>rfl⟩,⟨5,b.2,by omega,fun _=>rfl⟩⟩
theorem Ji:O0 gL:=⟨⟨-1,0,by omega,fun a=>by show -a.1=_;omega⟩,⟨1,0,by omega,fun a=>by show a.2=_;omega⟩⟩
end Go.Ab
end
section
namespace Go.Ab
open Go.Proofs
set_option maxRecDepth 10000
set_option linter.unusedSectionVars false
def Oc (l:List Int):Nat→List (List Int × Int)
 |0=> []
 |j+1=>vV (Oc l j) [l.getD j 0] (fN (Oc l j) [l.getD j 0]+1)
theorem Jj {ak:List (List Int × Int)} {k:List Int} {v:Int} (hn:(ak.map (·.1)).Nodup) (h:(k,v)∈ak):fN ak k=v:=by
 unfold fN
 cases hf:cz ak k with
 |none=>exact absurd rfl (jj hf _ h)
 |some i=>
  obtain ⟨p,hp,e⟩:=eM hf
  obtain ⟨j,hj,e2⟩:=List.mem_iff_getElem.1 h
  have hi:=(List.getElem?_eq_some_iff.1 hp).1
  have:i=j:=by
   have h1:(ak.map (·.1))[i]'(by simpa using hi)=(ak.map (·.1))[j]'(by simpa using hj):=by
    rw [List.getElem_map,List.getElem_map,e2]
    have:=(List.getElem?_eq_some_iff.1 hp).2
    rw [this,e]
   exact (List.getElem_inj hn).1 h1
  subst this
  simp only [hp,Option.map_some,Option.getD_some]
  have h2:=(List.getElem?_eq_some_iff.1 hp).2
  rw [e2] at h2
  rw [← h2]
theorem E6 {ak:List (List Int × Int)} {k:List Int} (h:∀p∈ak,p.1≠k):fN ak k=0:=by
 unfold fN
 cases hf:cz ak k with
 |none=>rfl
 |some i=>
  obtain ⟨p,hp,e⟩:=eM hf
  exact absurd e (h p (List.mem_of_getElem? hp))
theorem lW {ak:List (List Int × Int)} {i:Nat} {v:Int} :(jX ak i v).map (·.1)=ak.map (·.1):=by
 refine List.ext_getElem? fun j=> ?_
 rw [List.getElem?_map,List.getElem?_map,jX,List.getElem?_modify]
 cases ak[j]? with
 |none=>rfl
 |some p=>by_cases h:i=j<;>simp [h]
theorem AS {ak:List (List Int × Int)} {i:Nat} {v:Int} {p:List Int × Int} (h:p∈jX ak i v):p∈ak∨p.2=v:=by
 obtain ⟨j,hj,e⟩:=List.mem_iff_getElem.1 h
 have h1:(jX ak i v)[j]? =some p:=by rw [List.getElem?_eq_getElem hj,e]
 rw [jX,List.getElem?_modify] at h1
 cases hq:ak[j]? with
 |none=>rw [hq] at h1;simp at h1
 |some q=>
  rw [hq] at h1
  by_cases hij:i=j
  ·simp [hij] at h1;right;rw [← h1]
  ·simp [hij] at h1;left;rw [← h1];exact List.mem_of_getElem? hq
structure AT (ak:List (List Int × Int)) (j:Nat) (S:Int→Prop):Prop where
 nd:(ak.map (·.1)).Nodup
 mem:∀k,k∈ak.map (·.1)↔∃x,S x∧k= [x]
 uV:∀p∈ak,1≤p.2∧p.2≤j
theorem AT.val {ak:List (List Int × Int)} {j:Nat} {S:Int→Prop} (h:AT ak j S) (x:Int):0≤fN ak [x]∧fN ak [x]≤j∧(S x→1≤fN ak [x]):=by
 by_cases hx:S x
 ·have:=(h.mem [x]).2 ⟨x,hx,rfl⟩
  obtain ⟨p,hp,e⟩:=List.mem_map.1 this
  have hr:=h.uV p hp
  have hv:fN ak [x]=p.2:=Jj h.nd (by rw [← e];exact hp)
  rw [hv]
  exact ⟨by omega,hr.2,fun _=>hr.1⟩
 ·have:fN ak [x]=0:=E6 fun p hp e=>by
   obtain ⟨y,hy,e2⟩:=(h.mem p.1).1 (List.mem_map.2 ⟨p,hp,rfl⟩)
   rw [e] at e2
   have:x=y:=by injection e2
   subst this;exact hx hy
  rw [this]
  exact ⟨by omega,by omega,fun h=>absurd h hx⟩
theorem AT.step {ak:List (List Int × Int)} {j:Nat} {S:Int→Prop} (h:AT ak j S) (x:Int):AT (vV ak [x] (fN ak [x]+1)) (j+1) (fun y=>S y∨y=x):=by
 obtain ⟨v1,v2,v3⟩:=h.val x
 unfold vV dI iE
 cases hf:cz ak [x] with
 |some i=>
  simp only
  obtain ⟨p,hp,e⟩:=eM hf
  have hx:S x:=by
   obtain ⟨y,hy,e2⟩:=(h.mem p.1).1 (List.mem_map.2 ⟨p,List.mem_of_getElem? hp,rfl⟩)
   rw [e] at e2
   have:x=y:=by injection e2
   subst this;exact hy
  refine ⟨by rw [lW];exact h.nd,fun k=> ?_,fun q hq=> ?_⟩
  ·rw [lW,h.mem]
   constructor
   ·rintro ⟨y,hy,e⟩;exact ⟨y, .inl hy,e⟩
   ·rintro ⟨y,hy|hy,e⟩
    ·exact ⟨y,hy,e⟩
    ·subst hy;exact ⟨y,hx, ‹k= [y]›⟩
  ·rcases AS hq with h1|h1
   ·have:=h.uV q h1;omega
   ·omega
 |none=>
  simp only
  have hnk:([x]:List Int)∉ak.map (·.1):=fun hm=>by
   obtain ⟨p,hp,e⟩:=List.mem_map.1 hm
   exact jj hf p hp e
  refine ⟨?_,fun k=> ?_,fun q hq=> ?_⟩
  ·rw [lW,List.map_append,List.nodup_append]
   exact ⟨h.nd,by simp,fun a ha b hb e=>by
    simp only [List.map_cons,List.map_nil,List.mem_singleton] at hb
    subst hb;subst e;exact hnk ha⟩
  ·rw [lW,List.map_append,List.mem_append,h.mem]
   simp only [List.map_cons,List.map_nil,List.mem_singleton]
   constructor
   ·rintro (⟨y,hy,e⟩|e)
    ·exact ⟨y, .inl hy,e⟩
    ·exact ⟨x, .inr rfl,e⟩
   ·rintro ⟨y,hy|rfl,e⟩
    ·exact .inl ⟨y,hy,e⟩
    ·exact .inr e
  ·rcases AS hq with h1|h1
   ·rw [List.mem_append,List.mem_singleton] at h1
    rcases h1 with h1|rfl
    ·have:=h.uV q h1;omega
    ·
     exfalso
     obtain ⟨i,hi,e⟩:=List.mem_iff_getElem.1 hq
     have h2:(jX (ak++ [([x],0)]) ak.length (fN ak [x]+1))[i]? =some ([x],0):=by rw [List.getElem?_eq_getElem hi,e]
     rw [jX,List.getElem?_modify] at h2
     by_cases hie:ak.length=i
     ·subst hie;simp at h2;omega
     ·simp only [hie,if_false] at h2
      rcases Nat.lt_or_ge i ak.length with h3|h3
      ·rw [List.getElem?_append_left h3] at h2
       have h4:(([x],0):List Int × Int)∈ak:=by
        simp at h2;exact List.mem_of_getElem? h2
       exact hnk (List.mem_map.2 ⟨_,h4,rfl⟩)
      ·rw [List.getElem?_eq_none (by simp;omega)] at h2;simp at h2
   ·omega
end Go.Ab
end
section
namespace Go.Ab
open Go.Proofs
set_option maxRecDepth 10000
set_option linter.unusedSectionVars false
section
variable {g:Gr} {p:Pl} (hrun:dF g p) (hI:H9 g=true) (h0:0<g.es.length) (Od:g.es.length≤60)
include hrun hI h0 Od
end
end Go.Ab
end
section
namespace Go.Ab
set_option maxRecDepth 10000
set_option linter.unusedSectionVars false
variable {P:PS}
section
variable (h:P.Ok)
include h
end
def PS.Wg (P:PS) (a b:Int):Prop:=∃j,j≤P.m∧a∈(P.st j).D∧b∉(P.st j).D
def PS.Wh (P:PS) (L R:Int→Int) (a b:Int):Prop:=∃u e f v,P.outs a=u++ [e]∧P.outs b=f::v∧P.Lp L R (R e) (L f)
section
variable (h:P.Ok) {L R:Int→Int} {f0 f1:Int} {low:Int→Int} (F:P.jT L R f0 f1 low)
include h F
end
end Go.Ab
end
section
namespace Go.Ab
open Go.Proofs
set_option maxRecDepth 10000
set_option linter.unusedSectionVars false
section
variable {g:Gr} {p:Pl} (h:dF g p)
include h
variable (hI:H9 g=true)
include hI
end
end Go.Ab
end
section
namespace Go.Ab
open Go.Proofs
set_option maxRecDepth 10000
end Go.Ab
end
section
namespace Go.Ab
open Go.Proofs
set_option maxRecDepth 10000
set_option linter.unusedSectionVars false
def Wi (g:Gr) (p:Pl) (rev:Bool) (v:Int):Int:=(Di g p rev g.n.toNat).getD v.toNat 0
section
variable {g:Gr} {p:Pl} (h:dF g p)
include h
variable (hI:H9 g=true)
include hI
end
end Go.Ab
end
section
namespace Go.Ab
open Go.Proofs Go.RowKit Go.Shelf
attribute [local go_sem] Oper.semAt_some
attribute [local congr] ACall.congr gd.congr Nx.congr
theorem Oe {W:World} {z:Nat→Nat} {p:Value} {x:D} (h:Rd W z p (.pt [x])):∃b off v,p= .pointer (some ⟨b,off,none⟩)∧W.cell? ⟨b,off,none⟩=some v∧Rd W z v x:=by
 cases h with
 |pt b off cells vs hz hc hr=>exact ⟨b,off,vs 0,rfl,by simpa using hc 0 (by simp),hr 0 x rfl⟩
theorem RG {W:World} {z:Nat→Nat} {v:Value} {sz:Nat} {rows:List (List D)} (h:Rd W z v (.sl sz rows)):(∃p,v= .slice p 0 0∧rows= [])∨∃(b off cap:Nat) (vs:Nat→Value),v= .slice (some ⟨b,off,none⟩) rows.length cap∧rows.length≤cap∧(∀r∈rows,r.length=sz)∧
 (∀k,k<rows.length*sz→W.cell? ⟨b,off+k,none⟩=some (vs k))∧∀(i j:Nat) (r:List D) (x:D),rows[i]? =some r→r[j]? =some x→Rd W z (vs (i*sz+j)) x:=by
 cases h with
 |nil p sz=>exact .inl ⟨p,rfl,rfl⟩
 |sl b off n cap sz rows vs hn hsz hz hcap hc hr=>subst hn;exact .inr ⟨b,off,cap,vs,rfl,hcap,hsz,hc,hr⟩
set_option maxRecDepth 100000 in
set_option maxHeartbeats 4000000 in
theorem Jk (rows:List (List D)) (h3:∀r∈rows,r.length=3) (hl:rows.length≤1000000):Gg Tryz.prog 95 3 rows:=by
 intro l p J W hJ h0
 obtain ⟨z0,A7,_⟩:=hJ 0 W h0
 obtain ⟨B,o,v0,rfl,Kk,Mn⟩:=Oe A7
 have hc:∀k W1,J k W1→∃pp cap,W1.cell? ⟨B,o,none⟩=some (.slice pp rows.length cap)∧(k<rows.length→∃b1 o1,pp=some ⟨b1,o1,none⟩∧∃u0 u1 u2:Value,
  W1.cell? ⟨b1,o1+(rows.length - 1 - k)*3,none⟩=some u0∧W1.cell? ⟨b1,o1+(rows.length - 1 - k)*3+1,none⟩=some u1∧W1.cell? ⟨b1,o1+(rows.length - 1 - k)*3+2,none⟩=some u2∧
  YieldAt Fence.wide 3 Tryz.prog l #[.int .i64 ((rows.length - 1 - k:Nat):Int), .agg #[u0,u1,u2]] W1 fun e W2=>e= .returned (.bool true)∧J (k+1) W2):=by
  intro k W1 hk
  obtain ⟨z,hp,hy⟩:=hJ k W1 hk
  obtain ⟨B',o',v,e,hv,hr⟩:=Oe hp
  cases e
  rcases RG hr with ⟨pp,rfl,rfl⟩|⟨b,off,cap,vs,rfl,hcap,hsz,hcs,y9⟩
  ·exact ⟨pp,0,hv,fun h=>absurd h (by simp)⟩
  ·refine ⟨_,cap,hv,fun cF=>⟨b,off,rfl,vs ((rows.length - 1 - k)*3),vs ((rows.length - 1 - k)*3+1),vs ((rows.length - 1 - k)*3+2), ?_, ?_, ?_, ?_⟩⟩
   ·exact hcs ((rows.length - 1 - k)*3) (by omega)
   ·exact hcs ((rows.length - 1 - k)*3+1) (by omega)
   ·exact hcs ((rows.length - 1 - k)*3+2) (by omega)
   ·have hlt:rows.length - 1 - k<rows.length:=by omega
    refine hy cF [vs ((rows.length - 1 - k)*3),vs ((rows.length - 1 - k)*3+1),vs ((rows.length - 1 - k)*3+2)] rfl fun i u x hu hx=> ?_
    have hx':∃r,rows[rows.length - 1 - k]? =some r∧r[i]? =some x:=⟨rows[rows.length - 1 - k],List.getElem?_eq_getElem hlt,by rw [List.getD_eq_getElem?_getD,List.getElem?_eq_getElem hlt] at hx;exact hx⟩
    obtain ⟨r,pM,uf⟩:=hx'
    have:=y9 (rows.length - 1 - k) i r x pM uf
    match i,hu with
    |0,hu=>cases hu;exact this
    |1,hu=>cases hu;exact this
    |2,hu=>cases hu;exact this
 clear hJ A7 Mn Kk
 refine callsIn_of_wp Tryz.func95 rfl trivial ?_ rfl
 simp only [Tryz.ntmps95,List.size_toArray,List.length_cons,List.length_nil,Nat.reduceAdd,Nat.reduceSub,Array.replicate_succ,Array.replicate_zero,List.push_toArray,List.append_toArray,List.nil_append,List.cons_append]
 obtain ⟨Wj,U3,hc0,_⟩:=hc 0 W h0
 have hw:wrap64 ((rows.length:Int) - 1)=(rows.length:Int) - 1:=by unfold wrap64;omega
 gi_wp2
 gi_loopw [3] (fun i wr=>∃k:Nat,k≤rows.length∧i= .int .i64 ((rows.length:Int) - 1 - k)∧J k wr) (fun i _=>(Go.RowKit.intOf i+1).toNat)
 case atStart=>exact ⟨0,Nat.zero_le _,by simp,h0⟩
 case round=>
  obtain ⟨k,hk,rfl,MW⟩:=hrel
  obtain ⟨pp,cap,OK,Of⟩:=hc k wr MW
  by_cases hlt:k<rows.length
  ·obtain ⟨b1,o1,rfl,u0,u1,u2,g0,g1,g2,fn,tmps,assign,body,hy,hR⟩:=Of hlt
   have hi:((rows.length - 1 - k:Nat):Int)=(rows.length:Int) - 1 - k:=by omega
   rw [hi] at hy
   have hi2:((rows.length:Int) - 1 - k).toNat=rows.length - 1 - k:=by omega
   have Wk:0≤(rows.length:Int) - 1 - k:=by omega
   have Ur:wrap64 ((rows.length:Int) - 1 - k - 1)=(rows.length:Int) - 1 - k - 1:=by unfold wrap64;omega
   gi_wp2
   refine hR.mono ?_
   rintro e W3 ⟨rfl,QZ⟩
   gi_wp2
   go_roundw
   case rel=>exact ⟨k+1,by omega,by congr 1;omega,QZ⟩
   case measure=>simp [Go.RowKit.intOf];omega
  ·obtain rfl:k=rows.length:=by omega
   gi_wp2
   go_end0
   exact ⟨⟨_,rfl⟩,MW⟩
end Go.Ab
end
section
namespace Go.Ab
open Go.Proofs
set_option maxRecDepth 10000
variable {g:Gr} {p:Pl}
def qM (g:Gr) (p:Pl) (v:Nat):List Int:=(p.outs.getD v []).map (fun i=>2*i)++(((iq g p g.n.toNat).getD v []).reverse.filter fun t=> !decide (t.1= -1)).map fun t=>2*t.1+1
def cI (g:Gr) (p:Pl):List (List Int):=(List.range p.outs.length).map (qM g p)
theorem Jl (hr:dF g p) {k:Nat} (hk:k<g.n.toNat):∀t∈qx g p k,B4 g t:=by
 have tF:=hr.2.1
 have hm:=bW hr.1
 obtain ⟨hi,_,_⟩:=lT hm tF (k:=k) (by omega) fun j hj=>hr.2.2 j (by omega)
 have hR:aK g (fK g p k) (bJ p k)=true:=hr.2.2 k (by omega)
 have hx:=dZ tF (k:=k) (by omega)
 unfold qx
 by_cases hn:bM g (bJ p k)=0
 ·rw [jg _ (ij hm hi.toiO hx.1 hn)]
  intro t ht;cases ht
 ·obtain ⟨A,X,C,hrw,nA,nC,hX,cX⟩:=cm hm hi.toiO hR hn
  rw [iw _ hrw nA nC hX]
  intro t ht
  exact hi.it t (by rw [hrw];simp [show t∈X from ht])
end Go.Ab
end
section
namespace Go.Ab
open Go.Proofs
attribute [local congr] ACall.congr gd.congr Nx.congr
set_option maxRecDepth 20000
set_option maxHeartbeats 16000000
theorem wu (gN:List It):Spec Tryz.prog 48 (Args [.d (sT gN)]) [] (.fn 95 [] [.d (.pt [.sl 3 (gN.map rT)])]) []:=by
 (refine Spec.hd (C:=T.cfg [] []) (rs:= [.t 2]) (T.ah _ _) Tryz.func48 rfl rfl Tryz.ntmps48 Tryz.results48 (by simp [AObj.isNest]) (by simp [AObj.isNest]) (by kernel_rfl) T.mixed fun X hX hP hC aB bK=> ?_)
 repeat' (first|refine Rn.p ?_|(with_reducible apply And.intro)|((first|(refine hK _ ?_;clear hK K)|with_reducible intro K hK|refine Rs.p ?_|((with_reducible first|apply oP|apply oQ);exact rfl));try simp only [go_sem,simprocAttr])|((with_reducible refine oD ?_ ?_);kernel_rfl)|((with_reducible intro h);try simp only [go_sem,simprocAttr] at h)|omega|intro h)
section
variable {g:Gr} {p:Pl}
theorem DA (hr:dF g p) {x:Nat} (hx:x<g.n.toNat):((iq g p g.n.toNat).getD x []).length≤10000∧∀t∈(iq g p g.n.toNat).getD x [],t.1= -1∨(0≤t.1∧t.1<g.es.length):=by
 have tF:=hr.2.1
 have hm:=bW hr.1
 have hn:=bF hm
 obtain ⟨k,hk,ek⟩:=qy tF (x:=(x:Int)) (by omega) (by omega)
 have e1:=yQ tF (k:=g.n.toNat) (Nat.le_refl _) hk
 rw [ek,Int.toNat_natCast] at e1
 rw [e1]
 refine ⟨?_,fun t ht=> ?_⟩
 ·obtain ⟨hi,_,hrl⟩:=lT hm tF (k:=k) (by omega) fun j hj=>hr.2.2 j (by omega)
  have hR:aK g (fK g p k) (bJ p k)=true:=hr.2.2 k (by omega)
  have hmul:k*(g.es.length+1)≤64*129:=Nat.mul_le_mul (by omega) (by omega)
  have hx:=dZ tF (k:=k) (by omega)
  unfold qx
  by_cases hn0:bM g (bJ p k)=0
  ·rw [jg _ (ij hm hi.toiO hx.1 hn0)];simp
  ·obtain ⟨A,X,C,hrw,nA,nC,hX,cX⟩:=cm hm hi.toiO hR hn0
   rw [iw _ hrw nA nC hX]
   rw [hrw] at hrl
   simp only [List.length_append] at hrl
   show X.length≤_
   omega
 ·rcases Jl hr hk t ht with ⟨h0,_⟩|⟨h0,h1,_⟩
  ·exact .inl h0
  ·exact .inr ⟨h0,h1⟩
theorem y4 (hr:dF g p) {x:Nat} (hx:x<g.n.toNat):(p.outs.getD x []).length≤g.es.length∧∀i∈p.outs.getD x [],0≤i∧i<g.es.length:=by
 have tF:=hr.2.1
 have hl:=yP tF (x:=(x:Int)) (by omega) (by omega)
 have hp:=eu tF (x:=(x:Int)) (by omega) (by omega)
 unfold kU at hl hp
 rw [Int.toNat_natCast] at hl hp
 exact ⟨hl,fun i hi=>(gZ (hp.mem_iff.1 hi)).1⟩
end
def Cx (gN:List It) (k:Nat):List Int:=((gN.reverse.take k).filter fun t=> !decide (t.1= -1)).map fun t=>2*t.1+1
theorem Jm {gN:List It} :Cx gN gN.length=(gN.reverse.filter fun t=> !decide (t.1= -1)).map fun t=>2*t.1+1:=by
 unfold Cx
 rw [List.take_of_length_le (by simp)]
theorem HK {gN:List It} {k:Nat} (hk:k<gN.length):Cx gN (k+1)=Cx gN k++(if (gN.getD (gN.length - 1 - k) (0,0,0)).1= -1 then [] else [2*(gN.getD (gN.length - 1 - k) (0,0,0)).1+1]):=by
 unfold Cx
 have hk':k<gN.reverse.length:=by simpa using hk
 rw [List.take_add_one,List.getElem?_eq_getElem hk',List.filter_append,List.map_append]
 congr 1
 rw [List.getElem_reverse,List.getD_eq_getElem?_getD,List.getElem?_eq_getElem (by omega)]
 simp only [Option.toList_some,Option.getD_some,List.filter_cons,List.filter_nil]
 split<;>rename_i h
 ·rw [if_neg (by simpa using h)];rfl
 ·rw [if_pos (by simpa using h)];rfl
theorem DB {gN:List It} {k:Nat} :(Cx gN k).length≤gN.length:=by
 unfold Cx
 rw [List.length_map]
 have h1:=List.length_filter_le (fun t:It=> !decide (t.1= -1)) (gN.reverse.take k)
 have h2:(gN.reverse.take k).length≤gN.length:=by rw [List.length_take,List.length_reverse];omega
 omega
theorem gl {g:Gr} {p:Pl} :(cI g p).length=p.outs.length:=by simp [cI]
theorem Cy {g:Gr} {p:Pl} {k:Nat} (hk:k<p.outs.length):(cI g p).take (k+1)=(cI g p).take k++ [qM g p k]:=by
 rw [List.take_add_one,List.getElem?_eq_getElem (by rw [gl];exact hk)]
 simp [cI]
theorem xN (g:Gr) (hl:g.es.length≤1000) (p:Pl) (hr:dF g p):Spec Tryz.prog 12 (Args [eG g,ePl p]) [] (.tup [.d (.sl 1 (vI (cI g p))),eN 0]) []:=by
 have hb:(true=true)↔(dD g).1=0∧cH g p:=⟨fun _=>⟨hr.1,hr.2.1⟩,fun _=>rfl⟩
 have tF:=hr.2.1
 have hm:=bW hr.1
 have hn:=bF hm
 have hlen:=tF.1
 have hall:∀l∈p.outs,l.length≤g.es.length:=fun l hm=>by
  obtain ⟨i,hi,rfl⟩:=List.getElem_of_mem hm
  have:=(y4 hr (x:=i) (by omega)).1
  rwa [List.getD_eq_getElem?_getD,List.getElem?_eq_getElem hi] at this
 have U4:Ho p:=by
  have:=dx tF
  exact ⟨by omega,by omega,fun l hm=>by have:=hall l hm;omega⟩
 have LB:=wk g hl p U4 true hb
 rw [Cn hb hr] at LB
 simp only at LB
 have hel:=qz (g:=g) (p:=p) (k:=g.n.toNat)
 have SO:=fun x hx=>DA hr (x:=x) hx
 have LV:=fun x hx=>y4 hr (x:=x) hx
 have SP:∀x,qM g p x=(p.outs.getD x []).map (fun i=>2*i)++Cx ((iq g p g.n.toNat).getD x []) ((iq g p g.n.toNat).getD x []).length:=fun x=>by rw [Jm];rfl
 generalize iq g p g.n.toNat=ends at LB hel SO SP
 (refine Spec.hd (C:=T.cfg [] []) (rs:= [.t 4, .t 5]) (T.ah _ _) Tryz.func12 rfl rfl Tryz.ntmps12 Tryz.results12 (by simp [AObj.isNest]) (by simp [AObj.isNest]) (by kernel_rfl) T.mixed fun X hX hP hC aB bK=> ?_)
 repeat' (first|(show cA _ (.seq (.region 5 _ _) _) _ _;(refine gv hX 9 300 (.tip 25 1 []) ?_ ?_ (by decide) ⟨25,1,by decide, .inr rfl⟩ ?_;(iterate 2 (focus (simp only [go_sem,simprocAttr];done)));simp only [go_sem,simprocAttr]))|refine Rn.p ?_|(with_reducible apply And.intro)|((first|(refine hK _ ?_;clear hK K)|with_reducible intro K hK|refine Rs.p ?_|((with_reducible first|apply oP|apply oQ);exact rfl)|refine aa hX hC hP (LB) rfl rfl rfl (by simp only [go_sem,simprocAttr]) rfl ?_);try simp only [go_sem,simprocAttr])|((with_reducible refine oD ?_ ?_);kernel_rfl)|((with_reducible intro h);try simp only [go_sem,simprocAttr] at h)|omega|intro h)
 refine ag (fun k:Nat=>k≤p.outs.length) (fun k=>⟨[(6, .d (.sl 1 (vT ends))),(9, .ref 300),(28, .d (.sl 1 (vI p.outs))),(29,eN p.outs.length),(30,eN k)], [(300, .tip 25 1 (vI ((cI g p).take k)))]⟩) (fun k=>p.outs.length - k) 0 (by omega) ?_ ?_
 ·refine Le.of ?_ ?_<;>simp [go_sem,simprocAttr,vI_length,vI]
 rintro k hk
 rcases Nat.lt_or_ge k p.outs.length with hlt|hge
 ·have aC:decide ((k:Int)<(p.outs.length:Int))=true:=decide_eq_true (by omega)
  have oL:=fun d=>nN (ls:=p.outs) hlt d
  have Bb:=fun d=>tA (ls:=ends) (k:=k) (by omega) d
  have gJ:=Cy (g:=g) hlt
  have l7:((cI g p).take k).length=k:=by rw [List.length_take,gl];omega
  have Og:=LV k (by omega)
  have Oh:=SO k (by omega)
  have Jn:=SP k
  have L9:∀l1 l2,vI (l1++ [l2])=vI l1++ [[sI l2]]:=fun l1 l2=>by simp [vI]
  generalize p.outs.getD k []=o at oL Og Jn
  generalize ends.getD k []=gN at Bb Oh Jn
  generalize DG:(cI g p).take (k+1)=T2 at gJ
  generalize (cI g p).take k=T1 at gJ l7
  repeat' (first|(show cA _ (.seq (.region 9 _ _) _) _ _;(refine kj hX 12 0 401 (.tip 3 1 []) rfl rfl rfl (by simp only [go_sem,simprocAttr,vI_length,vT_length,aC,oL,Bb]) (by decide) (by simp [go_sem,simprocAttr,vI_length,vT_length,aC,oL,Bb]) ⟨3,1,by decide, .inr rfl⟩ ?_;simp only [List.set_cons_zero,List.set_cons_succ,go_sem,simprocAttr,vI_length,vT_length,aC,oL,Bb]))|refine Rn.p ?_|(with_reducible apply And.intro)|((first|(refine hK _ ?_;clear hK K)|with_reducible intro K hK|refine Rs.p ?_|((with_reducible first|apply oP|apply oQ);exact rfl)|refine aa hX hC hP (LB) rfl rfl rfl (by simp only [go_sem,simprocAttr,vI_length,vT_length,aC,oL,Bb]) rfl ?_);try simp only [go_sem,simprocAttr,vI_length,vT_length,aC,oL,Bb])|((with_reducible refine oD ?_ ?_);kernel_rfl)|((with_reducible intro h);try simp only [go_sem,simprocAttr,vI_length,vT_length,aC,oL,Bb] at h)|omega|intro h)
  refine ag (fun j:Nat=>j≤o.length) (fun j=>⟨[(6, .d (.sl 1 (vT ends))),(9, .ref 300),(28, .d (.sl 1 (vI p.outs))),(29,eN p.outs.length),(30,eN k),(10,eN k),(12, .ptr 12 0),(35, .d (sI o)),(36,eN o.length),(37,eN j)], [(300, .tip 25 1 (vI T1)),(12, .box [.ref 401]),(401, .tip 3 1 (((o.take j).map fun i=>2*i).map rI))]⟩) (fun j=>o.length - j) 0 (by omega) ?_ ?_
  ·refine Le.of ?_ ?_<;>simp [go_sem,simprocAttr,vI_length,vT_length,aC,oL,Bb]
  rintro j hj
  rcases Nat.lt_or_ge j o.length with hjl|L1
  ·have aI:decide ((j:Int)<(o.length:Int))=true:=decide_eq_true (by omega)
   have hq:=aD (d:=0) hjl
   have Ma:(o.take j).length=j:=by rw [List.length_take];omega
   have LW:o.take (j+1)=o.take j++ [o.getD j 0]:=by
    rw [List.take_add_one,List.getElem?_eq_getElem hjl,List.getD_eq_getElem?_getD,List.getElem?_eq_getElem hjl];rfl
   have hi2:=Og.2 _ hq
   generalize Oi:o.take (j+1)=P2 at LW
   generalize o.take j=P1 at LW Ma
   generalize JF:o.getD j 0=i at LW hi2
   repeat' (first|(show cA _ (.region 13 _ _) _ _;(refine tg hX 12 0 45 401 rfl rfl rfl (by first|exact .inl rfl|exact .inr rfl) (by decide) (by decide) ?_;simp only [List.set_cons_zero,List.set_cons_succ,go_sem,simprocAttr,vI_length,vT_length,aC,aI,oL,Bb,JF,Ma,List.length_map]))|refine Rn.p ?_|(with_reducible apply And.intro)|((first|(refine hK _ ?_;clear hK K)|with_reducible intro K hK|refine Rs.p ?_|((with_reducible first|apply oP|apply oQ);exact rfl)|refine aa hX hC hP (LB) rfl rfl rfl (by simp only [go_sem,simprocAttr,vI_length,vT_length,aC,aI,oL,Bb,JF,Ma,List.length_map]) rfl ?_);try simp only [go_sem,simprocAttr,vI_length,vT_length,aC,aI,oL,Bb,JF,Ma,List.length_map])|((with_reducible refine oD ?_ ?_);kernel_rfl)|((with_reducible intro h);try simp only [go_sem,simprocAttr,vI_length,vT_length,aC,aI,oL,Bb,JF,Ma,List.length_map] at h)|omega|intro h)
   refine ⟨j+1,by omega, ?_,by omega⟩
   rw [Oi,LW]
   refine Le.of ?_ ?_<;>simp [go_sem,simprocAttr,vI_length,vT_length,aC,aI,oL,Bb,JF,Ma,List.length_map,rI]
  have aI:decide ((j:Int)<(o.length:Int))=false:=decide_eq_false (by omega)
  obtain rfl:j=o.length:=by omega
  rw [List.take_length]
  have U5:=wu gN
  repeat' (first|refine Rn.p ?_|(with_reducible apply And.intro)|((first|(refine hK _ ?_;clear hK K)|with_reducible intro K hK|refine Rs.p ?_|((with_reducible first|apply oP|apply oQ);exact rfl)|refine aa hX hC hP (U5) rfl rfl rfl (by simp only [go_sem,simprocAttr,vI_length,vT_length,aC,aI,oL,Bb]) rfl ?_);try simp only [go_sem,simprocAttr,vI_length,vT_length,aC,aI,oL,Bb])|((with_reducible refine oD ?_ ?_);kernel_rfl)|((with_reducible intro h);try simp only [go_sem,simprocAttr,vI_length,vT_length,aC,aI,oL,Bb] at h)|omega|intro h)
  have QU:∀j,(gN.map rT).getD j []=if j<gN.length then rT (gN.getD j (0,0,0)) else []:=fun j=>by
   simp only [List.getD_eq_getElem?_getD,List.getElem?_map]
   split
   ·rename_i h;rw [List.getElem?_eq_getElem h];rfl
   ·rename_i h;rw [List.getElem?_eq_none (by omega)];rfl
  have hrl:(gN.map rT).length=gN.length:=List.length_map ..
  refine Gh hX (gf:=95) (sz:=3) (rows:=gN.map rT) (by rw [hP];exact Jk _ (fun r hr=>by obtain ⟨t,_,rfl⟩:=List.mem_map.1 hr;rfl) (by rw [hrl];omega)) (by rw [hP];exact ⟨_,_,Tryz.func95,rfl,rfl⟩) rfl (fun r hr=>by obtain ⟨t,_,rfl⟩:=List.mem_map.1 hr;rfl)
   (asN [(10000,12),(10001,401)]) [(12, .box [.ref 401]),(401, .tip 3 1 ((o.map fun i=>2*i).map rI))] [(10000, .box [.ref 10001]),(10001, .tip 3 1 ((o.map fun i=>2*i).map rI))] [(12, .ptr 10000 0)]
   (fun j=> [(10000, .box [.ref 402]),(402, .tip 3 1 (((o.map fun i=>2*i)++Cx gN j).map rI))])
   (fun j=>⟨[(16, .ptr 16 0),(12, .ptr 10000 0)], [(16, .box [eN (gN.getD (gN.length - 1 - j) (0,0,0)).1,eN (gN.getD (gN.length - 1 - j) (0,0,0)).2.1,eN (gN.getD (gN.length - 1 - j) (0,0,0)).2.2]),(10000, .box [.ref 402]),(402, .tip 3 1 (((o.map fun i=>2*i)++Cx gN j).map rI))]⟩) ?_ ?_ ?_ ?_ ?_ ?_ ?_ ?_ ?_
  ·refine ⟨by simp [asN,AObj.ren,AV.rens,AV.ren],by simp [nodupM,look],by simp [nodupM,look],by simp [AObj.isNest],by simp [AObj.isNest],fun l l' h h' e=> ?_,by simp [look,asN],by simp [AObj.ro],by simp [AObj.ro],by simp [AV.ids,AV.idss],by simp [AObj.ids,AV.idss,AV.ids,look]⟩
   have mem:∀l,(look [(10000,AObj.box [AV.ref 10001]),(10001,AObj.tip 3 1 ((o.map fun i=>2*i).map rI))] l≠none∨look [(10000,AObj.box [AV.ref 402]),(402,AObj.tip 3 1 (((o.map fun i=>2*i)++Cx gN (gN.map rT).length).map rI))] l≠none)→l=10000∨l=10001∨l=402:=fun l hl=>by
    simp only [look] at hl
    by_cases e1:10000=l
    ·exact .inl e1.symm
    ·by_cases e2:10001=l
     ·exact .inr (.inl e2.symm)
     ·by_cases e3:402=l
      ·exact .inr (.inr e3.symm)
      ·rw [if_neg e1,if_neg e2,if_neg e1,if_neg e3] at hl
       exact absurd rfl (hl.elim id id)
   rcases mem l h with rfl|rfl|rfl<;>rcases mem l' h' with rfl|rfl|rfl<;>first|rfl|(simp [asN] at e)
  ·simp [look]
  ·simp
  ·intro q
   simp only [get]
   by_cases e:12=q
   ·subst e;left;simp [AV.ren,asN]
   ·right;rw [if_neg e]
  ·intro q l hl
   simp only [get] at hl
   by_cases e:12=q
   ·rw [if_pos e] at hl
    simp only [AV.ids,List.mem_singleton] at hl
    subst hl
    rw [bN (by omega)];simp [look]
   ·rw [if_neg e] at hl;simp [AV.ids] at hl
  ·intro X' K8 a w hr
   refine Rel.le ?_ (Rel.PY K8 hr 10000 0 10001 402 rfl rfl rfl (.inr rfl) (by decide) (by decide))
   have hb0:Cx gN 0= []:=by simp [Cx]
   refine Le.of ?_ ?_<;>simp [go_sem,simprocAttr,hb0]
  ·intro j hj X' K8 L3 RH
   have RI:Xc X' (T.cfg [] []):=⟨K8,by rw [RH,hC],by rw [L3,hP];exact hP ▸ aB⟩
   rw [hrl] at hj ⊢
   have ya:=QU (gN.length - 1 - j)
   rw [if_pos (by omega)] at ya
   rw [ya]
   generalize gN.getD (gN.length - 1 - j) (0,0,0)=t
   repeat' (first|refine Rn.p ?_|(with_reducible apply And.intro)|((first|(refine hK _ ?_;clear hK K)|with_reducible intro K hK|refine Rs.p ?_|((with_reducible first|apply oP|apply oQ);exact rfl));try simp only [go_sem,simprocAttr,rT])|((with_reducible refine oD ?_ ?_);kernel_rfl)|((with_reducible intro h);try simp only [go_sem,simprocAttr,rT] at h)|omega|intro h)
   refine ⟨fun Y hY a w hr=>Rel.le ?_ hr⟩
   refine Le.of ?_ ?_<;>simp [go_sem,simprocAttr,rT]
  ·intro j hj X' K8 L3 RH
   have RI:Xc X' (T.cfg [] []):=⟨K8,by rw [RH,hC],by rw [L3,hP];exact hP ▸ aB⟩
   rw [hrl] at hj
   have O1:=HK hj
   have vQ:=DB (gN:=gN) (k:=j)
   have L2:=Oh.2 _ (aD (d:=(0,0,0)) (show gN.length - 1 - j<gN.length by omega))
   generalize gN.getD (gN.length - 1 - j) (0,0,0)=t at*
   generalize Cx gN (j+1)=B2 at*
   generalize Cx gN j=B1 at*
   by_cases ht:t.1= -1
   ·have cU:decide (t.1= -1)=true:=decide_eq_true ht
    rw [if_pos ht,List.append_nil] at O1
    subst O1
    repeat' (first|refine Rn.p ?_|(with_reducible apply And.intro)|((first|(refine hK _ ?_;clear hK K)|with_reducible intro K hK|refine Rs.p ?_|((with_reducible first|apply oP|apply oQ);exact rfl));try simp only [go_sem,simprocAttr,List.length_map,List.length_append,cU])|((with_reducible refine oD ?_ ?_);kernel_rfl)|((with_reducible intro h);try simp only [go_sem,simprocAttr,List.length_map,List.length_append,cU] at h)|omega|intro h)
    refine ⟨fun Y hY a w hr=>Rel.le ?_ hr⟩
    refine Le.of ?_ ?_<;>simp [go_sem,simprocAttr,List.length_map,List.length_append,cU]
   ·have cU:decide (t.1= -1)=false:=decide_eq_false ht
    rw [if_neg ht] at O1
    subst O1
    repeat' (first|refine Rn.p ?_|(with_reducible apply And.intro)|((first|(refine hK _ ?_;clear hK K)|with_reducible intro K hK|refine Rs.p ?_|((with_reducible first|apply oP|apply oQ);exact rfl));try simp only [go_sem,simprocAttr,List.length_map,List.length_append,cU])|((with_reducible refine oD ?_ ?_);kernel_rfl)|((with_reducible intro h);try simp only [go_sem,simprocAttr,List.length_map,List.length_append,cU] at h)|omega|intro h)
    refine ⟨fun Y hY a w hr=>Rel.le ?_ (Rel.PY hY hr 10000 0 63 402 rfl rfl rfl (.inr rfl) (by decide) (by decide))⟩
    refine Le.of ?_ ?_<;>simp [go_sem,simprocAttr,List.length_map,List.length_append,cU,rI]
  ·rw [hrl, ← Jn]
   have U6:(qM g p k).length≤20000:=by
    rw [Jn,List.length_append,List.length_map]
    have:=DB (gN:=gN) (k:=gN.length)
    omega
   generalize qM g p k=tv at*
   simp only [go_sem,simprocAttr,vI_length,vT_length,aC,killM,renM,asN,AObj.ren,AV.rens,AV.ren,L9]
   repeat' (first|(show cA _ (.region 19 _ _) _ _;(refine qZ hX 9 67 300 (by simp only [go_sem,simprocAttr,vI_length,vT_length,aC,killM,renM,asN,AObj.ren,AV.rens,AV.ren,L9]) rfl (by first|exact .inl rfl|exact .inr rfl) (by decide) ?_;simp only [go_sem,simprocAttr,vI_length,vT_length,aC,killM,renM,asN,AObj.ren,AV.rens,AV.ren,L9]))|refine Rn.p ?_|(with_reducible apply And.intro)|((first|(refine hK _ ?_;clear hK K)|with_reducible intro K hK|refine Rs.p ?_|((with_reducible first|apply oP|apply oQ);exact rfl));try simp only [go_sem,simprocAttr,vI_length,vT_length,aC,killM,renM,asN,AObj.ren,AV.rens,AV.ren,L9])|((with_reducible refine oD ?_ ?_);kernel_rfl)|((with_reducible intro h);try simp only [go_sem,simprocAttr,vI_length,vT_length,aC,killM,renM,asN,AObj.ren,AV.rens,AV.ren,L9] at h)|omega|intro h)
   refine ⟨k+1,by omega, ?_,by omega⟩
   rw [DG,gJ]
   refine Le.of ?_ ?_<;>simp [go_sem,simprocAttr,vI_length,vT_length,aC,killM,renM,asN,AObj.ren,AV.rens,AV.ren,L9]
 ·have aC:decide ((k:Int)<(p.outs.length:Int))=false:=decide_eq_false (by omega)
  obtain rfl:k=p.outs.length:=by omega
  rw [List.take_of_length_le (Nat.le_of_eq gl)]
  repeat' (first|refine Rn.p ?_|(with_reducible apply And.intro)|((first|(refine hK _ ?_;clear hK K)|with_reducible intro K hK|refine Rs.p ?_|((with_reducible first|apply oP|apply oQ);exact rfl));try simp only [go_sem,simprocAttr,aC])|((with_reducible refine oD ?_ ?_);kernel_rfl)|((with_reducible intro h);try simp only [go_sem,simprocAttr,aC] at h)|omega|intro h)
end Go.Ab
end
section
namespace Go.Ab
open Go.Proofs
set_option maxRecDepth 10000
set_option linter.unusedSectionVars false
section
variable {g:Gr} {p:Pl} (hrun:dF g p) (hI:H9 g=true) (h0:0<g.es.length) (Od:g.es.length≤60)
include hrun hI h0 Od
end
end Go.Ab
end
section
namespace Go.Ab
open Go.Proofs
set_option maxRecDepth 10000
set_option linter.unusedSectionVars false
theorem vK {g:Gr} {p:Pl} (hr:dF g p) {v:Nat} (hv:v<g.n.toNat):qM g p v=(p.outs.getD v []).map (fun i=>2*i)++(jL g p (v:Int)).reverse.map fun i=>2*i+1:=by
 unfold qM jL
 rw [Int.toNat_natCast]
 congr 1
 have h1:=(DA hr hv).2
 generalize (iq g p g.n.toNat).getD v []=l at h1
 rw [← List.map_reverse,List.map_map]
 have e:(gq l).reverse=l.reverse.filter fun t=> !decide (t.1= -1):=by
  unfold gq
  rw [List.filter_reverse]
  congr 1
  refine List.filter_congr fun t ht=> ?_
  rcases h1 t ht with h2|h2
  ·rw [decide_eq_false (by omega),decide_eq_true h2];rfl
  ·rw [decide_eq_true h2.1,decide_eq_false (by omega)];rfl
 rw [e]
 rfl
section
variable {g:Gr} {p:Pl} (hrun:dF g p) (hI:H9 g=true) (h0:0<g.es.length) (Od:g.es.length≤60)
include hrun hI h0 Od
end
end Go.Ab
end
section
namespace Go.Ab
open Go.Proofs
set_option maxRecDepth 10000
set_option linter.unusedSectionVars false
theorem LC {d:Dr} {x:Int} :dh (fk gL d) x=gL (dh d x):=by
 unfold dh fk
 simp only [List.getD_eq_getElem?_getD,List.getElem?_map]
 cases d.pts[x.toNat]? <;>rfl
theorem HL {d:Dr} {e:Int} :ee (fk gL d) e=(ee d e).map gL:=rV
theorem vM {l:List Pt} {i:Nat} :(l.map gL).getD i (0,0)=gL (l.getD i (0,0)):=by
 simp only [List.getD_eq_getElem?_getD,List.getElem?_map]
 cases l[i]? <;>rfl
theorem DC {d:Dr} {e:Int} :gn (fk gL d) e=gL (gn d e):=by
 unfold gn
 rw [HL,vM]
theorem Jo {d:Dr} {x i k:Int} :iX (fk gL d) x i k↔iX d x k i:=by
 have e:qD (fk gL d) x i k=qD d x k i:=by
  rw [qE (i:=k)]
  unfold qD
  rw [LC,DC,DC]
  unfold tm gL
  grind
 unfold iX
 rw [e]
theorem DD {l:List Pt} {y X:Rat} (h:mz (l.map gL) y X):mz l y (-X):=by
 obtain ⟨j,hj,hc⟩:=h
 rw [List.length_map] at hj
 rw [vM,vM] at hc
 refine ⟨j,hj,hc.lo,hc.hi, ?_⟩
 have e:=hc.eq
 have e1:(((gL (l.getD j (0,0))).1:Int):Rat)= -(((l.getD j (0,0)).1:Int):Rat):=by
  show ((-(l.getD j (0,0)).1:Int):Rat)=_
  push_cast;rfl
 have e2:(((gL (l.getD (j+1) (0,0))).1:Int):Rat)= -(((l.getD (j+1) (0,0)).1:Int):Rat):=by
  show ((-(l.getD (j+1) (0,0)).1:Int):Rat)=_
  push_cast;rfl
 have e3:(gL (l.getD j (0,0))).2=(l.getD j (0,0)).2:=rfl
 have e4:(gL (l.getD (j+1) (0,0))).2=(l.getD (j+1) (0,0)).2:=rfl
 rw [e1,e2,e3,e4] at e
 grind
theorem LD {d:Dr} {i k:Int} (h:LQ (fk gL d) i k):LQ d k i:=by
 obtain ⟨y,X,Z,h1,h2,h3⟩:=h
 rw [HL] at h1 h2
 exact ⟨y, -Z, -X,DD h2,DD h1,by grind⟩
theorem J4 {g:Gr} {p:Pl} (hr:dF g p) {L:Nat→Int→Int→Prop} (hL:Ds g p L) {k:Nat} (hk:k<g.n.toNat):(jL g p (bJ p k)).Pairwise (L k):=by
 have tF:=hr.2.1
 have hm:=bW hr.1
 obtain ⟨hi,_,_⟩:=lT hm tF (k:=k) (by omega) fun j hj=>hr.2.2 j (by omega)
 obtain ⟨_,ih2,_⟩:=vE hr.1 tF hL (k:=k) (by omega)
 have hR:aK g (fK g p k) (bJ p k)=true:=hr.2.2 k (by omega)
 have qV:=dZ tF (k:=k) (by omega)
 rw [Dn hr hk]
 unfold pF
 by_cases hn0:bM g (bJ p k)=0
 ·rw [jg _ (ij hm hi.toiO qV.1 hn0)];simp [gq]
 ·obtain ⟨A,X,C,hrw,nA,nC,hX,cX⟩:=cm hm hi.toiO hR hn0
  rw [iw _ hrw nA nC hX]
  show ((gq X).map (·.1)).Pairwise _
  rw [hrw,jV,jV,List.pairwise_append,List.pairwise_append] at ih2
  rw [List.pairwise_map]
  exact ih2.1.2.1
section
variable {g:Gr} {d:Dr} {p q:Pl} (h:s5 g d) (h':s5 g (fk gL d)) (hp:qK g d p) (hq:qK g (fk gL d) q)
include h h' hp hq
theorem HM {x:Nat} (hx:x<g.n.toNat):q.outs.getD x []=(p.outs.getD x []).reverse:=by
 refine List.Perm.eq_of_pairwise (le:=fun a b=>iX d x b a) (fun a b _ _ h1 h2=>absurd h2 fun h2=>qF h1 h2) ((hq.AL x hx).imp fun h=>Jo.1 h) (List.pairwise_reverse.2 (hp.AL x hx)) ?_
 exact (hq.outs x hx).trans ((hp.outs x hx).symm.trans (List.reverse_perm _).symm)
theorem Jp {x:Int} (hx:xD g x):jL g q x=(jL g p x).reverse:=by
 have hr:=kR h hp
 have hr':=kR h' hq
 have hL:=vH h hp
 have hL':=vH h' hq
 obtain ⟨n1,m1⟩:=nh hr hx
 obtain ⟨n2,m2⟩:=nh hr' hx
 obtain ⟨k,hk,ek⟩:=qy hp.ok hx.1 hx.2
 obtain ⟨k',hk',U7⟩:=qy hq.ok hx.1 hx.2
 have p1:=J4 hr hL (k:=k) (by omega)
 have p2:=J4 hr' hL' (k:=k') (by omega)
 rw [ek] at p1
 rw [U7] at p2
 refine List.Perm.eq_of_pairwise (le:=fun a b=>LQ d b a) (fun a b ha hb h1 h2=> ?_) (p2.imp fun h=>LD h) (List.pairwise_reverse.2 p1) ((List.perm_ext_iff_of_nodup n2 (nO.2 n1)).2 fun e=>by rw [m2,List.mem_reverse,m1])
 exfalso
 have M0:sR g a:=((m2 a).1 ha).1
 have pI:sR g b:=((m1 b).1 (List.mem_reverse.1 hb)).1
 obtain ⟨y,X,Z,l1,l2,l3⟩:=h1
 obtain ⟨z,X2,Z2,l4,l5,l6⟩:=h2
 have:=nq h pI M0 l1 l2 l3 l5 l4
 grind
theorem HN {x:Nat} (hx:x<g.n.toNat):∃B C:List Int,((cI g p).getD x []).reverse=B++C∧(cI g q).getD x []=C++B:=by
 have hr:=kR h hp
 have hr':=kR h' hq
 have RJ:xD g (x:Int):=⟨by omega,by omega⟩
 have e1:(cI g p).getD x []=qM g p x:=by
  rw [List.getD_eq_getElem?_getD,List.getElem?_eq_getElem (by rw [gl,hp.len];exact hx)]
  simp [cI]
 have e2:(cI g q).getD x []=qM g q x:=by
  rw [List.getD_eq_getElem?_getD,List.getElem?_eq_getElem (by rw [gl,hq.len];exact hx)]
  simp [cI]
 rw [e1,e2,vK hr hx,vK hr' hx,HM h h' hp hq hx,Jp h h' hp hq RJ]
 refine ⟨(jL g p x).map fun i=>2*i+1,(p.outs.getD x []).reverse.map fun i=>2*i, ?_,by rw [List.reverse_reverse]⟩
 rw [List.reverse_append,List.map_reverse,List.reverse_reverse,List.map_reverse]
end
end Go.Ab
end
section
namespace Go.Ab
open Go.Proofs
attribute [local congr] ACall.congr gd.congr Nx.congr
set_option maxRecDepth 20000
set_option linter.unusedSectionVars false
set_option maxHeartbeats 16000000
def qN (x:Int):Bool:=decide (-4096≤x)&&decide (x≤4096)
theorem nW (x:Int):Spec Tryz.prog 24 (Args [eN x]) [] (eB (qN x)) []:=by
 (refine Spec.hd (C:=T.cfg [] []) (rs:= [.t 2]) (T.ah _ _) Tryz.func24 rfl rfl Tryz.ntmps24 Tryz.results24 (by simp [AObj.isNest]) (by simp [AObj.isNest]) (by kernel_rfl) T.mixed fun X hX hP hC aB bK=> ?_)
 unfold qN
 by_cases h1: -4096≤x
 ·have b1:decide (-4096≤x)=true:=decide_eq_true h1
  repeat' (first|refine Rn.p ?_|(with_reducible apply And.intro)|((first|(refine hK _ ?_;clear hK K)|with_reducible intro K hK|refine Rs.p ?_|((with_reducible first|apply oP|apply oQ);exact rfl));try simp only [go_sem,simprocAttr,b1,Bool.true_and])|((with_reducible refine oD ?_ ?_);kernel_rfl)|((with_reducible intro h);try simp only [go_sem,simprocAttr,b1,Bool.true_and] at h)|omega|intro h)
 ·have b1:decide (-4096≤x)=false:=decide_eq_false h1
  repeat' (first|refine Rn.p ?_|(with_reducible apply And.intro)|((first|(refine hK _ ?_;clear hK K)|with_reducible intro K hK|refine Rs.p ?_|((with_reducible first|apply oP|apply oQ);exact rfl));try simp only [go_sem,simprocAttr,b1,Bool.false_and])|((with_reducible refine oD ?_ ?_);kernel_rfl)|((with_reducible intro h);try simp only [go_sem,simprocAttr,b1,Bool.false_and] at h)|omega|intro h)
def Nr (q:Pt):Prop:=(-4096≤q.1∧q.1≤4096)∧(-4096≤q.2∧q.2≤4096)
theorem AU (b q:Pt) (hb:Nr b) (hq:Nr q):Spec Tryz.prog 26 (Args [eP q, .ptr 10000 0]) [(10000, .rob [eN b.1,eN b.2])] (eP (AR b q)) [(10000, .rob [eN b.1,eN b.2])]:=by
 obtain ⟨q1,q2⟩:=q
 obtain ⟨b1,b2⟩:=b
 simp only [Nr] at hb hq
 (refine Spec.hd (C:=T.cfg [] []) (rs:= [.c 3 54]) (T.ah _ _) Tryz.func26 rfl rfl Tryz.ntmps26 Tryz.results26 (by simp [AObj.isNest]) (by simp [AObj.isNest]) (by kernel_rfl) T.mixed fun X hX hP hC aB bK=> ?_)
 repeat' (first|refine Rn.p ?_|(with_reducible apply And.intro)|((first|(refine hK _ ?_;clear hK K)|with_reducible intro K hK|refine Rs.p ?_|((with_reducible first|apply oP|apply oQ);exact rfl));try simp only [go_sem,simprocAttr])|((with_reducible refine oD ?_ ?_);kernel_rfl)|((with_reducible intro h);try simp only [go_sem,simprocAttr] at h)|omega|intro h)
 all_goals rfl
theorem AW (b q:Pt) (hq:Nr q):Spec Tryz.prog 27 (Args [eP q]) [(10000, .rob [eN b.1,eN b.2])] (eP (gL q)) [(10000, .rob [eN b.1,eN b.2])]:=by
 obtain ⟨q1,q2⟩:=q
 simp only [Nr] at hq
 (refine Spec.hd (C:=T.cfg [] []) (rs:= [.c 2 54]) (T.ah _ _) Tryz.func27 rfl rfl Tryz.ntmps27 Tryz.results27 (by simp [AObj.isNest]) (by simp [AObj.isNest]) (by kernel_rfl) T.mixed fun X hX hP hC aB bK=> ?_)
 repeat' (first|refine Rn.p ?_|(with_reducible apply And.intro)|((first|(refine hK _ ?_;clear hK K)|with_reducible intro K hK|refine Rs.p ?_|((with_reducible first|apply oP|apply oQ);exact rfl));try simp only [go_sem,simprocAttr])|((with_reducible refine oD ?_ ?_);kernel_rfl)|((with_reducible intro h);try simp only [go_sem,simprocAttr] at h)|omega|intro h)
 all_goals rfl
def rb (b:Pt):List (Nat × AObj):= [(10000, .rob [eN b.1,eN b.2])]
theorem xO {f:Pt→Pt} {l:List Pt} {k:Nat} (hk:k<l.length):((l.take (k+1)).map f).map rP=((l.take k).map f).map rP++ [rP (f (l.getD k (0,0)))]:=by
 rw [List.take_add_one,List.getElem?_eq_getElem hk,List.getD_eq_getElem?_getD,List.getElem?_eq_getElem hk]
 simp only [List.map_append,Option.toList_some,List.map_cons,List.map_nil,Option.getD_some]
theorem E7 {f:Pt→Pt} {ls:List (List Pt)} {k:Nat} (hk:k<ls.length):vP ((ls.take (k+1)).map fun l=>l.map f)=vP ((ls.take k).map fun l=>l.map f)++ [[sP ((ls.getD k []).map f)]]:=by
 rw [List.take_add_one,List.getElem?_eq_getElem hk,List.getD_eq_getElem?_getD,List.getElem?_eq_getElem hk]
 simp only [vP,List.map_append,Option.toList_some,List.map_cons,List.map_nil,Option.getD_some]
theorem AX (b:Pt) (d:Dr) (F:Nat) (caps:List AV) (hc:caps= []∨caps= [.ptr 10000 0]) (f:Pt→Pt) (h1:∀q∈d.pts,Spec Tryz.prog F (Args (eP q::caps)) [(10000, .rob [eN b.1,eN b.2])] (eP (f q)) [(10000, .rob [eN b.1,eN b.2])]) (h2:∀l∈d.ls,∀q∈l,Spec Tryz.prog F (Args (eP q::caps)) [(10000, .rob [eN b.1,eN b.2])] (eP (f q)) [(10000, .rob [eN b.1,eN b.2])])
 (l1:d.pts.length≤1000) (l2:d.ls.length≤1000) (l3:∀l∈d.ls,l.length≤1000):
 Spec Tryz.prog 25 (Args [.fn F [] caps, .ptr 10001 0]) [(10000, .rob [eN b.1,eN b.2]),(10001, .rob [.d (sP d.pts), .d (sLn d.ls)])] (eDr (fk f d)) [(10000, .rob [eN b.1,eN b.2]),(10001, .rob [.d (sP d.pts), .d (sLn d.ls)])]:=by
 obtain ⟨c0,hc0⟩:∃c0:List AV,c0=caps:=⟨_,rfl⟩
 rcases hc with rfl|rfl
 all_goals
  (refine Spec.hd (C:=T.cfg [] []) (rs:= [.c 3 50]) (T.ah _ _) Tryz.func25 rfl rfl Tryz.ntmps25 Tryz.results25 (by simp [AObj.isNest]) (by simp [AObj.isNest]) (by kernel_rfl) T.mixed fun X hX hP hC aB bK=> ?_)
  repeat' (first|(show cA _ (.loop _) _ _;(refine kj hX 4 0 26 (.tip 54 2 []) rfl rfl rfl (by simp only [go_sem,simprocAttr]) (by decide) (by simp [go_sem,simprocAttr]) ⟨54,2,by decide, .inr rfl⟩ ?_;simp only [List.set_cons_zero,List.set_cons_succ,go_sem,simprocAttr]))|refine Rn.p ?_|(with_reducible apply And.intro)|((first|(refine hK _ ?_;clear hK K)|with_reducible intro K hK|refine Rs.p ?_|((with_reducible first|apply oP|apply oQ);exact rfl));try simp only [go_sem,simprocAttr])|((with_reducible refine oD ?_ ?_);kernel_rfl)|((with_reducible intro h);try simp only [go_sem,simprocAttr] at h)|omega|intro h)
  refine ag (fun k:Nat=>k≤d.pts.length) (fun k=>⟨[(0, .fn F [] c0),(1, .ptr 10001 0),(3, .ptr 3 0),(4, .ptr 4 0),(14, .d (sP d.pts)),(15,eN d.pts.length),(16,eN k)], [(4, .box [.ref 26, .nil 47]),(3, .box [.nil 54, .nil 47]),(26, .tip 54 2 (((d.pts.take k).map f).map rP)),(10000, .rob [eN b.1,eN b.2]),(10001, .rob [.d (sP d.pts), .d (sLn d.ls)])]⟩) (fun k=>d.pts.length - k) 0 (by omega) ?_ ?_
  ·refine Le.of ?_ ?_<;>simp [go_sem,simprocAttr,hc0]
  simp only [hc0]
  rintro k hk
  rcases Nat.lt_or_ge k d.pts.length with hlt|hge
  ·have aC:decide ((k:Int)<(d.pts.length:Int))=true:=decide_eq_true (by omega)
   have hf:=h1 _ (aD (d:=(0,0)) hlt)
   have Cc:=xO (f:=f) hlt
   have ez:(((d.pts.take k).map f).map rP).length=k:=by rw [List.length_map,List.length_map,List.length_take];omega
   generalize wv:d.pts.getD k (0,0)=q at hf Cc
   generalize Oi:((d.pts.take (k+1)).map f).map rP=P2 at Cc
   generalize ((d.pts.take k).map f).map rP=P1 at Cc ez ⊢
   repeat' (first|refine Rn.p ?_|(with_reducible apply And.intro)|((first|(refine hK _ ?_;clear hK K)|with_reducible intro K hK|refine Rs.p ?_|((with_reducible first|apply oP|apply oQ);exact rfl)|(refine aP hX hC hP [(10000,10000)] (hf) rfl rfl rfl ?_ ?_ ?_ ?_ ?_ ?_ rfl rfl ?_ ?_;(focus (simp only [go_sem,simprocAttr,aC,ez,wv];done));(iterate 6 (focus (simp [go_sem,simprocAttr,aC,ez,wv];done)));try simp only [List.map_cons,List.map_nil]));try simp only [go_sem,simprocAttr,aC,ez,wv])|((with_reducible refine oD ?_ ?_);kernel_rfl)|((with_reducible intro h);try simp only [go_sem,simprocAttr,aC,ez,wv] at h)|omega|intro h)
   refine ⟨k+1,by omega, ?_,by omega⟩
   rw [Oi,Cc]
   refine Le.of ?_ ?_<;>simp [go_sem,simprocAttr,rP]
  have aC:decide ((k:Int)<(d.pts.length:Int))=false:=decide_eq_false (by omega)
  obtain rfl:k=d.pts.length:=by omega
  rw [List.take_length]
  have LF:(vP d.ls).length=d.ls.length:=by simp [vP]
  repeat' (first|(show cA _ (.loop _) _ _;(refine kj hX 4 1 54 (.tip 47 1 []) rfl rfl rfl (by simp only [go_sem,simprocAttr,aC,LF]) (by decide) (by simp [go_sem,simprocAttr,aC,LF]) ⟨47,1,by decide, .inr rfl⟩ ?_;simp only [List.set_cons_zero,List.set_cons_succ,go_sem,simprocAttr,aC,LF]))|refine Rn.p ?_|(with_reducible apply And.intro)|((first|(refine hK _ ?_;clear hK K)|with_reducible intro K hK|refine Rs.p ?_|((with_reducible first|apply oP|apply oQ);exact rfl)|(refine aP hX hC hP [(10000,10000)] (hf) rfl rfl rfl ?_ ?_ ?_ ?_ ?_ ?_ rfl rfl ?_ ?_;(focus (simp only [go_sem,simprocAttr,aC,LF];done));(iterate 6 (focus (simp [go_sem,simprocAttr,aC,LF];done)));try simp only [List.map_cons,List.map_nil]));try simp only [go_sem,simprocAttr,aC,LF])|((with_reducible refine oD ?_ ?_);kernel_rfl)|((with_reducible intro h);try simp only [go_sem,simprocAttr,aC,LF] at h)|omega|intro h)
  refine ag (fun k:Nat=>k≤d.ls.length) (fun k=>⟨[(0, .fn F [] c0),(3, .ptr 3 0),(4, .ptr 4 0),(30, .d (sLn d.ls)),(31,eN d.ls.length),(32,eN k)], [(4, .box [.ref 26, .ref 54]),(3, .box [.nil 54, .nil 47]),(26, .tip 54 2 ((d.pts.map f).map rP)),(54, .tip 47 1 (vP ((d.ls.take k).map fun l=>l.map f))),(10000, .rob [eN b.1,eN b.2]),(10001, .rob [.d (sP d.pts), .d (sLn d.ls)])]⟩) (fun k=>d.ls.length - k) 0 (by omega) ?_ ?_
  ·refine Le.of ?_ ?_<;>simp [go_sem,simprocAttr,vP,hc0]
  simp only [hc0]
  rintro k hk
  rcases Nat.lt_or_ge k d.ls.length with hlt|hge
  ·have aC:decide ((k:Int)<(d.ls.length:Int))=true:=decide_eq_true (by omega)
   have hlm:d.ls.getD k []∈d.ls:=aD hlt
   have oL:∀e,(vP d.ls).getD k e= [sP (d.ls.getD k [])]:=fun e=>by
    simp [vP,List.getD_eq_getElem?_getD,List.getElem?_eq_getElem hlt]
   have U8:=h2 _ hlm
   have Wl:=l3 _ hlm
   have NB:=E7 (f:=f) hlt
   have jK:(vP ((d.ls.take k).map fun l=>l.map f)).length=k:=by simp [vP];omega
   generalize d.ls.getD k []=l at*
   generalize U9:vP ((d.ls.take (k+1)).map fun l=>l.map f)=V2 at NB
   generalize vP ((d.ls.take k).map fun l=>l.map f)=V1 at NB jK ⊢
   repeat' (first|refine Rn.p ?_|(with_reducible apply And.intro)|((first|(refine hK _ ?_;clear hK K)|with_reducible intro K hK|refine Rs.p ?_|((with_reducible first|apply oP|apply oQ);exact rfl)|(refine aP hX hC hP [(10000,10000)] (hf) rfl rfl rfl ?_ ?_ ?_ ?_ ?_ ?_ rfl rfl ?_ ?_;(focus (simp only [go_sem,simprocAttr,aC,oL];done));(iterate 6 (focus (simp [go_sem,simprocAttr,aC,oL];done)));try simp only [List.map_cons,List.map_nil]));try simp only [go_sem,simprocAttr,aC,oL])|((with_reducible refine oD ?_ ?_);kernel_rfl)|((with_reducible intro h);try simp only [go_sem,simprocAttr,aC,oL] at h)|omega|intro h)
   (refine qZ hX 9 36 48 (by simp only [go_sem,simprocAttr,aC,oL]) rfl (by first|exact .inl rfl|exact .inr rfl) (by decide) ?_;simp only [go_sem,simprocAttr,aC,oL])
   refine ag (fun j:Nat=>j≤l.length) (fun j=>⟨[(0, .fn F [] c0),(3, .ptr 3 0),(4, .ptr 4 0),(30, .d (sLn d.ls)),(31,eN d.ls.length),(32,eN k),(9, .ref 48),(37, .d (sP l)),(38,eN l.length),(39,eN j)], [(4, .box [.ref 26, .ref 54]),(3, .box [.nil 54, .nil 47]),(26, .tip 54 2 ((d.pts.map f).map rP)),(54, .tip 47 1 V1),(48, .tip 54 2 (((l.take j).map f).map rP)),(10000, .rob [eN b.1,eN b.2]),(10001, .rob [.d (sP d.pts), .d (sLn d.ls)])]⟩) (fun j=>l.length - j) 0 (by omega) ?_ ?_
   ·refine Le.of ?_ ?_<;>simp [go_sem,simprocAttr,hc0]
   simp only [hc0]
   rintro j hj
   rcases Nat.lt_or_ge j l.length with hjl|L1
   ·have aI:decide ((j:Int)<(l.length:Int))=true:=decide_eq_true (by omega)
    have hf:=U8 _ (aD (d:=(0,0)) hjl)
    have Cc:=xO (f:=f) hjl
    have ez:(((l.take j).map f).map rP).length=j:=by rw [List.length_map,List.length_map,List.length_take];omega
    generalize wv:l.getD j (0,0)=q at hf Cc
    generalize Oi:((l.take (j+1)).map f).map rP=P2 at Cc
    generalize ((l.take j).map f).map rP=P1 at Cc ez ⊢
    repeat' (first|refine Rn.p ?_|(with_reducible apply And.intro)|((first|(refine hK _ ?_;clear hK K)|with_reducible intro K hK|refine Rs.p ?_|((with_reducible first|apply oP|apply oQ);exact rfl)|(refine aP hX hC hP [(10000,10000)] (hf) rfl rfl rfl ?_ ?_ ?_ ?_ ?_ ?_ rfl rfl ?_ ?_;(focus (simp only [go_sem,simprocAttr,aI,ez,wv];done));(iterate 6 (focus (simp [go_sem,simprocAttr,aI,ez,wv];done)));try simp only [List.map_cons,List.map_nil]));try simp only [go_sem,simprocAttr,aI,ez,wv])|((with_reducible refine oD ?_ ?_);kernel_rfl)|((with_reducible intro h);try simp only [go_sem,simprocAttr,aI,ez,wv] at h)|omega|intro h)
    refine ⟨j+1,by omega, ?_,by omega⟩
    rw [Oi,Cc]
    refine Le.of ?_ ?_<;>simp [go_sem,simprocAttr,rP]
   have aI:decide ((j:Int)<(l.length:Int))=false:=decide_eq_false (by omega)
   obtain rfl:j=l.length:=by omega
   rw [List.take_length]
   repeat' (first|(show cA _ (.seq (.region 16 _ _) _) _ _;(refine zT hX 48 rfl ?_;simp only [go_sem,simprocAttr,aI,jK]))|(show cA _ (.region 16 _ _) _ _;(refine zT hX 48 rfl ?_;simp only [go_sem,simprocAttr,aI,jK]))|refine Rn.p ?_|(with_reducible apply And.intro)|((first|(refine hK _ ?_;clear hK K)|with_reducible intro K hK|refine Rs.p ?_|((with_reducible first|apply oP|apply oQ);exact rfl)|(refine aP hX hC hP [(10000,10000)] (hf) rfl rfl rfl ?_ ?_ ?_ ?_ ?_ ?_ rfl rfl ?_ ?_;(focus (simp only [go_sem,simprocAttr,aI,jK];done));(iterate 6 (focus (simp [go_sem,simprocAttr,aI,jK];done)));try simp only [List.map_cons,List.map_nil]));try simp only [go_sem,simprocAttr,aI,jK])|((with_reducible refine oD ?_ ?_);kernel_rfl)|((with_reducible intro h);try simp only [go_sem,simprocAttr,aI,jK] at h)|omega|intro h)
   refine ⟨k+1,by omega, ?_,by omega⟩
   rw [U9,NB]
   refine Le.of ?_ ?_<;>simp [go_sem,simprocAttr]
  have aC:decide ((k:Int)<(d.ls.length:Int))=false:=decide_eq_false (by omega)
  obtain rfl:k=d.ls.length:=by omega
  rw [List.take_length]
  have vS:(fk f d).pts=d.pts.map f:=rfl
  have hm2:(fk f d).ls=d.ls.map fun l=>l.map f:=rfl
  repeat' (first|refine Rn.p ?_|(with_reducible apply And.intro)|((first|(refine hK _ ?_;clear hK K)|with_reducible intro K hK|refine Rs.p ?_|((with_reducible first|apply oP|apply oQ);exact rfl)|(refine aP hX hC hP [(10000,10000)] (hf) rfl rfl rfl ?_ ?_ ?_ ?_ ?_ ?_ rfl rfl ?_ ?_;(focus (simp only [go_sem,simprocAttr,aC,vS,hm2];done));(iterate 6 (focus (simp [go_sem,simprocAttr,aC,vS,hm2];done)));try simp only [List.map_cons,List.map_nil]));try simp only [go_sem,simprocAttr,aC,vS,hm2])|((with_reducible refine oD ?_ ?_);kernel_rfl)|((with_reducible intro h);try simp only [go_sem,simprocAttr,aC,vS,hm2] at h)|omega|intro h)
end Go.Ab
end
section
namespace Go.Ab
open Go.Proofs
attribute [local congr] ACall.congr gd.congr Nx.congr
set_option maxRecDepth 20000
set_option maxHeartbeats 16000000
theorem AY (l:List Int) (hl:l.length≤100000):Spec Tryz.prog 81 (Args [.d (sI l), .d (sI l)]) [] (eB true) []:=by
 cases l with
 |nil=>
  (refine Spec.hd (C:=T.cfg [] []) (rs:= [.t 4]) (T.ah _ _) Tryz.func81 rfl rfl Tryz.ntmps81 Tryz.results81 (by simp [AObj.isNest]) (by simp [AObj.isNest]) (by kernel_rfl) T.mixed fun X hX hP hC aB bK=> ?_)
  repeat' (first|refine Rn.p ?_|(with_reducible apply And.intro)|((first|(refine hK _ ?_;clear hK K)|with_reducible intro K hK|refine Rs.p ?_|((with_reducible first|apply oP|apply oQ);exact rfl));try simp only [go_sem,simprocAttr])|((with_reducible refine oD ?_ ?_);kernel_rfl)|((with_reducible intro h);try simp only [go_sem,simprocAttr] at h)|omega|intro h)
  refine ag (ι:=Unit) (fun _=>True) (fun _=>⟨[(0, .d (sI [])),(1, .d (sI [])),(7,eN (0:Nat)),(8,eN (0:Nat))], []⟩) (fun _=>0) () trivial ?_ ?_
  ·refine Le.of ?_ ?_<;>simp [go_sem,simprocAttr]
  rintro _ _
  repeat' (first|refine Rn.p ?_|(with_reducible apply And.intro)|((first|(refine hK _ ?_;clear hK K)|with_reducible intro K hK|refine Rs.p ?_|((with_reducible first|apply oP|apply oQ);exact rfl));try simp only [go_sem,simprocAttr])|((with_reducible refine oD ?_ ?_);kernel_rfl)|((with_reducible intro h);try simp only [go_sem,simprocAttr] at h)|omega|intro h)
 |cons a r=>
  have Jq:=dR [a::r, []] (by simp) (by simp) (by simp at hl ⊢;omega)
  have hE:=dU (a::r) (a::r) (by simp at hl ⊢;omega)
  have e: [a::r, []].flatten=a::r:=by simp
  rw [e] at Jq
  simp only [decide_true] at hE
  generalize hL:a::r=L at*
  have hb:decide ((0:Int)<(L.length:Int))=true:=decide_eq_true (by rw [← hL];simp)
  have s4:List.take L.length (L.map rI)=L.map rI:=List.take_of_length_le (by simp)
  simp only [vL,List.map_cons,List.map_nil,sI] at Jq
  (refine Spec.hd (C:=T.cfg [] []) (rs:= [.t 4]) (T.ah _ _) Tryz.func81 rfl rfl Tryz.ntmps81 Tryz.results81 (by simp [AObj.isNest]) (by simp [AObj.isNest]) (by kernel_rfl) T.mixed fun X hX hP hC aB bK=> ?_)
  repeat' (first|refine Rn.p ?_|(with_reducible apply And.intro)|((first|(refine hK _ ?_;clear hK K)|with_reducible intro K hK|refine Rs.p ?_|((with_reducible first|apply oP|apply oQ);exact rfl)|(refine aq hX hC hP (Jq) rfl rfl rfl ?_ ?_ rfl ?_;iterate 2 (focus (simp only [go_sem,simprocAttr,hb,s4];done)))|refine aa hX hC hP (hE) rfl rfl rfl (by simp only [go_sem,simprocAttr,hb,s4]) rfl ?_);try simp only [go_sem,simprocAttr,hb,s4])|((with_reducible refine oD ?_ ?_);kernel_rfl)|((with_reducible intro h);try simp only [go_sem,simprocAttr,hb,s4] at h)|omega|intro h)
  refine ag (ι:=Unit) (fun _=>True) (fun _=>⟨[(0, .d (sI L)),(1, .d (sI L)),(7,eN L.length),(8,eN (0:Nat))], []⟩) (fun _=>0) () trivial ?_ ?_
  ·refine Le.of ?_ ?_<;>simp [go_sem,simprocAttr,hb,s4]
  rintro _ _
  repeat' (first|refine Rn.p ?_|(with_reducible apply And.intro)|((first|(refine hK _ ?_;clear hK K)|with_reducible intro K hK|refine Rs.p ?_|((with_reducible first|apply oP|apply oQ);exact rfl)|(refine aq hX hC hP (Jq) rfl rfl rfl ?_ ?_ rfl ?_;iterate 2 (focus (simp only [go_sem,simprocAttr,hb,s4];done)))|refine aa hX hC hP (hE) rfl rfl rfl (by simp only [go_sem,simprocAttr,hb,s4]) rfl ?_);try simp only [go_sem,simprocAttr,hb,s4])|((with_reducible refine oD ?_ ?_);kernel_rfl)|((with_reducible intro h);try simp only [go_sem,simprocAttr,hb,s4] at h)|omega|intro h)
end Go.Ab
end
