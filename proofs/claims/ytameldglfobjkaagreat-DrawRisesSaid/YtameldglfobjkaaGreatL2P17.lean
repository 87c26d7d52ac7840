/- slices.Insert of one whole number into a slice of one's own, by the kit's contracts: over abstract values. -/
import Derived.Shelf.Spec.SlicesInsertGrow
import Derived.Test.YtameldglfobjkaaGreatL2P16
set_option linter.unusedSimpArgs false
set_option linter.unusedVariables false
namespace Go.Ab
open Go.Proofs Go.RowKit Go.Shelf
set_option maxRecDepth 10000
def qG:Array Value→Nat→List Value→Array Value
 |c,_, []=>c
 |c,o,v::r=>qG (c.setIfInBounds o v) (o+1) r
theorem eX:∀(vs:List Value) (c:Array Value) (o:Nat),(qG c o vs).size=c.size
 | [],_,_=>rfl
 |v::r,c,o=>by rw [qG,eX r];simp
theorem wV:∀(vs:List Value) (c:Array Value) (o k:Nat),(qG c o vs)[k]? =if o≤k∧k<o+vs.length∧k<c.size then vs[k - o]? else c[k]?
 | [],c,o,k=>by rw [qG,if_neg (by simp;omega)]
 |v::r,c,o,k=>by
  rw [qG,wV r,Array.size_setIfInBounds,Array.getElem?_setIfInBounds]
  simp only [List.length_cons]
  by_cases h1:o+1≤k∧k<o+1+r.length∧k<c.size
  ·rw [if_pos h1,if_pos ⟨by omega,by omega,h1.2.2⟩,show k - o=(k - (o+1))+1 by omega,List.getElem?_cons_succ]
  ·rw [if_neg h1]
   by_cases h2:o=k
   ·subst h2
    rw [if_pos rfl]
    by_cases h3:o<c.size
    ·rw [if_pos h3,if_pos ⟨by omega,by omega,h3⟩];simp
    ·rw [if_neg h3,if_neg (by omega),Array.getElem?_eq_none (by omega)]
   ·rw [if_neg h2,if_neg (by omega)]
theorem kr {vs:List Value} {c:Array Value} {o k:Nat} (h:¬(o≤k∧k<o+vs.length)):(qG c o vs)[k]? =c[k]? :=by rw [wV,if_neg fun e=>h ⟨e.1,e.2.1⟩]
theorem lC {vs:List Value} {c:Array Value} {o k:Nat} (h:o≤k) (h1:k<o+vs.length) (h2:k<c.size):(qG c o vs)[k]? =vs[k - o]? :=by rw [wV,if_pos ⟨h,h1,h2⟩]
theorem gW (b:Nat):∀(vs:List Value) (o:Nat) (w:World) {cur:Array Value} {e:TypeId} {fr:Nat × Nat},w.heap[b]? =some (.cells cur e fr)→(w.setCells b o vs).heap[b]? =some (.cells (qG cur o vs) e fr)
 | [],_,_,_,_,_,h=>h
 |v::r,o,w,cur,e,fr,h=>by
  rw [World.setCells,qG]
  refine gW b r (o+1) _ ?_
  simp only [World.setCell,Array.getElem?_modify,h]
  simp
theorem gX (b:Nat):∀(vs:List Value) (o:Nat) (w:World),(w.setCells b o vs).heap.size=w.heap.size
 | [],_,_=>rfl
 |v::r,o,w=>by rw [World.setCells,gX b r];simp [World.setCell]
theorem gY (b:Nat):∀(vs:List Value) (o:Nat) (w:World),(w.setCells b o vs).tape=w.tape
 | [],_,_=>rfl
 |v::r,o,w=>by rw [World.setCells,gY b r];rfl
theorem l6 (b:Nat):∀(vs:List Value) (o:Nat) (w:World),(w.setCells b o vs).os=w.os
 | [],_,_=>rfl
 |v::r,o,w=>by rw [World.setCells,l6 b r];rfl
theorem eY (b:Nat):∀(vs:List Value) (o:Nat) (w:World),(w.setCells b o vs).output=w.output
 | [],_,_=>rfl
 |v::r,o,w=>by rw [World.setCells,eY b r];rfl
theorem fV (b:Nat) {q:Nat} (hn:q≠b):∀(vs:List Value) (o:Nat) (w:World),(w.setCells b o vs).heap[q]? =w.heap[q]?
 | [],_,_=>rfl
 |v::r,o,w=>by
  rw [World.setCells,fV b hn r]
  show (w.heap.modify b _)[q]? =_
  rw [Array.getElem?_modify,if_neg (by omega)]
theorem mY (w:World) (o:Obj):(w.alloc o).heap=w.heap.push o:=rfl
theorem l7 (w:World) (o:Obj) {q:Nat} (hq:q<w.heap.size):(w.alloc o).heap[q]? =w.heap[q]? :=by rw [mY,Array.getElem?_push,if_neg (by omega)]
theorem u5 (w:World) (o:Obj):(w.alloc o).heap[w.heap.size]? =some o:=by rw [mY,Array.getElem?_push,if_pos rfl]
theorem mZ (w:World) (o:Obj):w.heap.size≤(w.alloc o).heap.size:=by rw [mY,Array.size_push];omega
def qH (l:List Int) (i:Nat) (x:Int):List Int:=l.take i++x::l.drop i
theorem sZ (l:List Int) (i:Nat) (x:Int):(qH l i x).length=l.length+1:=by
 simp [qH];omega
theorem qX {l:List Int} {i:Nat} (hi:i≤l.length) (x:Int) (j:Nat) (hj:j<l.length+1):(qH l i x).getD j 0=if j<i then l.getD j 0 else if j=i then x else l.getD (j - 1) 0:=by
 unfold qH
 simp only [List.getD_eq_getElem?_getD]
 have hlt:(l.take i).length=i:=by simp;omega
 rcases Nat.lt_trichotomy j i with h|h|h
 ·rw [if_pos h,List.getElem?_append_left (by omega),List.getElem?_take_of_lt h]
 ·subst h
  rw [if_neg (by omega),if_pos rfl,List.getElem?_append_right (by omega),hlt,Nat.sub_self]
  rfl
 ·rw [if_neg (by omega),if_neg (by omega),List.getElem?_append_right (by omega),hlt,show j - i=(j - 1 - i)+1 by omega,List.getElem?_cons_succ,List.getElem?_drop,show i+(j - 1 - i)=j - 1 by omega]
def iV (x:Int):Value:= .int .i64 x
structure Ins (w w':World) (b:Option Nat) (e:TypeId) (l':List Int) (B cap:Nat):Prop where
 os:w'.os=w.os
 tape:w'.tape=w.tape
 output:w'.output=w.output
 size:w.heap.size≤w'.heap.size
 same:∀q,q<w.heap.size→q≠B→w'.heap[q]? =w.heap[q]?
 Ap:b=some B∨w.heap.size=B
 row:∃cur,w'.heap[B]? =some (.cells cur e (0,0))∧cap=cur.size∧∀j,j<l'.length→cur[j]? =some (iV (l'.getD j 0))
 le:l'.length≤cap
 max:cap≤maxLen
theorem wW {l:List Int} {j:Nat} {v:Value} (h:(l.map iV)[j]? =some v):j<l.length∧v=iV (l.getD j 0):=by
 rw [List.getElem?_map] at h
 obtain ⟨y,h1,rfl⟩:=Option.map_eq_some_iff.1 h
 exact ⟨(List.getElem?_eq_some_iff.1 h1).1,by rw [List.getD_eq_getElem?_getD,h1];rfl⟩
theorem yw {l:List Int} {i j:Nat} (h:j<l.length - i):((l.map iV).drop i)[j]? =some (iV (l.getD (i+j) 0)):=by
 rw [List.getElem?_drop,List.getElem?_map,List.getD_eq_getElem?_getD,List.getElem?_eq_getElem (by omega)];rfl
theorem Fe {l:List Int} {i j:Nat} (h:j<i) (hi:i≤l.length):((l.map iV).take i)[j]? =some (iV (l.getD j 0)):=by
 rw [List.getElem?_take_of_lt h,List.getElem?_map,List.getD_eq_getElem?_getD,List.getElem?_eq_getElem (by omega)];rfl
theorem fW {l:List Int} :∀v∈l.map iV,v.oneCell'=true:=by
 intro v hv
 obtain ⟨x,_,rfl⟩:=List.mem_map.1 hv
 rfl
theorem By {l:List Int} (w:World) (b:Option Nat) (x:Int) {G e:Nat} (hz:∀n,(Builtin.zeroCells (Value.int .i64 0).cells n).size=n) (Jv:l.length+1≤G) (Hs:G≤maxLen):
 Ins w (w.drew.alloc (.cells ((l.map iV++ [x].map iV).toArray++Builtin.zeroCells (Value.int .i64 0).cells (G - (l.length+1))) e)) b e (qH l l.length x) w.heap.size G:=by
 have zL:=sZ l l.length x
 refine ⟨rfl,rfl,rfl,mZ w.drew _,fun q hq hn=>l7 w.drew _ hq, .inr rfl,⟨_,u5 w.drew _, ?_,fun j hj=> ?_⟩,by omega,Hs⟩
 ·rw [Array.size_append,hz];simp;omega
 ·rw [zL] at hj
  rw [qX (Nat.le_refl _) x j hj,Array.getElem?_append_left (by simp;omega),List.getElem?_toArray]
  rcases Nat.lt_trichotomy j l.length with h|h|h
  ·rw [if_pos h,List.getElem?_append_left (by simpa using h),List.getElem?_map,List.getD_eq_getElem?_getD,List.getElem?_eq_getElem h];rfl
  ·subst h
   rw [if_neg (show ¬l.length<l.length by omega),if_pos rfl,List.getElem?_append_right (by simp)]
   simp
  ·omega
theorem wX {l:List Int} {i:Nat} (hi:i≤l.length) (hlen:l.length≤1000000) (x:Int) (w:World) (b:Nat) (cap:Nat) (cur:Array Value) (vb:Nat) (vc:Nat) (cv:Array Value) (tv:TypeId)
 (hb:w.heap[b]? =some (.cells cur 3 (0,0))) (hcap:cap=cur.size) (hlc:l.length≤cap) (mQ:cap≤maxLen) (Jw:∀j,j<l.length→cur[j]? =some (iV (l.getD j 0)))
 (hvb:w.heap[vb]? =some (.cells cv tv (0,0))) (hne:vb≠b) (qU:cv[0]? =some (iV x)):
 Calls Tryz.prog 153 #[.slice (some ⟨b,0,none⟩) l.length cap, .int .i64 i, .slice (some ⟨vb,0,none⟩) 1 vc] w fun e w'=>
  ∃B c',e= .returned (.slice (some ⟨B,0,none⟩) (l.length+1) c')∧Ins w w' (some b) 3 (qH l i x) B c':=by
 have Bo:cap≤9223372036854775807:=by unfold maxLen at mQ;omega
 have nK:b<w.heap.size:=(Array.getElem?_eq_some_iff.1 hb).1
 have hcs:∀j v,(l.map iV)[j]? =some v→w.cell? ⟨b,0+j,none⟩=some v:=fun j v h=>by
  obtain ⟨h1,rfl⟩:=wW h
  simp [World.cell?,hb,Jw j h1]
 have hvs:∀j v,([x].map iV)[j]? =some v→w.cell? ⟨vb,0+j,none⟩=some v:=fun j v h=>by
  obtain ⟨h1,rfl⟩:=wW h
  simp only [List.length_singleton] at h1
  obtain rfl:j=0:=by omega
  simp [World.cell?,hvb,qU]
 have zL:=sZ l i x
 by_cases hroom:l.length+1≤cap
 ·by_cases hlt:i<l.length
  ·refine (Any2.slices_Insert_int_shift Tryz.Fb b 0 l.length cap i vb 0 1 vc (l.map iV) ([x].map iV) w hlt (by omega) hroom Bo hne (by simp) rfl hcs ?_ ?_ hvs fW fW tv 3 cv.size cur.size ?_ ?_ ?_ ?_ ?_).mono ?_
   ·intro j hj
    simp only [World.cell?,hb,Nat.zero_add,Option.isSome_none,Bool.false_eq_true,if_false]
    rw [Array.getElem?_eq_getElem (by omega)];rfl
   ·intro j hj;simp [World.frozen?,hb]
   ·simp [World.shape?,hvb]
   ·simp [World.shape?,hb]
   ·omega
   ·simp [World.frozen?,hvb]
   ·simp [World.frozen?,hvb]
   rintro e w' ⟨rfl,rfl⟩
   have hh:((w.drew.setCells b (0+(i+1)) ((l.map iV).drop i)).setCells b (0+i) ([x].map iV)).heap[b]? =some (.cells (qG (qG cur (0+(i+1)) ((l.map iV).drop i)) (0+i) ([x].map iV)) 3 (0,0)):=gW b _ _ _ (gW b _ _ _ hb)
   refine ⟨b,cap,rfl,⟨?_, ?_, ?_, ?_,fun q hq hn=> ?_, .inl rfl,⟨_,hh,by rw [eX,eX];exact hcap,fun j hj=> ?_⟩,by omega,mQ⟩⟩
   ·rw [l6,l6];rfl
   ·rw [gY,gY];rfl
   ·rw [eY,eY];rfl
   ·rw [gX,gX];exact Nat.le_refl _
   ·rw [fV b hn,fV b hn];rfl
   ·rw [zL] at hj
    rw [qX hi x j hj]
    rcases Nat.lt_trichotomy j i with h|h|h
    ·rw [if_pos h,kr (by simp;omega),kr (by simp;omega)]
     exact Jw j (by omega)
    ·subst h
     rw [if_neg (show ¬j<j by omega),if_pos rfl,lC (by omega) (by simp) (by rw [eX];omega)]
     simp
    ·rw [if_neg (show ¬j<i by omega),if_neg (show ¬j=i by omega),kr (by simp;omega),lC (by omega) (by simp;omega) (by omega),yw (by omega)]
     rw [show i+(j - (0+(i+1)))=j - 1 by omega]
  ·obtain rfl:i=l.length:=by omega
   refine (Any2.slices_Insert_int_end_room Tryz.Fb b 0 l.length cap vb 0 1 vc ([x].map iV) w (by omega) hroom Bo rfl ?_ ?_ hvs fW).mono ?_
   ·intro j hj
    simp only [World.cell?,hb,Nat.zero_add,Option.isSome_none,Bool.false_eq_true,if_false]
    rw [Array.getElem?_eq_getElem (by omega)];rfl
   ·intro j hj;simp [World.frozen?,hb]
   rintro e w' ⟨rfl,rfl⟩
   refine ⟨b,cap,rfl,⟨l6 ..,gY ..,eY ..,by rw [gX];exact Nat.le_refl _,fun q hq hn=>fV b hn _ _ _, .inl rfl,⟨_,gW b _ _ _ hb,by rw [eX];exact hcap,fun j hj=> ?_⟩,by omega,mQ⟩⟩
   rw [zL] at hj
   rw [qX hi x j hj]
   rcases Nat.lt_trichotomy j l.length with h|h|h
   ·rw [if_pos h,kr (by simp;omega)]
    exact Jw j h
   ·subst h
    rw [if_neg (show ¬l.length<l.length by omega),if_pos rfl,lC (by omega) (by simp) (by omega)]
    simp
   ·omega
 ·have Jv:l.length+1≤grownCap w (l.length+1) cap 3:=grownCap_ge ..
  have Hs:grownCap w (l.length+1) cap 3≤maxLen:=grownCap_le_maxLen _ _ _ _ (by unfold maxLen;omega)
  have hz:∀n,(Builtin.zeroCells (Value.int .i64 0).cells n).size=n:=fun n=>by simp [Builtin.zeroCells,Value.cells]
  by_cases hlt:i<l.length
  ·refine (Any2.slices_Insert_int_grow Tryz.Fb b 0 l.length cap i vb 0 1 vc (l.map iV) ([x].map iV) w hlt (by omega) hlc (by omega) (by omega) (by simp) rfl hcs hvs fW fW).mono ?_
   rw [show Tryz.oh.t 3=3 from rfl]
   generalize grownCap w (l.length+1) cap 3=G at Jv Hs
   rintro e w' ⟨rfl,rfl⟩
   generalize hR:((l.map iV).take i).toArray++Builtin.zeroCells (Value.int .i64 0).cells (l.length+1 - i)++Builtin.zeroCells (Value.int .i64 0).cells (G - (l.length+1))=R
   have SC:R.size=G:=by rw [← hR,Array.size_append,Array.size_append,hz,hz];simp;omega
   have SD:∀j,j<i→R[j]? =some (iV (l.getD j 0)):=fun j hj=>by
    rw [← hR,Array.getElem?_append_left (by rw [Array.size_append,hz];simp;omega),Array.getElem?_append_left (by simp;omega),List.getElem?_toArray,Fe hj hi]
   have h0:(w.alloc (.cells R 3)).heap[w.heap.size]? =some (.cells R 3 (0,0)):=u5 w _
   refine ⟨w.heap.size,G,rfl,⟨?_, ?_, ?_, ?_,fun q hq hn=> ?_, .inr rfl,⟨_,gW _ _ _ _ (gW _ ([x].map iV) i _ h0),by rw [eX,eX,SC],fun j hj=> ?_⟩,by omega,Hs⟩⟩
   ·rw [l6];show World.os (World.setCells _ _ _ _)=_;rw [l6];rfl
   ·rw [gY];show World.tape (World.setCells _ _ _ _)=_;rw [gY];rfl
   ·rw [eY];show World.output (World.setCells _ _ _ _)=_;rw [eY];rfl
   ·rw [gX];show _≤(World.setCells _ _ _ _).heap.size;rw [gX];exact mZ w _
   ·rw [fV _ hn]
    show (World.setCells _ _ _ _).heap[q]? =_
    rw [fV _ hn]
    exact l7 w _ hq
   ·rw [zL] at hj
    rw [qX hi x j hj]
    rcases Nat.lt_trichotomy j i with h|h|h
    ·rw [if_pos h,kr (by simp;omega),kr (by simp;omega)]
     exact SD j h
    ·subst h
     rw [if_neg (show ¬j<j by omega),if_pos rfl,kr (by simp;omega),lC (by omega) (by simp) (by omega)]
     simp
    ·rw [if_neg (show ¬j<i by omega),if_neg (show ¬j=i by omega),lC (by omega) (by simp;omega) (by rw [eX];omega),yw (by omega)]
     rw [show i+(j - (i+1))=j - 1 by omega]
  ·obtain rfl:i=l.length:=by omega
   refine (Any2.slices_Insert_int_end_grow Tryz.Fb (some ⟨b,0,none⟩) l.length cap vb 0 1 vc (l.map iV) ([x].map iV) w (by omega) hlc (by omega) (by omega) (by simp) rfl (by simp) ?_ hvs fW).mono ?_
   ·rintro a ha j v h
    cases ha
    have:=hcs j v h
    rcases Nat.eq_zero_or_pos j with h0|h0
    ·subst h0;exact this
    ·simpa [Addr.add,show ¬j=0 by omega] using this
   rw [show Tryz.oh.t 3=3 from rfl]
   generalize grownCap w (l.length+1) cap 3=G at Jv Hs
   rintro e w' ⟨rfl,rfl⟩
   exact ⟨w.heap.size,G,rfl,By w (some b) x hz Jv Hs⟩
theorem yx {l:List Int} (hl:l= []) (x:Int) (w:World) (p:Option Addr) (vb vc:Nat) (cv:Array Value) (tv:TypeId)
 (hvb:w.heap[vb]? =some (.cells cv tv (0,0))) (qU:cv[0]? =some (iV x)):
 Calls Tryz.prog 153 #[.slice p 0 0, .int .i64 (0:Nat), .slice (some ⟨vb,0,none⟩) 1 vc] w fun e w'=>
  ∃B c',e= .returned (.slice (some ⟨B,0,none⟩) (l.length+1) c')∧Ins w w' none 3 (qH l 0 x) B c':=by
 subst hl
 have hvs:∀j v,([x].map iV)[j]? =some v→w.cell? ⟨vb,0+j,none⟩=some v:=fun j v h=>by
  obtain ⟨h1,rfl⟩:=wW h
  simp only [List.length_singleton] at h1
  obtain rfl:j=0:=by omega
  simp [World.cell?,hvb,qU]
 have Jv:([]:List Int).length+1≤grownCap w (0+1) 0 3:=grownCap_ge ..
 have Hs:grownCap w (0+1) 0 3≤maxLen:=grownCap_le_maxLen _ _ _ _ (by unfold maxLen;omega)
 have hz:∀n,(Builtin.zeroCells (Value.int .i64 0).cells n).size=n:=fun n=>by simp [Builtin.zeroCells,Value.cells]
 refine (Any2.slices_Insert_int_end_grow Tryz.Fb p 0 0 vb 0 1 vc [] ([x].map iV) w (by omega) (Nat.le_refl _) (by omega) (by omega) rfl rfl (fun _=>rfl) (fun a _ j v h=>by cases h) hvs fW).mono ?_
 rw [show Tryz.oh.t 3=3 from rfl]
 generalize grownCap w (0+1) 0 3=G at Jv Hs
 rintro e w' ⟨rfl,rfl⟩
 exact ⟨w.heap.size,G,rfl,By (l:= []) w none x hz Jv Hs⟩
theorem Bz {a:AObj} {b:Nat} (hb:b<1000000) {q:Nat} {o:AObj} (ha:a.isNest=false) (h:bC [(b,a)] q=some o):q=b∧o=a:=by
 have hl:look [(b,a)] q=some o:=(dK (fun p hp=>by
  simp only [List.mem_cons,List.not_mem_nil,or_false] at hp
  rw [hp];exact ha) h).1
 simp only [look] at hl
 split at hl
 ·rename_i e;cases hl;exact ⟨e.symm,rfl⟩
 ·cases hl
theorem yy (l:List Int) (i:Nat) (x:Int) (hi:i≤l.length) (hlen:l.length≤1000000):
 Spec Tryz.prog 153 (Args [.ref 10000,eN i, .ref 10002]) [(10000, .own 3 1 (l.map rI)),(10002, .own 3 1 [rI x])] (.ref 10001) [(10001, .own 3 1 ((qH l i x).map rI))]:=by
 refine ⟨⟨Tryz.f153,_,Tryz.func153,by kernel_rfl,rfl⟩,fun E w vals hg hA=> ?_⟩
 obtain ⟨v,vs,rfl,h0,h3⟩:=hA
 obtain ⟨v2,SE,rfl,h1,h4⟩:=h3
 obtain ⟨v3,SF,rfl,h2,h5⟩:=h4
 simp only [AVrs] at h5
 subst h5
 obtain ⟨rfl,_⟩:=h0
 obtain ⟨rfl,_⟩:=h2
 have h1:=mX h1
 subst h1
 obtain ⟨_,_,o1⟩:=hg.fh 10000 (.own 3 1 (l.map rI)) rfl
 obtain ⟨_,_,o2⟩:=hg.fh 10002 (.own 3 1 [rI x]) rfl
 obtain ⟨vb,cv,vc,q0,q1,q2,_,_,_,q6,q7⟩:∃b cur cap,E.ρ 10002=some b∧w.heap[b]? =some (.cells cur 3 (0,0))∧E.σ 10002= .slice (some ⟨b,0,none⟩) [rI x].length cap∧ [rI x].length≤cap∧cap*1=cur.size∧cap≤maxLen∧
  E.z b=0∧∀(i j:Nat) (r:List D) (y:D), [rI x][i]? =some r→r[j]? =some y→∃v,cur[i*1+j]? =some v∧Rd w E.z v y:=by
  rcases o2 with ⟨_,h,_⟩|h
  ·cases h
  ·exact h
 have qU:cv[0]? =some (iV x):=by
  obtain ⟨v,h1,h2⟩:=q7 0 0 (rI x) (.sc (.int .i64 x)) rfl rfl
  rw [mX h2] at h1
  exact h1
 have key:∃bo:Option Nat,(∀b,bo=some b→E.ρ 10000=some b)∧(∀b,bo=some b→E.z b=0)∧Calls Tryz.prog 153 #[E.σ 10000, .int .i64 (i:Int),E.σ 10002] w fun e w'=>
  ∃B c',e= .returned (.slice (some ⟨B,0,none⟩) (l.length+1) c')∧Ins w w' bo 3 (qH l i x) B c':=by
  rcases o1 with ⟨r0,r1,p,r2⟩|⟨b,cur,cap,r0,r1,r2,r3,r4,r5,r6,r7⟩
  ·have hl0:l= []:=List.map_eq_nil_iff.1 r1
   have Ko:i=0:=by rw [hl0] at hi;simpa using hi
   subst Ko
   rw [r2,q2]
   exact ⟨none,by simp,by simp,yx hl0 x w p vb vc cv _ q1 qU⟩
  ·rw [List.length_map] at r2 r3
   have hne:vb≠b:=fun e=>by
    subst e
    have:=hg.inj 10000 10002 vb (by simp [bZ,look]) (by simp [bZ,look]) r0 q0
    omega
   rw [r2,q2]
   refine ⟨some b,fun c h=>by cases h;exact r0,fun c h=>by cases h;exact r6,wX hi hlen x w b cap cur vb vc cv _ r1 (by omega) r3 r5 (fun j hj=> ?_) q1 hne qU⟩
   obtain ⟨v,h1,h2⟩:=r7 j 0 (rI l[j]) (.sc (.int .i64 l[j])) (by simp [List.getElem?_eq_getElem hj]) rfl
   rw [mX h2] at h1
   simpa [List.getD_eq_getElem?_getD,List.getElem?_eq_getElem hj,iV] using h1
 obtain ⟨bo,k1,k2,L8⟩:=key
 refine L8.mono ?_
 rintro e w' ⟨B,c',rfl,hI⟩
 obtain ⟨cur,m1,m2,m3⟩:=hI.row
 have gy:=sZ l i x
 have SG:E.z B=0:=by
  rcases hI.Ap with h|h
  ·exact k2 B h
  ·exact hg.fresh B (by omega)
 have hst:aH w E.z w' E.z:=fun q=>⟨Nat.le_refl _,fun o ho=>by
  by_cases hq:q=B
  ·subst hq;omega
  ·by_cases SH:q<w.heap.size
   ·simp only [World.cell?,hI.same q SH hq]
   ·have:=hg.fresh q (by omega);omega⟩
 refine ⟨_,⟨fun q=>if q=10001 then some B else E.ρ q,fun q=>if q=10001 then .slice (some ⟨B,0,none⟩) (l.length+1) c' else E.σ q,E.z⟩,rfl,⟨hI.os,hI.tape,hI.output,hI.size,hst,fun q hq hnm=>⟨hI.same q hq fun e=> ?_,rfl⟩,fun q hq=> ?_⟩,⟨fun q hq=> ?_,fun q q' c hq k4 _ _=> ?_,fun q o hq=> ?_,fun q hq=>hg.fresh q (by have:=hI.size;omega)⟩,fun q o c hq hro hc=> ?_,⟨?_,trivial⟩⟩
 ·subst e
  rcases hI.Ap with h|h
  ·exact hnm ⟨10000,_,rfl,rfl,k1 _ h⟩
  ·omega
 ·have:q≠10001:=fun e=>by subst e;simp [bZ,look] at hq
  exact ⟨if_neg this,if_neg this⟩
 ·simp only [look] at hq
  split at hq
  ·omega
  ·exact absurd rfl hq
 ·obtain ⟨o,ho⟩:=Option.ne_none_iff_exists'.1 hq
  obtain ⟨o',ho'⟩:=Option.ne_none_iff_exists'.1 k4
  rw [(Bz (by decide) rfl ho).1,(Bz (by decide) rfl ho').1]
 ·obtain ⟨rfl,rfl⟩:=Bz (by decide) rfl hq
  refine ⟨fun r hr=> ?_,by decide, .inr ⟨B,cur,c',by simp,m1, ?_, ?_,by omega,hI.max,SG,fun p j r y h1 h2=> ?_⟩⟩
  ·obtain ⟨v,_,rfl⟩:=List.mem_map.1 hr
   rfl
  ·rw [List.length_map,gy];simp
  ·rw [List.length_map];exact hI.le
  ·rw [List.getElem?_map] at h1
   obtain ⟨v,h3,rfl⟩:=Option.map_eq_some_iff.1 h1
   cases j with
   |succ j=>simp [rI] at h2
   |zero=>
    simp only [rI,List.getElem?_cons_zero,Option.some.injEq] at h2
    subst h2
    have hi:p<(qH l i x).length:=(List.getElem?_eq_some_iff.1 h3).1
    refine ⟨_,by simpa using m3 p hi, ?_⟩
    rw [h3]
    exact .sc _ rfl
 ·obtain ⟨rfl,rfl⟩:=Bz (by decide) rfl hq
  have hc:some B=some c:=hc
  cases hc
  rcases hI.Ap with h|h
  ·exact .inr ⟨10000,_,rfl,rfl,k1 _ h⟩
  ·exact .inl (by omega)
 ·simp
end Go.Ab
