/- slices.Insert of one whole number into a slice of one's own, by the kit's contracts: over abstract values. -/
import Derived.Shelf.Spec.SlicesInsertGrow
import Derived.Test.YtchjjbfhlchpfaaGreatL8P13
set_option linter.unusedSimpArgs false
set_option linter.unusedVariables false
namespace Go.Ab
open Go.Proofs Go.RowKit Go.Shelf
set_option maxRecDepth 10000
def tu:Array Value→Nat→List Value→Array Value
 |c,_, []=>c
 |c,o,v::r=>tu (c.setIfInBounds o v) (o+1) r
theorem fM:∀(vs:List Value) (c:Array Value) (o:Nat),(tu c o vs).size=c.size
 | [],_,_=>rfl
 |v::r,c,o=>by rw [tu,fM r];simp
theorem zn:∀(vs:List Value) (c:Array Value) (o k:Nat),(tu c o vs)[k]? =if o≤k∧k<o+vs.length∧k<c.size then vs[k - o]? else c[k]?
 | [],c,o,k=>by rw [tu,if_neg (by simp;omega)]
 |v::r,c,o,k=>by
  rw [tu,zn r,Array.size_setIfInBounds,Array.getElem?_setIfInBounds]
  simp only [List.length_cons]
  by_cases h1:o+1≤k∧k<o+1+r.length∧k<c.size
  ·rw [if_pos h1,if_pos ⟨by omega,by omega,h1.2.2⟩,show k - o=(k - (o+1))+1 by omega,List.getElem?_cons_succ]
  ·rw [if_neg h1]
   by_cases h2:o=k
   ·subst h2
    rw [if_pos rfl]
    by_cases h3:o<c.size
    ·rw [if_pos h3,if_pos ⟨by omega,by omega,h3⟩];simp
    ·rw [if_neg h3,if_neg (by omega),Array.getElem?_eq_none (by omega)]
   ·rw [if_neg h2,if_neg (by omega)]
theorem lT {vs:List Value} {c:Array Value} {o k:Nat} (h:¬(o≤k∧k<o+vs.length)):(tu c o vs)[k]? =c[k]? :=by rw [zn,if_neg fun e=>h ⟨e.1,e.2.1⟩]
theorem mY {vs:List Value} {c:Array Value} {o k:Nat} (h:o≤k) (h1:k<o+vs.length) (h2:k<c.size):(tu c o vs)[k]? =vs[k - o]? :=by rw [zn,if_pos ⟨h,h1,h2⟩]
theorem jc (b:Nat):∀(vs:List Value) (o:Nat) (w:World) {cur:Array Value} {e:TypeId} {fr:Nat × Nat},w.heap[b]? =some (.cells cur e fr)→(w.setCells b o vs).heap[b]? =some (.cells (tu cur o vs) e fr)
 | [],_,_,_,_,_,h=>h
 |v::r,o,w,cur,e,fr,h=>by
  rw [World.setCells,tu]
  refine jc b r (o+1) _ ?_
  simp only [World.setCell,Array.getElem?_modify,h]
  simp
theorem jd (b:Nat):∀(vs:List Value) (o:Nat) (w:World),(w.setCells b o vs).heap.size=w.heap.size
 | [],_,_=>rfl
 |v::r,o,w=>by rw [World.setCells,jd b r];simp [World.setCell]
theorem je (b:Nat):∀(vs:List Value) (o:Nat) (w:World),(w.setCells b o vs).tape=w.tape
 | [],_,_=>rfl
 |v::r,o,w=>by rw [World.setCells,je b r];rfl
theorem nU (b:Nat):∀(vs:List Value) (o:Nat) (w:World),(w.setCells b o vs).os=w.os
 | [],_,_=>rfl
 |v::r,o,w=>by rw [World.setCells,nU b r];rfl
theorem fN (b:Nat):∀(vs:List Value) (o:Nat) (w:World),(w.setCells b o vs).output=w.output
 | [],_,_=>rfl
 |v::r,o,w=>by rw [World.setCells,fN b r];rfl
theorem gL (b:Nat) {q:Nat} (hn:q≠b):∀(vs:List Value) (o:Nat) (w:World),(w.setCells b o vs).heap[q]? =w.heap[q]?
 | [],_,_=>rfl
 |v::r,o,w=>by
  rw [World.setCells,gL b hn r]
  show (w.heap.modify b _)[q]? =_
  rw [Array.getElem?_modify,if_neg (by omega)]
theorem o6 (w:World) (o:Obj):(w.alloc o).heap=w.heap.push o:=rfl
theorem nV (w:World) (o:Obj) {q:Nat} (hq:q<w.heap.size):(w.alloc o).heap[q]? =w.heap[q]? :=by rw [o6,Array.getElem?_push,if_neg (by omega)]
theorem xP (w:World) (o:Obj):(w.alloc o).heap[w.heap.size]? =some o:=by rw [o6,Array.getElem?_push,if_pos rfl]
theorem o7 (w:World) (o:Obj):w.heap.size≤(w.alloc o).heap.size:=by rw [o6,Array.size_push];omega
def tC (l:List Int) (i:Nat) (x:Int):List Int:=l.take i++x::l.drop i
theorem vo (l:List Int) (i:Nat) (x:Int):(tC l i x).length=l.length+1:=by
 simp [tC];omega
theorem tY {l:List Int} {i:Nat} (hi:i≤l.length) (x:Int) (j:Nat) (hj:j<l.length+1):(tC l i x).getD j 0=if j<i then l.getD j 0 else if j=i then x else l.getD (j - 1) 0:=by
 unfold tC
 simp only [List.getD_eq_getElem?_getD]
 have hlt:(l.take i).length=i:=by simp;omega
 rcases Nat.lt_trichotomy j i with h|h|h
 ·rw [if_pos h,List.getElem?_append_left (by omega),List.getElem?_take_of_lt h]
 ·subst h
  rw [if_neg (by omega),if_pos rfl,List.getElem?_append_right (by omega),hlt,Nat.sub_self]
  rfl
 ·rw [if_neg (by omega),if_neg (by omega),List.getElem?_append_right (by omega),hlt,show j - i=(j - 1 - i)+1 by omega,List.getElem?_cons_succ,List.getElem?_drop,show i+(j - 1 - i)=j - 1 by omega]
def iV (x:Int):Value:= .int .i64 x
structure Ins (w w':World) (b:Option Nat) (e:TypeId) (l':List Int) (B cap:Nat):Prop where
 os:w'.os=w.os
 tape:w'.tape=w.tape
 output:w'.output=w.output
 size:w.heap.size≤w'.heap.size
 same:∀q,q<w.heap.size→q≠B→w'.heap[q]? =w.heap[q]?
 Cw:b=some B∨w.heap.size=B
 row:∃cur,w'.heap[B]? =some (.cells cur e (0,0))∧cap=cur.size∧∀j,j<l'.length→cur[j]? =some (iV (l'.getD j 0))
 le:l'.length≤cap
 max:cap≤maxLen
theorem zo {l:List Int} {j:Nat} {v:Value} (h:(l.map iV)[j]? =some v):j<l.length∧v=iV (l.getD j 0):=by
 rw [List.getElem?_map] at h
 obtain ⟨y,h1,rfl⟩:=Option.map_eq_some_iff.1 h
 exact ⟨(List.getElem?_eq_some_iff.1 h1).1,by rw [List.getD_eq_getElem?_getD,h1];rfl⟩
theorem A4 {l:List Int} {i j:Nat} (h:j<l.length - i):((l.map iV).drop i)[j]? =some (iV (l.getD (i+j) 0)):=by
 rw [List.getElem?_drop,List.getElem?_map,List.getD_eq_getElem?_getD,List.getElem?_eq_getElem (by omega)];rfl
theorem Hl {l:List Int} {i j:Nat} (h:j<i) (hi:i≤l.length):((l.map iV).take i)[j]? =some (iV (l.getD j 0)):=by
 rw [List.getElem?_take_of_lt h,List.getElem?_map,List.getD_eq_getElem?_getD,List.getElem?_eq_getElem (by omega)];rfl
theorem gM {l:List Int} :∀v∈l.map iV,v.oneCell'=true:=by
 intro v hv
 obtain ⟨x,_,rfl⟩:=List.mem_map.1 hv
 rfl
theorem Dw {l:List Int} (w:World) (b:Option Nat) (x:Int) {G e:Nat} (hz:∀n,(Builtin.zeroCells (Value.int .i64 0).cells n).size=n) (LU:l.length+1≤G) (JV:G≤maxLen):
 Ins w (w.drew.alloc (.cells ((l.map iV++ [x].map iV).toArray++Builtin.zeroCells (Value.int .i64 0).cells (G - (l.length+1))) e)) b e (tC l l.length x) w.heap.size G:=by
 have B9:=vo l l.length x
 refine ⟨rfl,rfl,rfl,o7 w.drew _,fun q hq hn=>nV w.drew _ hq, .inr rfl,⟨_,xP w.drew _, ?_,fun j hj=> ?_⟩,by omega,JV⟩
 ·rw [Array.size_append,hz];simp;omega
 ·rw [B9] at hj
  rw [tY (Nat.le_refl _) x j hj,Array.getElem?_append_left (by simp;omega),List.getElem?_toArray]
  rcases Nat.lt_trichotomy j l.length with h|h|h
  ·rw [if_pos h,List.getElem?_append_left (by simpa using h),List.getElem?_map,List.getD_eq_getElem?_getD,List.getElem?_eq_getElem h];rfl
  ·subst h
   rw [if_neg (show ¬l.length<l.length by omega),if_pos rfl,List.getElem?_append_right (by simp)]
   simp
  ·omega
theorem zq {l:List Int} {i:Nat} (hi:i≤l.length) (hlen:l.length≤1000000) (x:Int) (w:World) (b:Nat) (cap:Nat) (cur:Array Value) (vb:Nat) (vc:Nat) (cv:Array Value) (tv:TypeId)
 (hb:w.heap[b]? =some (.cells cur 3 (0,0))) (hcap:cap=cur.size) (hlc:l.length≤cap) (oT:cap≤maxLen) (LV:∀j,j<l.length→cur[j]? =some (iV (l.getD j 0)))
 (hvb:w.heap[vb]? =some (.cells cv tv (0,0))) (hne:vb≠b) (tX:cv[0]? =some (iV x)):
 Calls Tryz.prog 168 #[.slice (some ⟨b,0,none⟩) l.length cap, .int .i64 i, .slice (some ⟨vb,0,none⟩) 1 vc] w fun e w'=>
  ∃B c',e= .returned (.slice (some ⟨B,0,none⟩) (l.length+1) c')∧Ins w w' (some b) 3 (tC l i x) B c':=by
 have Cn:cap≤9223372036854775807:=by unfold maxLen at oT;omega
 have tO:b<w.heap.size:=(Array.getElem?_eq_some_iff.1 hb).1
 have hcs:∀j v,(l.map iV)[j]? =some v→w.cell? ⟨b,0+j,none⟩=some v:=fun j v h=>by
  obtain ⟨h1,rfl⟩:=zo h
  simp [World.cell?,hb,LV j h1]
 have hvs:∀j v,([x].map iV)[j]? =some v→w.cell? ⟨vb,0+j,none⟩=some v:=fun j v h=>by
  obtain ⟨h1,rfl⟩:=zo h
  simp only [List.length_singleton] at h1
  obtain rfl:j=0:=by omega
  simp [World.cell?,hvb,tX]
 have B9:=vo l i x
 by_cases hroom:l.length+1≤cap
 ·by_cases hlt:i<l.length
  ·refine (Any2.slices_Insert_int_shift Tryz.Hj b 0 l.length cap i vb 0 1 vc (l.map iV) ([x].map iV) w hlt (by omega) hroom Cn hne (by simp) rfl hcs ?_ ?_ hvs gM gM tv 3 cv.size cur.size ?_ ?_ ?_ ?_ ?_).mono ?_
   ·intro j hj
    simp only [World.cell?,hb,Nat.zero_add,Option.isSome_none,Bool.false_eq_true,if_false]
    rw [Array.getElem?_eq_getElem (by omega)];rfl
   ·intro j hj;simp [World.frozen?,hb]
   ·simp [World.shape?,hvb]
   ·simp [World.shape?,hb]
   ·omega
   ·simp [World.frozen?,hvb]
   ·simp [World.frozen?,hvb]
   rintro e w' ⟨rfl,rfl⟩
   have hh:((w.drew.setCells b (0+(i+1)) ((l.map iV).drop i)).setCells b (0+i) ([x].map iV)).heap[b]? =some (.cells (tu (tu cur (0+(i+1)) ((l.map iV).drop i)) (0+i) ([x].map iV)) 3 (0,0)):=jc b _ _ _ (jc b _ _ _ hb)
   refine ⟨b,cap,rfl,⟨?_, ?_, ?_, ?_,fun q hq hn=> ?_, .inl rfl,⟨_,hh,by rw [fM,fM];exact hcap,fun j hj=> ?_⟩,by omega,oT⟩⟩
   ·rw [nU,nU];rfl
   ·rw [je,je];rfl
   ·rw [fN,fN];rfl
   ·rw [jd,jd];exact Nat.le_refl _
   ·rw [gL b hn,gL b hn];rfl
   ·rw [B9] at hj
    rw [tY hi x j hj]
    rcases Nat.lt_trichotomy j i with h|h|h
    ·rw [if_pos h,lT (by simp;omega),lT (by simp;omega)]
     exact LV j (by omega)
    ·subst h
     rw [if_neg (show ¬j<j by omega),if_pos rfl,mY (by omega) (by simp) (by rw [fM];omega)]
     simp
    ·rw [if_neg (show ¬j<i by omega),if_neg (show ¬j=i by omega),lT (by simp;omega),mY (by omega) (by simp;omega) (by omega),A4 (by omega)]
     rw [show i+(j - (0+(i+1)))=j - 1 by omega]
  ·obtain rfl:i=l.length:=by omega
   refine (Any2.slices_Insert_int_end_room Tryz.Hj b 0 l.length cap vb 0 1 vc ([x].map iV) w (by omega) hroom Cn rfl ?_ ?_ hvs gM).mono ?_
   ·intro j hj
    simp only [World.cell?,hb,Nat.zero_add,Option.isSome_none,Bool.false_eq_true,if_false]
    rw [Array.getElem?_eq_getElem (by omega)];rfl
   ·intro j hj;simp [World.frozen?,hb]
   rintro e w' ⟨rfl,rfl⟩
   refine ⟨b,cap,rfl,⟨nU ..,je ..,fN ..,by rw [jd];exact Nat.le_refl _,fun q hq hn=>gL b hn _ _ _, .inl rfl,⟨_,jc b _ _ _ hb,by rw [fM];exact hcap,fun j hj=> ?_⟩,by omega,oT⟩⟩
   rw [B9] at hj
   rw [tY hi x j hj]
   rcases Nat.lt_trichotomy j l.length with h|h|h
   ·rw [if_pos h,lT (by simp;omega)]
    exact LV j h
   ·subst h
    rw [if_neg (show ¬l.length<l.length by omega),if_pos rfl,mY (by omega) (by simp) (by omega)]
    simp
   ·omega
 ·have LU:l.length+1≤grownCap w (l.length+1) cap 3:=grownCap_ge ..
  have JV:grownCap w (l.length+1) cap 3≤maxLen:=grownCap_le_maxLen _ _ _ _ (by unfold maxLen;omega)
  have hz:∀n,(Builtin.zeroCells (Value.int .i64 0).cells n).size=n:=fun n=>by simp [Builtin.zeroCells,Value.cells]
  by_cases hlt:i<l.length
  ·refine (Any2.slices_Insert_int_grow Tryz.Hj b 0 l.length cap i vb 0 1 vc (l.map iV) ([x].map iV) w hlt (by omega) hlc (by omega) (by omega) (by simp) rfl hcs hvs gM gM).mono ?_
   rw [show Tryz.qj.t 3=3 from rfl]
   generalize grownCap w (l.length+1) cap 3=G at LU JV
   rintro e w' ⟨rfl,rfl⟩
   generalize hR:((l.map iV).take i).toArray++Builtin.zeroCells (Value.int .i64 0).cells (l.length+1 - i)++Builtin.zeroCells (Value.int .i64 0).cells (G - (l.length+1))=R
   have T0:R.size=G:=by rw [← hR,Array.size_append,Array.size_append,hz,hz];simp;omega
   have Oq:∀j,j<i→R[j]? =some (iV (l.getD j 0)):=fun j hj=>by
    rw [← hR,Array.getElem?_append_left (by rw [Array.size_append,hz];simp;omega),Array.getElem?_append_left (by simp;omega),List.getElem?_toArray,Hl hj hi]
   have h0:(w.alloc (.cells R 3)).heap[w.heap.size]? =some (.cells R 3 (0,0)):=xP w _
   refine ⟨w.heap.size,G,rfl,⟨?_, ?_, ?_, ?_,fun q hq hn=> ?_, .inr rfl,⟨_,jc _ _ _ _ (jc _ ([x].map iV) i _ h0),by rw [fM,fM,T0],fun j hj=> ?_⟩,by omega,JV⟩⟩
   ·rw [nU];show World.os (World.setCells _ _ _ _)=_;rw [nU];rfl
   ·rw [je];show World.tape (World.setCells _ _ _ _)=_;rw [je];rfl
   ·rw [fN];show World.output (World.setCells _ _ _ _)=_;rw [fN];rfl
   ·rw [jd];show _≤(World.setCells _ _ _ _).heap.size;rw [jd];exact o7 w _
   ·rw [gL _ hn]
    show (World.setCells _ _ _ _).heap[q]? =_
    rw [gL _ hn]
    exact nV w _ hq
   ·rw [B9] at hj
    rw [tY hi x j hj]
    rcases Nat.lt_trichotomy j i with h|h|h
    ·rw [if_pos h,lT (by simp;omega),lT (by simp;omega)]
     exact Oq j h
    ·subst h
     rw [if_neg (show ¬j<j by omega),if_pos rfl,lT (by simp;omega),mY (by omega) (by simp) (by omega)]
     simp
    ·rw [if_neg (show ¬j<i by omega),if_neg (show ¬j=i by omega),mY (by omega) (by simp;omega) (by rw [fM];omega),A4 (by omega)]
     rw [show i+(j - (i+1))=j - 1 by omega]
  ·obtain rfl:i=l.length:=by omega
   refine (Any2.slices_Insert_int_end_grow Tryz.Hj (some ⟨b,0,none⟩) l.length cap vb 0 1 vc (l.map iV) ([x].map iV) w (by omega) hlc (by omega) (by omega) (by simp) rfl (by simp) ?_ hvs gM).mono ?_
   ·rintro a ha j v h
    cases ha
    have:=hcs j v h
    rcases Nat.eq_zero_or_pos j with h0|h0
    ·subst h0;exact this
    ·simpa [Addr.add,show ¬j=0 by omega] using this
   rw [show Tryz.qj.t 3=3 from rfl]
   generalize grownCap w (l.length+1) cap 3=G at LU JV
   rintro e w' ⟨rfl,rfl⟩
   exact ⟨w.heap.size,G,rfl,Dw w (some b) x hz LU JV⟩
theorem A5 {l:List Int} (hl:l= []) (x:Int) (w:World) (p:Option Addr) (vb vc:Nat) (cv:Array Value) (tv:TypeId)
 (hvb:w.heap[vb]? =some (.cells cv tv (0,0))) (tX:cv[0]? =some (iV x)):
 Calls Tryz.prog 168 #[.slice p 0 0, .int .i64 (0:Nat), .slice (some ⟨vb,0,none⟩) 1 vc] w fun e w'=>
  ∃B c',e= .returned (.slice (some ⟨B,0,none⟩) (l.length+1) c')∧Ins w w' none 3 (tC l 0 x) B c':=by
 subst hl
 have hvs:∀j v,([x].map iV)[j]? =some v→w.cell? ⟨vb,0+j,none⟩=some v:=fun j v h=>by
  obtain ⟨h1,rfl⟩:=zo h
  simp only [List.length_singleton] at h1
  obtain rfl:j=0:=by omega
  simp [World.cell?,hvb,tX]
 have LU:([]:List Int).length+1≤grownCap w (0+1) 0 3:=grownCap_ge ..
 have JV:grownCap w (0+1) 0 3≤maxLen:=grownCap_le_maxLen _ _ _ _ (by unfold maxLen;omega)
 have hz:∀n,(Builtin.zeroCells (Value.int .i64 0).cells n).size=n:=fun n=>by simp [Builtin.zeroCells,Value.cells]
 refine (Any2.slices_Insert_int_end_grow Tryz.Hj p 0 0 vb 0 1 vc [] ([x].map iV) w (by omega) (Nat.le_refl _) (by omega) (by omega) rfl rfl (fun _=>rfl) (fun a _ j v h=>by cases h) hvs gM).mono ?_
 rw [show Tryz.qj.t 3=3 from rfl]
 generalize grownCap w (0+1) 0 3=G at LU JV
 rintro e w' ⟨rfl,rfl⟩
 exact ⟨w.heap.size,G,rfl,Dw (l:= []) w none x hz LU JV⟩
theorem Dx {a:AObj} {b:Nat} (hb:b<1000000) {q:Nat} {o:AObj} (ha:a.isNest=false) (h:bL [(b,a)] q=some o):q=b∧o=a:=by
 have hl:look [(b,a)] q=some o:=(ja (fun p hp=>by
  simp only [List.mem_cons,List.not_mem_nil,or_false] at hp
  rw [hp];exact ha) h).1
 simp only [look] at hl
 split at hl
 ·rename_i e;cases hl;exact ⟨e.symm,rfl⟩
 ·cases hl
theorem A6 (l:List Int) (i:Nat) (x:Int) (hi:i≤l.length) (hlen:l.length≤1000000):
 Spec Tryz.prog 168 (Args [.ref 10000,eN i, .ref 10002]) [(10000, .own 3 1 (l.map rI)),(10002, .own 3 1 [rI x])] (.ref 10001) [(10001, .own 3 1 ((tC l i x).map rI))]:=by
 refine ⟨⟨Tryz.f168,_,Tryz.func168,by kernel_rfl,rfl⟩,fun E w vals hg hA=> ?_⟩
 obtain ⟨v,vs,rfl,h0,h3⟩:=hA
 obtain ⟨v2,T1,rfl,h1,h4⟩:=h3
 obtain ⟨v3,T6,rfl,h2,h5⟩:=h4
 simp only [AVrs] at h5
 subst h5
 obtain ⟨rfl,_⟩:=h0
 obtain ⟨rfl,_⟩:=h2
 have h1:=o5 h1
 subst h1
 obtain ⟨_,_,o1⟩:=hg.iz 10000 (.own 3 1 (l.map rI)) rfl
 obtain ⟨_,_,o2⟩:=hg.iz 10002 (.own 3 1 [rI x]) rfl
 obtain ⟨vb,cv,vc,q0,q1,q2,_,_,_,q6,q7⟩:∃b cur cap,E.ρ 10002=some b∧w.heap[b]? =some (.cells cur 3 (0,0))∧E.σ 10002= .slice (some ⟨b,0,none⟩) [rI x].length cap∧ [rI x].length≤cap∧cap*1=cur.size∧cap≤maxLen∧
  E.z b=0∧∀(i j:Nat) (r:List D) (y:D), [rI x][i]? =some r→r[j]? =some y→∃v,cur[i*1+j]? =some v∧Rd w E.z v y:=by
  rcases o2 with ⟨_,h,_⟩|h
  ·cases h
  ·exact h
 have tX:cv[0]? =some (iV x):=by
  obtain ⟨v,h1,h2⟩:=q7 0 0 (rI x) (.sc (.int .i64 x)) rfl rfl
  rw [o5 h2] at h1
  exact h1
 have key:∃bo:Option Nat,(∀b,bo=some b→E.ρ 10000=some b)∧(∀b,bo=some b→E.z b=0)∧Calls Tryz.prog 168 #[E.σ 10000, .int .i64 (i:Int),E.σ 10002] w fun e w'=>
  ∃B c',e= .returned (.slice (some ⟨B,0,none⟩) (l.length+1) c')∧Ins w w' bo 3 (tC l i x) B c':=by
  rcases o1 with ⟨r0,r1,p,r2⟩|⟨b,cur,cap,r0,r1,r2,r3,r4,r5,r6,r7⟩
  ·have hl0:l= []:=List.map_eq_nil_iff.1 r1
   have MU:i=0:=by rw [hl0] at hi;simpa using hi
   subst MU
   rw [r2,q2]
   exact ⟨none,by simp,by simp,A5 hl0 x w p vb vc cv _ q1 tX⟩
  ·rw [List.length_map] at r2 r3
   have hne:vb≠b:=fun e=>by
    subst e
    have:=hg.inj 10000 10002 vb (by simp [cO,look]) (by simp [cO,look]) r0 q0
    omega
   rw [r2,q2]
   refine ⟨some b,fun c h=>by cases h;exact r0,fun c h=>by cases h;exact r6,zq hi hlen x w b cap cur vb vc cv _ r1 (by omega) r3 r5 (fun j hj=> ?_) q1 hne tX⟩
   obtain ⟨v,h1,h2⟩:=r7 j 0 (rI l[j]) (.sc (.int .i64 l[j])) (by simp [List.getElem?_eq_getElem hj]) rfl
   rw [o5 h2] at h1
   simpa [List.getD_eq_getElem?_getD,List.getElem?_eq_getElem hj,iV] using h1
 obtain ⟨bo,k1,k2,Ot⟩:=key
 refine Ot.mono ?_
 rintro e w' ⟨B,c',rfl,hI⟩
 obtain ⟨cur,m1,m2,m3⟩:=hI.row
 have j0:=vo l i x
 have T7:E.z B=0:=by
  rcases hI.Cw with h|h
  ·exact k2 B h
  ·exact hg.fresh B (by omega)
 have hst:aO w E.z w' E.z:=fun q=>⟨Nat.le_refl _,fun o ho=>by
  by_cases hq:q=B
  ·subst hq;omega
  ·by_cases T8:q<w.heap.size
   ·simp only [World.cell?,hI.same q T8 hq]
   ·have:=hg.fresh q (by omega);omega⟩
 refine ⟨_,⟨fun q=>if q=10001 then some B else E.ρ q,fun q=>if q=10001 then .slice (some ⟨B,0,none⟩) (l.length+1) c' else E.σ q,E.z⟩,rfl,⟨hI.os,hI.tape,hI.output,hI.size,hst,fun q hq hnm=>⟨hI.same q hq fun e=> ?_,rfl⟩,fun q hq=> ?_⟩,⟨fun q hq=> ?_,fun q q' c hq nN _ _=> ?_,fun q o hq=> ?_,fun q hq=>hg.fresh q (by have:=hI.size;omega)⟩,fun q o c hq hro hc=> ?_,⟨?_,trivial⟩⟩
 ·subst e
  rcases hI.Cw with h|h
  ·exact hnm ⟨10000,_,rfl,rfl,k1 _ h⟩
  ·omega
 ·have:q≠10001:=fun e=>by subst e;simp [cO,look] at hq
  exact ⟨if_neg this,if_neg this⟩
 ·simp only [look] at hq
  split at hq
  ·omega
  ·exact absurd rfl hq
 ·obtain ⟨o,ho⟩:=Option.ne_none_iff_exists'.1 hq
  obtain ⟨o',ho'⟩:=Option.ne_none_iff_exists'.1 nN
  rw [(Dx (by decide) rfl ho).1,(Dx (by decide) rfl ho').1]
 ·obtain ⟨rfl,rfl⟩:=Dx (by decide) rfl hq
  refine ⟨fun r hr=> ?_,by decide, .inr ⟨B,cur,c',by simp,m1, ?_, ?_,by omega,hI.max,T7,fun p j r y h1 h2=> ?_⟩⟩
  ·obtain ⟨v,_,rfl⟩:=List.mem_map.1 hr
   rfl
  ·rw [List.length_map,j0];simp
  ·rw [List.length_map];exact hI.le
  ·rw [List.getElem?_map] at h1
   obtain ⟨v,h3,rfl⟩:=Option.map_eq_some_iff.1 h1
   cases j with
   |succ j=>simp [rI] at h2
   |zero=>
    simp only [rI,List.getElem?_cons_zero,Option.some.injEq] at h2
    subst h2
    have hi:p<(tC l i x).length:=(List.getElem?_eq_some_iff.1 h3).1
    refine ⟨_,by simpa using m3 p hi, ?_⟩
    rw [h3]
    exact .sc _ rfl
 ·obtain ⟨rfl,rfl⟩:=Dx (by decide) rfl hq
  have hc:some B=some c:=hc
  cases hc
  rcases hI.Cw with h|h
  ·exact .inr ⟨10000,_,rfl,rfl,k1 _ h⟩
  ·exact .inl (by omega)
 ·simp
end Go.Ab
