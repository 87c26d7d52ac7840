/- slices.Insert of one whole number into a slice of one's own, by the kit's contracts: over abstract values. -/
import Derived.Shelf.Spec.SlicesInsertGrow
import Derived.Test.YtameldglfobjkaaGreatL6P32
set_option linter.unusedSimpArgs false
set_option linter.unusedVariables false
set_option linter.unusedSectionVars false
namespace Go.Ab
open Go.Proofs Go.RowKit Go.Shelf
set_option maxRecDepth 10000
def zH:Array Value->Nat->List Value->Array Value
 |c,_, []=>c
 |c,o,v::r=>zH (c.setIfInBounds o v) (o+1) r
theorem jd:∀(vs:List Value) (c:Array Value) (o:Nat),(zH c o vs).size=c.size
 | [],_,_=>rfl
 |v::r,c,o=>by rw[zH,jd r];simp
theorem Fo:∀(vs:List Value) (c:Array Value) (o k:Nat),(zH c o vs)[k]? =if o<=k/\k<o+vs.length/\k<c.size then vs[k - o]? else c[k]?
 | [],c,o,k=>by rw[zH,ac7 (by simp;omega)]
 |v::r,c,o,k=>by
  rw[zH,Fo r,Array.size_setIfInBounds,agK]
  simp only[List.length_cons]
  by_cases h1:o+1<=k/\k<o+1+r.length/\k<c.size
  ·rw[ac9 h1,ac9 ⟨by omega,by omega,h1.2.2⟩,show k - o=(k - (o+1))+1 by omega,List.getElem?_cons_succ]
  ·rw[ac7 h1]
   by_cases h2:o=k
   ·subst h2
    rw[ac9 rfl]
    by_cases h3:o<c.size
    ·rw[ac9 h3,ac9 ⟨by omega,by omega,h3⟩];simp
    ·rw[ac7 h3,ac7 (by omega),aeg (by omega)]
   ·rw[ac7 h2,ac7 (by omega)]
theorem qd{vs:List Value}{c:Array Value}{o k:Nat}(h:¬(o<=k/\k<o+vs.length)):(zH c o vs)[k]? =c[k]? :=by rw[Fo,ac7 fun e=>h ⟨e.1,e.2.1⟩]
theorem rV{vs:List Value}{c:Array Value}{o k:Nat}(h:o<=k)(h1:k<o+vs.length)(h2:k<c.size):(zH c o vs)[k]? =vs[k - o]? :=by rw[Fo,ac9 ⟨h,h1,h2⟩]
theorem lK(b:Nat):∀(vs:List Value) (o:Nat) (w:World) {cur:Array Value} {e:TypeId} {fr:Nat × Nat},w.heap[b]? =some (.cells cur e fr)->(w.setCells b o vs).heap[b]? =some (.cells (zH cur o vs) e fr)
 | [],_,_,_,_,_,h=>h
 |v::r,o,w,cur,e,fr,h=>by
  rw[World.setCells,zH]
  refine lK b r (o+1) _ ?_
  simp only[World.setCell,aeG,h]
  simp
theorem lM(b:Nat):∀(vs:List Value) (o:Nat) (w:World),(w.setCells b o vs).heap.size=w.heap.size
 | [],_,_=>rfl
 |v::r,o,w=>by rw[World.setCells,lM b r];simp[World.setCell]
theorem lN(b:Nat):∀(vs:List Value) (o:Nat) (w:World),(w.setCells b o vs).tape=w.tape
 | [],_,_=>rfl
 |v::r,o,w=>by rw[World.setCells,lN b r];rfl
theorem tu(b:Nat):∀(vs:List Value) (o:Nat) (w:World),(w.setCells b o vs).os=w.os
 | [],_,_=>rfl
 |v::r,o,w=>by rw[World.setCells,tu b r];rfl
theorem je(b:Nat):∀(vs:List Value) (o:Nat) (w:World),(w.setCells b o vs).output=w.output
 | [],_,_=>rfl
 |v::r,o,w=>by rw[World.setCells,je b r];rfl
theorem jV(b:Nat){q:Nat}(hn:q≠b):∀(vs:List Value) (o:Nat) (w:World),(w.setCells b o vs).heap[q]? =w.heap[q]?
 | [],_,_=>rfl
 |v::r,o,w=>by
  rw[World.setCells,jV b hn r]
  show(w.heap.modify b _)[q]? =_
  rw[aeG,ac7 (by omega)]
theorem vg(w:World)(o:Obj):(w.alloc o).heap=w.heap.push o:=rfl
theorem tC(w:World)(o:Obj){q:Nat}(hq:q<w.heap.size):(w.alloc o).heap[q]? =w.heap[q]? :=by rw[vg,ago,ac7 (by omega)]
theorem DP(w:World)(o:Obj):(w.alloc o).heap[w.heap.size]? =some o:=by rw[vg,ago,ac9 rfl]
theorem vh(w:World)(o:Obj):w.heap.size<=(w.alloc o).heap.size:=by rw[vg,agX];omega
def zI(l:List Int)(i:Nat)(x:Int):List Int:=l.take i++x::l.drop i
theorem Cl(l:List Int)(i:Nat)(x:Int):(zI l i x).length=l.length+1:=by
 simp[zI];omega
theorem Ah{l:List Int}{i:Nat}(hi:i<=l.length)(x:Int)(j:Nat)(hj:j<l.length+1):(zI l i x).getD j 0=if j<i then l.getD j 0 else if j=i then x else l.getD (j - 1) 0:=by
 unfold zI
 simp only[aas]
 have hlt:(l.take i).length=i:=by simp;omega
 rcases aew j i with h|h|h
 ·rw[ac9 h,adx (by omega),afU h]
 ·subst h
  rw[ac7 (by omega),ac9 rfl,adw (by omega),hlt,ags]
  rfl
 ·rw[ac7 (by omega),ac7 (by omega),adw (by omega),hlt,show j - i=(j - 1 - i)+1 by omega,List.getElem?_cons_succ,ad3,show i+(j - 1 - i)=j - 1 by omega]
def iV(x:Int):Value:= .int .i64 x
structure Ins (w w':World) (b:Option Nat) (e:TypeId) (l':List Int) (B cap:Nat):Prop where
 os:w'.os=w.os
 tape:w'.tape=w.tape
 output:w'.output=w.output
 size:w.heap.size<=w'.heap.size
 same:∀q,q<w.heap.size->q≠B->w'.heap[q]? =w.heap[q]?
 J1:b=some B\/w.heap.size=B
 row:∃cur,w'.heap[B]? =some (.cells cur e (0,0))/\cap=cur.size/\∀j,j<l'.length->cur[j]? =some (iV (l'.getD j 0))
 le:l'.length<=cap
 max:cap<=maxLen
theorem Fp{l:List Int}{j:Nat}{v:Value}(h:(l.map iV)[j]? =some v):j<l.length/\v=iV (l.getD j 0):=by
 rw[adm]at h
 obtain⟨y,h1,rfl⟩:=ad9.1 h
 exact⟨(adh.1 h1).1,by rw[aas,h1];rfl⟩
theorem HO{l:List Int}{i j:Nat}(h:j<l.length - i):((l.map iV).drop i)[j]? =some (iV (l.getD (i+j) 0)):=by
 rw[ad3,adm,aas,acF (by omega)];rfl
theorem Ro{l:List Int}{i j:Nat}(h:j<i)(hi:i<=l.length):((l.map iV).take i)[j]? =some (iV (l.getD j 0)):=by
 rw[afU h,adm,aas,acF (by omega)];rfl
theorem jW{l:List Int} :∀v∈l.map iV,v.oneCell'=true:=by
 intro v hv
 obtain⟨x,_,rfl⟩:=ada.1 hv
 rfl
theorem LN{l:List Int}(w:World)(b:Option Nat)(x:Int){G e:Nat}(hz:∀n,(Builtin.zeroCells (Value.int .i64 0).cells n).size=n)(Wf:l.length+1<=G)(TA:G<=maxLen):
 Ins w (w.drew.alloc (.cells ((l.map iV++ [x].map iV).toArray++Builtin.zeroCells (Value.int .i64 0).cells (G - (l.length+1))) e)) b e (zI l l.length x) w.heap.size G:=by
 have yJ:=Cl l l.length x
 refine⟨rfl,rfl,rfl,vh w.drew _,fun q hq hn=>tC w.drew _ hq, .inr rfl,⟨_,DP w.drew _, ?_,fun j hj=> ?_⟩,by omega,TA⟩
 ·rw[afh,hz];simp;omega
 ·rw[yJ]at hj
  rw[Ah (adg _) x j hj,aes (by simp;omega),aeq]
  rcases aew j l.length with h|h|h
  ·rw[ac9 h,adx (by simpa using h),adm,aas,acF h];rfl
  ·subst h
   rw[ac7 (show ¬l.length<l.length by omega),ac9 rfl,adw (by simp)]
   simp
  ·omega
theorem Fq{l:List Int}{i:Nat}(hi:i<=l.length)(hlen:l.length<=1000000)(x:Int)(w:World)(b:Nat)(cap:Nat)(cur:Array Value)(vb:Nat)(vc:Nat)(cv:Array Value)(tv:TypeId)
 (hb:w.heap[b]? =some (.cells cur 3 (0,0))) (hcap:cap=cur.size) (hlc:l.length<=cap) (uv:cap<=maxLen) (Jw:∀j,j<l.length->cur[j]? =some (iV (l.getD j 0)))
 (hvb:w.heap[vb]? =some (.cells cv tv (0,0))) (hne:vb≠b) (oZ:cv[0]? =some (iV x)):
 Calls Tryz.prog 153 #[.slice (some ⟨b,0,none⟩) l.length cap, .int .i64 i, .slice (some ⟨vb,0,none⟩) 1 vc] w fun e w'=>
  ∃B c',e= .returned (.slice (some ⟨B,0,none⟩) (l.length+1) c')/\Ins w w' (some b) 3 (zI l i x) B c':=by
 have H9:cap<=9223372036854775807:=by unfold maxLen at uv;omega
 have Ct:b<w.heap.size:=(adq.1 hb).1
 have hcs:∀j v,(l.map iV)[j]? =some v->w.cell? ⟨b,0+j,none⟩=some v:=fun j v h=>by
  obtain⟨h1,rfl⟩:=Fp h
  simp[World.cell?,hb,Jw j h1]
 have hvs:∀j v,([x].map iV)[j]? =some v->w.cell? ⟨vb,0+j,none⟩=some v:=fun j v h=>by
  obtain⟨h1,rfl⟩:=Fp h
  simp only[List.length_singleton]at h1
  obtain rfl:j=0:=by omega
  simp[World.cell?,hvb,oZ]
 have yJ:=Cl l i x
 by_cases hroom:l.length+1<=cap
 ·by_cases hlt:i<l.length
  ·refine(Any2.slices_Insert_int_shift Tryz.Rm b 0 l.length cap i vb 0 1 vc (l.map iV) ([x].map iV) w hlt (by omega) hroom H9 hne (by simp) rfl hcs ?_ ?_ hvs jW jW tv 3 cv.size cur.size ?_ ?_ ?_ ?_ ?_).mono ?_
   ·intro j hj
    simp only[World.cell?,hb,adT,Option.isSome_none,aec,if_false]
    rw[adX (by omega)];rfl
   ·intro j hj;simp[World.frozen?,hb]
   ·simp[World.shape?,hvb]
   ·simp[World.shape?,hb]
   ·omega
   ·simp[World.frozen?,hvb]
   ·simp[World.frozen?,hvb]
   rintro e w' ⟨rfl,rfl⟩
   have hh:((w.drew.setCells b (0+(i+1)) ((l.map iV).drop i)).setCells b (0+i) ([x].map iV)).heap[b]? =some (.cells (zH (zH cur (0+(i+1)) ((l.map iV).drop i)) (0+i) ([x].map iV)) 3 (0,0)):=lK b _ _ _ (lK b _ _ _ hb)
   refine⟨b,cap,rfl,⟨?_, ?_, ?_, ?_,fun q hq hn=> ?_, .inl rfl,⟨_,hh,by rw[jd,jd];exact hcap,fun j hj=> ?_⟩,by omega,uv⟩⟩
   ·rw[tu,tu];rfl
   ·rw[lN,lN];rfl
   ·rw[je,je];rfl
   ·rw[lM,lM];exact adg _
   ·rw[jV b hn,jV b hn];rfl
   ·rw[yJ]at hj
    rw[Ah hi x j hj]
    rcases aew j i with h|h|h
    ·rw[ac9 h,qd (by simp;omega),qd (by simp;omega)]
     exact Jw j (by omega)
    ·subst h
     rw[ac7 (show ¬j<j by omega),ac9 rfl,rV (by omega) (by simp) (by rw[jd];omega)]
     simp
    ·rw[ac7 (show ¬j<i by omega),ac7 (show ¬j=i by omega),qd (by simp;omega),rV (by omega) (by simp;omega) (by omega),HO (by omega)]
     rw[show i+(j - (0+(i+1)))=j - 1 by omega]
  ·obtain rfl:i=l.length:=by omega
   refine(Any2.slices_Insert_int_end_room Tryz.Rm b 0 l.length cap vb 0 1 vc ([x].map iV) w (by omega) hroom H9 rfl ?_ ?_ hvs jW).mono ?_
   ·intro j hj
    simp only[World.cell?,hb,adT,Option.isSome_none,aec,if_false]
    rw[adX (by omega)];rfl
   ·intro j hj;simp[World.frozen?,hb]
   rintro e w' ⟨rfl,rfl⟩
   refine⟨b,cap,rfl,⟨tu ..,lN ..,je ..,by rw[lM];exact adg _,fun q hq hn=>jV b hn _ _ _, .inl rfl,⟨_,lK b _ _ _ hb,by rw[jd];exact hcap,fun j hj=> ?_⟩,by omega,uv⟩⟩
   rw[yJ]at hj
   rw[Ah hi x j hj]
   rcases aew j l.length with h|h|h
   ·rw[ac9 h,qd (by simp;omega)]
    exact Jw j h
   ·subst h
    rw[ac7 (show ¬l.length<l.length by omega),ac9 rfl,rV (by omega) (by simp) (by omega)]
    simp
   ·omega
 ·have Wf:l.length+1<=grownCap w (l.length+1) cap 3:=grownCap_ge ..
  have TA:grownCap w (l.length+1) cap 3<=maxLen:=grownCap_le_maxLen _ _ _ _ (by unfold maxLen;omega)
  have hz:∀n,(Builtin.zeroCells (Value.int .i64 0).cells n).size=n:=fun n=>by simp[Builtin.zeroCells,Value.cells]
  by_cases hlt:i<l.length
  ·refine(Any2.slices_Insert_int_grow Tryz.Rm b 0 l.length cap i vb 0 1 vc (l.map iV) ([x].map iV) w hlt (by omega) hlc (by omega) (by omega) (by simp) rfl hcs hvs jW jW).mono ?_
   rw[show Tryz.xJ.t 3=3 from rfl]
   generalize grownCap w (l.length+1) cap 3=G at Wf TA
   rintro e w' ⟨rfl,rfl⟩
   generalize hR:((l.map iV).take i).toArray++Builtin.zeroCells (Value.int .i64 0).cells (l.length+1 - i)++Builtin.zeroCells (Value.int .i64 0).cells (G - (l.length+1))=R
   have hRs:R.size=G:=by rw[<- hR,afh,afh,hz,hz];simp;omega
   have X6:∀j,j<i->R[j]? =some (iV (l.getD j 0)):=fun j hj=>by
    rw[<- hR,aes (by rw[afh,hz];simp;omega),aes (by simp;omega),aeq,Ro hj hi]
   have h0:(w.alloc (.cells R 3)).heap[w.heap.size]? =some (.cells R 3 (0,0)):=DP w _
   refine⟨w.heap.size,G,rfl,⟨?_, ?_, ?_, ?_,fun q hq hn=> ?_, .inr rfl,⟨_,lK _ _ _ _ (lK _ ([x].map iV) i _ h0),by rw[jd,jd,hRs],fun j hj=> ?_⟩,by omega,TA⟩⟩
   ·rw[tu];show World.os (World.setCells _ _ _ _)=_;rw[tu];rfl
   ·rw[lN];show World.tape (World.setCells _ _ _ _)=_;rw[lN];rfl
   ·rw[je];show World.output (World.setCells _ _ _ _)=_;rw[je];rfl
   ·rw[lM];show _<=(World.setCells _ _ _ _).heap.size;rw[lM];exact vh w _
   ·rw[jV _ hn]
    show(World.setCells _ _ _ _).heap[q]? =_
    rw[jV _ hn]
    exact tC w _ hq
   ·rw[yJ]at hj
    rw[Ah hi x j hj]
    rcases aew j i with h|h|h
    ·rw[ac9 h,qd (by simp;omega),qd (by simp;omega)]
     exact X6 j h
    ·subst h
     rw[ac7 (show ¬j<j by omega),ac9 rfl,qd (by simp;omega),rV (by omega) (by simp) (by omega)]
     simp
    ·rw[ac7 (show ¬j<i by omega),ac7 (show ¬j=i by omega),rV (by omega) (by simp;omega) (by rw[jd];omega),HO (by omega)]
     rw[show i+(j - (i+1))=j - 1 by omega]
  ·obtain rfl:i=l.length:=by omega
   refine(Any2.slices_Insert_int_end_grow Tryz.Rm (some ⟨b,0,none⟩) l.length cap vb 0 1 vc (l.map iV) ([x].map iV) w (by omega) hlc (by omega) (by omega) (by simp) rfl (by simp) ?_ hvs jW).mono ?_
   ·rintro a ha j v h
    cases ha
    have:=hcs j v h
    rcases af5 j with h0|h0
    ·subst h0;exact this
    ·simpa[Addr.add,show ¬j=0 by omega]using this
   rw[show Tryz.xJ.t 3=3 from rfl]
   generalize grownCap w (l.length+1) cap 3=G at Wf TA
   rintro e w' ⟨rfl,rfl⟩
   exact⟨w.heap.size,G,rfl,LN w (some b) x hz Wf TA⟩
theorem HP{l:List Int}(hl:l= [])(x:Int)(w:World)(p:Option Addr)(vb vc:Nat)(cv:Array Value)(tv:TypeId)
 (hvb:w.heap[vb]? =some (.cells cv tv (0,0))) (oZ:cv[0]? =some (iV x)):
 Calls Tryz.prog 153 #[.slice p 0 0, .int .i64 (0:Nat), .slice (some ⟨vb,0,none⟩) 1 vc] w fun e w'=>
  ∃B c',e= .returned (.slice (some ⟨B,0,none⟩) (l.length+1) c')/\Ins w w' none 3 (zI l 0 x) B c':=by
 subst hl
 have hvs:∀j v,([x].map iV)[j]? =some v->w.cell? ⟨vb,0+j,none⟩=some v:=fun j v h=>by
  obtain⟨h1,rfl⟩:=Fp h
  simp only[List.length_singleton]at h1
  obtain rfl:j=0:=by omega
  simp[World.cell?,hvb,oZ]
 have Wf:([]:List Int).length+1<=grownCap w (0+1) 0 3:=grownCap_ge ..
 have TA:grownCap w (0+1) 0 3<=maxLen:=grownCap_le_maxLen _ _ _ _ (by unfold maxLen;omega)
 have hz:∀n,(Builtin.zeroCells (Value.int .i64 0).cells n).size=n:=fun n=>by simp[Builtin.zeroCells,Value.cells]
 refine(Any2.slices_Insert_int_end_grow Tryz.Rm p 0 0 vb 0 1 vc [] ([x].map iV) w (by omega) (adg _) (by omega) (by omega) rfl rfl (fun _=>rfl) (fun a _ j v h=>by cases h) hvs jW).mono ?_
 rw[show Tryz.xJ.t 3=3 from rfl]
 generalize grownCap w (0+1) 0 3=G at Wf TA
 rintro e w' ⟨rfl,rfl⟩
 exact⟨w.heap.size,G,rfl,LN (l:= []) w none x hz Wf TA⟩
theorem LO{a:AObj}{b:Nat}(hb:b<1000000){q:Nat}{o:AObj}(ha:a.isNest=false)(h:bM [(b,a)] q=some o):q=b/\o=a:=by
 have hl:look [(b,a)] q=some o:=(fG (fun p hp=>by
  simp only[adv,aen,or_false]at hp
  rw[hp];exact ha) h).1
 simp only[look]at hl
 split at hl
 ·rename_i e;cases hl;exact⟨e.symm,rfl⟩
 ·cases hl
theorem HQ(l:List Int)(i:Nat)(x:Int)(hi:i<=l.length)(hlen:l.length<=1000000):
 Spec Tryz.prog 153 (Args [.ref 10000,eN i, .ref 10002]) [(10000, .own 3 1 (l.map rI)),(10002, .own 3 1 [rI x])] (.ref 10001) [(10001, .own 3 1 ((zI l i x).map rI))]:=by
 refine⟨⟨Tryz.f153,_,Tryz.func153,by kernel_rfl,rfl⟩,fun E w vals hg hA=> ?_⟩
 obtain⟨v,vs,rfl,h0,h3⟩:=hA
 obtain⟨v2,vs2,rfl,h1,h4⟩:=h3
 obtain⟨v3,vs3,rfl,h2,h5⟩:=h4
 simp only[AVrs]at h5
 subst h5
 obtain⟨rfl,_⟩:=h0
 obtain⟨rfl,_⟩:=h2
 have h1:=mq h1
 subst h1
 obtain⟨_,_,o1⟩:=hg.gw 10000 (.own 3 1 (l.map rI)) rfl
 obtain⟨_,_,o2⟩:=hg.gw 10002 (.own 3 1 [rI x]) rfl
 obtain⟨vb,cv,vc,q0,q1,q2,_,_,_,q6,q7⟩:∃b cur cap,E.ρ 10002=some b/\w.heap[b]? =some (.cells cur 3 (0,0))/\E.σ 10002= .slice (some ⟨b,0,none⟩) [rI x].length cap/\ [rI x].length<=cap/\cap*1=cur.size/\cap<=maxLen/\
  E.z b=0/\∀(i j:Nat) (r:List D) (y:D), [rI x][i]? =some r->r[j]? =some y->∃v,cur[i*1+j]? =some v/\Rd w E.z v y:=by
  rcases o2 with ⟨_,h,_⟩|h
  ·cases h
  ·exact h
 have oZ:cv[0]? =some (iV x):=by
  obtain⟨v,h1,h2⟩:=q7 0 0 (rI x) (.sc (.int .i64 x)) rfl rfl
  rw[mq h2]at h1
  exact h1
 have key:∃bo:Option Nat,(∀b,bo=some b->E.ρ 10000=some b)/\(∀b,bo=some b->E.z b=0)/\Calls Tryz.prog 153 #[E.σ 10000, .int .i64 (i:Int),E.σ 10002] w fun e w'=>
  ∃B c',e= .returned (.slice (some ⟨B,0,none⟩) (l.length+1) c')/\Ins w w' bo 3 (zI l i x) B c':=by
  rcases o1 with ⟨r0,r1,p,r2⟩|⟨b,cur,cap,r0,r1,r2,r3,r4,r5,r6,r7⟩
  ·have hl0:l= []:=aeF.1 r1
   have WX:i=0:=by rw[hl0]at hi;simpa using hi
   subst WX
   rw[r2,q2]
   exact⟨none,by simp,by simp,HP hl0 x w p vb vc cv _ q1 oZ⟩
  ·rw[adn]at r2 r3
   have hne:vb≠b:=fun e=>by
    subst e
    have:=hg.inj 10000 10002 vb (by simp[bJ,look]) (by simp[bJ,look]) r0 q0
    omega
   rw[r2,q2]
   refine⟨some b,fun c h=>by cases h;exact r0,fun c h=>by cases h;exact r6,Fq hi hlen x w b cap cur vb vc cv _ r1 (by omega) r3 r5 (fun j hj=> ?_) q1 hne oZ⟩
   obtain⟨v,h1,h2⟩:=r7 j 0 (rI l[j]) (.sc (.int .i64 l[j])) (by simp[acF hj]) rfl
   rw[mq h2]at h1
   simpa[aas,acF hj,iV]using h1
 obtain⟨bo,k1,k2,YP⟩:=key
 refine YP.mono ?_
 rintro e w' ⟨B,c',rfl,hI⟩
 obtain⟨cur,m1,m2,m3⟩:=hI.row
 have iF:=Cl l i x
 have hzB:E.z B=0:=by
  rcases hI.J1 with h|h
  ·exact k2 B h
  ·exact hg.fresh B (by omega)
 have hst:aK w E.z w' E.z:=fun q=>⟨adg _,fun o ho=>by
  by_cases hq:q=B
  ·subst hq;omega
  ·by_cases Yn:q<w.heap.size
   ·simp only[World.cell?,hI.same q Yn hq]
   ·have:=hg.fresh q (by omega);omega⟩
 refine⟨_,⟨fun q=>if q=10001 then some B else E.ρ q,fun q=>if q=10001 then .slice (some ⟨B,0,none⟩) (l.length+1) c' else E.σ q,E.z⟩,rfl,⟨hI.os,hI.tape,hI.output,hI.size,hst,fun q hq hnm=>⟨hI.same q hq fun e=> ?_,rfl⟩,fun q hq=> ?_⟩,⟨fun q hq=> ?_,fun q q' c hq oW _ _=> ?_,fun q o hq=> ?_,fun q hq=>hg.fresh q (by have:=hI.size;omega)⟩,fun q o c hq hro hc=> ?_,⟨?_,trivial⟩⟩
 ·subst e
  rcases hI.J1 with h|h
  ·exact hnm ⟨10000,_,rfl,rfl,k1 _ h⟩
  ·omega
 ·have:q≠10001:=fun e=>by subst e;simp[bJ,look]at hq
  exact⟨ac7 this,ac7 this⟩
 ·simp only[look]at hq
  split at hq
  ·omega
  ·exact absurd rfl hq
 ·obtain⟨o,ho⟩:=ade.1 hq
  obtain⟨o',ho'⟩:=ade.1 oW
  rw[(LO (by decide) rfl ho).1,(LO (by decide) rfl ho').1]
 ·obtain⟨rfl,rfl⟩:=LO (by decide) rfl hq
  refine⟨fun r hr=> ?_,by decide, .inr ⟨B,cur,c',by simp,m1, ?_, ?_,by omega,hI.max,hzB,fun p j r y h1 h2=> ?_⟩⟩
  ·obtain⟨v,_,rfl⟩:=ada.1 hr
   rfl
  ·rw[adn,iF];simp
  ·rw[adn];exact hI.le
  ·rw[adm]at h1
   obtain⟨v,h3,rfl⟩:=ad9.1 h1
   cases j with
   |succ j=>simp[rI]at h2
   |zero=>
    simp only[rI,List.getElem?_cons_zero,ady]at h2
    subst h2
    have hi:p<(zI l i x).length:=(adh.1 h3).1
    refine⟨_,by simpa using m3 p hi, ?_⟩
    rw[h3]
    exact .sc _ rfl
 ·obtain⟨rfl,rfl⟩:=LO (by decide) rfl hq
  have hc:some B=some c:=hc
  cases hc
  rcases hI.J1 with h|h
  ·exact .inr ⟨10000,_,rfl,rfl,k1 _ h⟩
  ·exact .inl (by omega)
 ·simp
end Go.Ab
