/- A part of the proof. -/
import Derived.MapKept
import Derived.Test.YtchjjbfhlchpfaaGreatL10P5
set_option linter.unusedSimpArgs false
set_option linter.unusedVariables false
section
namespace Go.Ab
theorem rC {w:World} {E:Env} :∀ {as:List AV} {key:List Int} {us:List Value},intsOf as=some key→AVrs w E as us→us=key.map (Value.int .i64)
 | [],key,us,h,hr=>by simp only [intsOf,Option.some.injEq] at h;simp only [AVrs] at hr;subst h;subst hr;rfl
 |a::as,key,us,h,hr=>by
  obtain ⟨u,us',rfl,h1,h2⟩:=hr
  unfold intsOf at h
  split at h
  ·rename_i heq;cases heq
  ·rename_i b r heq
   cases heq
   split at h
   ·rename_i q hq
    cases h
    rw [bw h1,rC hq h2];rfl
   ·cases h
  ·cases h
theorem mM:∀(xs:List Int),((xs.map (Value.int .i64)).zip (xs.map (Value.int .i64))).all (fun p=>Instr.sameBits 9999 p.1 p.2)=true
 | []=>rfl
 |x::xs=>by
  simp only [List.map_cons,List.zip_cons_cons,List.all_cons,mM xs,Bool.and_true]
  simp [Instr.sameBits]
theorem kN {P:Program} (w:World) (xs:List Int):(Instr.keyThatStays (.agg (xs.map (Value.int .i64)).toArray) (.agg (xs.map (Value.int .i64)).toArray)).run P w= .ok (.agg (xs.map (Value.int .i64)).toArray) w:=by
 have:Instr.sameBits 10000 (.agg (xs.map (Value.int .i64)).toArray) (.agg (xs.map (Value.int .i64)).toArray)=true:=by
  have h:=mM xs
  simp only [Instr.sameBits,beq_self_eq_true,Bool.true_and]
  exact h
 simp [Instr.keyThatStays,this]
theorem gO {P:Program} (w:World) {kt n:Nat} (he:nK P kt n) {key:List Int} (hk:key.length=n):∀(aq:List (List Int × Int)) (es:List MapEntry) (i:Nat),es.length=aq.length→(∀p∈aq,p.1.length=n)→
 (∀(j:Nat) p,aq[j]? =some p→∃b,es[j]? =some ⟨.agg (p.1.map (Value.int .i64)).toArray, .int .i64 p.2,b⟩)→
 (Instr.findAsking kt (.agg (key.map (Value.int .i64)).toArray) es i).run P w= .ok ((cE aq key).map fun j=>(i+j, .int .i64 ((aq[j]?.map (·.2)).getD 0))) w
 | [],es,i,hl,_,_=>by
   have:es= []:=List.eq_nil_of_length_eq_zero hl
   subst this
   simp [Instr.findAsking,cE]
 |p::aq, [],i,hl,_,_=>by simp at hl
 |p::aq,e::es,i,hl,hn,h=>by
  obtain ⟨b,hb⟩:=h 0 p rfl
  simp only [List.getElem?_cons_zero,Option.some.injEq] at hb
  subst hb
  have ih:=gO w he hk aq es (i+1) (by simpa using hl) (fun q hq=>hn q (by simp [hq])) (fun j q hq=>by have:=h (j+1) q (by simpa using hq);simpa using this)
  have heq:=(he.2 w key p.1 hk (hn p (by simp))).1
  have heq':(Op.equal kt (.agg (key.map (Value.int .i64)).toArray) (.agg (p.1.map (Value.int .i64)).toArray)).run P w= .ok (decide (key=p.1)) w:=heq
  by_cases hkp:key=p.1
  ·subst hkp
   simp [Instr.findAsking,heq',cE,List.findIdx?_cons]
  ·have Nl:=ih
   simp only [cE] at Nl
   simp [Instr.findAsking,heq',hkp,cE,List.findIdx?_cons,Nl]
   congr 1
   funext j
   simp only [Function.comp,List.getElem?_cons_succ,Prod.mk.injEq,and_true]
   omega
theorem ir {aq:List (List Int × Int)} {k:List Int} {i:Nat} (h:cE aq k=some i):∃p,aq[i]? =some p∧p.1=k:=by
 unfold cE at h
 rw [List.findIdx?_eq_some_iff_getElem] at h
 obtain ⟨hi,hp,_⟩:=h
 exact ⟨aq[i],List.getElem?_eq_getElem hi,by simpa using (of_decide_eq_true hp).symm⟩
theorem mX {aq:List (List Int × Int)} {k:List Int} (h:cE aq k=none):∀p∈aq,p.1≠k:=by
 unfold cE at h
 rw [List.findIdx?_eq_none_iff] at h
 intro p hp e
 have:=h p hp
 simp [e] at this
structure Af (P:Program) (kt n:Nat):Prop where
 qx:∀(w:World) em (key:List Int),key.length=kW n→(Instr.checkKey em 10000 kt (kV n key)).run P w= .ok () w
 find:∀(w:World) (key:List Int) aq es,key.length=kW n→ji n aq es→(Instr.findKey kt (kV n key) es.toList).run P w= .ok ((cE aq key).map fun j=>(j, .int .i64 ((aq[j]?.map (·.2)).getD 0))) w
 stay:∀(w:World) (key:List Int),(Instr.keyThatStays (kV n key) (kV n key)).run P w= .ok (kV n key) w
theorem Ag (n:Nat) (key:List Int):kV (n+1) key= .agg (key.map (Value.int .i64)).toArray:=rfl
theorem Ah (k:Int):kV 0 [k]= .int .i64 k:=rfl
theorem vn {P:Program} {kt n:Nat} (he:nK P kt (n+1)) (hu:∃fs,P.underlying kt=some (.struct fs)):Af P kt (n+1):=by
 refine ⟨fun w em key hk=>(he.2 w key key hk hk).2 em,fun w key aq es hk EX=> ?_,fun w key=>kN w key⟩
 obtain ⟨fs,hu⟩:=hu
 have ha:=gO w he hk aq es.toList 0 (by simpa using EX.size) EX.len (fun j p hp=>⟨j,by simpa [Ag] using EX.F7 j p hp⟩)
 simp only [Nat.zero_add] at ha
 rw [Ag]
 cases hq:es.toList with
 |nil=>
  have:aq= []:=by
   have:=EX.size
   apply List.eq_nil_of_length_eq_zero
   rw [← this]
   simpa using congrArg List.length hq
  subst this
  simp [Instr.findKey,run_underlying hu,Instr.findNow,cE]
 |cons e l=>
  have hf:Instr.findNow (.struct fs) (.agg (key.map (Value.int .i64)).toArray) (e::l) 0=none:=by
   simp [Instr.findNow,Instr.sameNow]
  rw [hq] at ha
  simp only [Instr.findKey,Sem.run_bind,run_underlying hu,Result.andThen_ok,hf]
  exact ha
theorem nQ {k:Int} :∀(aq:List (List Int × Int)) (es:List MapEntry) (i:Nat),es.length=aq.length→(∀p∈aq,p.1.length=1)→
 (∀(j:Nat) p,aq[j]? =some p→∃b,es[j]? =some ⟨.int .i64 (p.1.getD 0 0), .int .i64 p.2,b⟩)→
 Instr.findNow (.int .i64) (.int .i64 k) es i=some ((cE aq [k]).map fun j=>(i+j, .int .i64 ((aq[j]?.map (·.2)).getD 0)))
 | [],es,i,hl,_,_=>by
   have:es= []:=List.eq_nil_of_length_eq_zero hl
   subst this
   simp [Instr.findNow,cE]
 |p::aq, [],i,hl,_,_=>by simp at hl
 |p::aq,e::es,i,hl,hn,h=>by
  obtain ⟨b,hb⟩:=h 0 p rfl
  simp only [List.getElem?_cons_zero,Option.some.injEq] at hb
  subst hb
  have ih:=nQ (k:=k) aq es (i+1) (by simpa using hl) (fun q hq=>hn q (by simp [hq])) (fun j q hq=>by have:=h (j+1) q (by simpa using hq);simpa using this)
  obtain ⟨v,hv⟩:∃v,p.1= [v]:=by
   have:=hn p (by simp)
   match p.1,this with
   | [v],_=>exact ⟨v,rfl⟩
  by_cases hkp:k=v
  ·subst hkp
   simp [Instr.findNow,Instr.sameNow,hv,cE,List.findIdx?_cons]
  ·simp only [cE] at ih
   have Lj:(k==v)=false:=by simpa using hkp
   simp [Instr.findNow,Instr.sameNow,hv,hkp,Lj,cE,List.findIdx?_cons,ih]
   congr 1
   funext j
   simp only [Function.comp,List.getElem?_cons_succ,Prod.mk.injEq,and_true]
   omega
theorem Bg {P:Program} {kt:Nat} (hu:P.underlying kt=some (.int .i64)):Af P kt 0:=by
 have one:∀key:List Int,key.length=1→∃k,key= [k]:=fun key h=>by
  match key,h with
  | [k],_=>exact ⟨k,rfl⟩
 refine ⟨fun w em key hk=> ?_,fun w key aq es hk EX=> ?_,fun w key=> ?_⟩
 ·obtain ⟨k,rfl⟩:=one key hk
  rw [Ah]
  unfold Instr.checkKey
  simp [run_underlying hu]
 ·obtain ⟨k,rfl⟩:=one key hk
  have:=nQ (k:=k) aq es.toList 0 (by simpa using EX.size) EX.len (fun j p hp=>⟨j,by simpa [kV] using EX.F7 j p hp⟩)
  rw [Ah]
  simp only [Instr.findKey,Sem.run_bind,run_underlying hu,Result.andThen_ok,this,Sem.run_pure,Nat.zero_add]
 ·show (Instr.keyThatStays (.int .i64 (key.getD 0 0)) (.int .i64 (key.getD 0 0))).run P w=_
  simp [Instr.keyThatStays,Instr.sameBits]
  rfl
theorem l5 {C:Cfg} {P:Program} (hC:C.Ok P) {t n:Nat} (h:mpOk C t=some n):∃k e,P.underlying t=some (.map k e)∧Af P k n∧∀w,(zeroValue e).run P w= .ok (.int .i64 0) w:=by
 unfold mpOk at h
 split at h
 ·rename_i k e _ _ _ hT
  obtain ⟨h1,h3⟩:=(hC.T _ _ hT).2
  split at h
  ·rename_i hk
   cases h
   exact ⟨k,e,h1,Bg (hC.T _ _ hk).2,h3⟩
  ·rename_i hk
   obtain ⟨fs,h2,_⟩:=(hC.T _ _ hk).2
   split at h
   ·rename_i m hm
    cases h
    exact ⟨k,e,h1,vn (hC.yL _ _ hm) ⟨_,h2⟩,h3⟩
   ·cases h
  ·cases h
 ·cases h
theorem ji.Ge {n:Nat} {aq:List (List Int × Int)} {es:Array MapEntry} (h:ji n aq es) {key:List Int} (hk:key.length=kW n) (hf:cE aq key=none):
 ji n (dJ aq key) (es.push ⟨kV n key, .int .i64 0,es.size⟩):=by
 have e:dJ aq key=aq++ [(key,0)]:=by simp [dJ,hf]
 rw [e]
 refine ⟨by simp [h.size],fun p hp=> ?_, ?_,fun i p hp=> ?_⟩
 ·rcases List.mem_append.1 hp with hp|hp
  ·exact h.len p hp
  ·simp at hp;subst hp;exact hk
 ·rw [List.map_append,List.nodup_append]
  refine ⟨h.apart,by simp,fun x hx y hy hxy=> ?_⟩
  simp at hy
  subst hy;subst hxy
  obtain ⟨p,hp,hpx⟩:=List.mem_map.1 hx
  exact mX hf p hp hpx
 ·by_cases hi:i<aq.length
  ·rw [List.getElem?_append_left hi] at hp
   rw [Array.getElem?_push_lt (by rw [h.size];exact hi), ← h.F7 i p hp,Array.getElem?_eq_getElem]
  ·rw [List.getElem?_append_right (by omega)] at hp
   have:i=aq.length:=by
    have:=(List.getElem?_eq_some_iff.1 hp).1
    simp at this;omega
   subst this
   simp at hp;subst hp
   rw [← h.size];simp
theorem ji.put {n:Nat} {aq:List (List Int × Int)} {es:Array MapEntry} (h:ji n aq es) (i:Nat) (v:Int):ji n (nL aq i v) (es.modify i fun e=> {e with val:= .int .i64 v}):=by
 have hg:∀j,(nL aq i v)[j]? =if i=j then (aq[j]?).map (fun p=>(p.1,v)) else aq[j]? :=fun j=>by
  unfold nL;rw [List.getElem?_modify];split<;>simp
 have hm:(nL aq i v).map (·.1)=aq.map (·.1):=by
  apply List.ext_getElem?
  intro j
  rw [List.getElem?_map,List.getElem?_map,hg]
  split
  ·cases aq[j]? <;>rfl
  ·rfl
 refine ⟨by simp [nL,h.size],fun p hp=> ?_,by rw [hm];exact h.apart,fun j p hp=> ?_⟩
 ·have:p.1∈(nL aq i v).map (·.1):=List.mem_map_of_mem hp
  rw [hm] at this
  obtain ⟨q,hq,e⟩:=List.mem_map.1 this
  rw [← e];exact h.len q hq
 ·rw [hg] at hp
  rw [Array.getElem?_modify]
  split at hp
  ·rename_i hij;subst hij
   simp only [Option.map_eq_some_iff] at hp
   obtain ⟨q,hq,rfl⟩:=hp
   simp [h.F7 i q hq]
  ·rename_i hij
   simp [hij,h.F7 j p hp]
section
variable {X:Ctx} {o:Oper} {s:ASt} {K:LA→Prop}
theorem lg {w:World} {E:Env} {l n:Nat} {aq:List (List Int × Int)} (h:bu w E l (.mp n aq)) {v:Value} (hv:cn w E (.mref l) v):∃b es,v= .map (some b)∧E.ρ l=some b∧w.heap[b]? =some (.map es es.size)∧E.z b=0∧ji n aq es:=by
 obtain ⟨b,es,h1,h2,h3,h4⟩:=h
 obtain ⟨b',hb',rfl⟩:=hv
 rw [h1] at hb';cases hb'
 exact ⟨b,es,rfl,h1,h2,h3,h4⟩
theorem CY {w:World} {E:Env} {ks:List AV} {key:List Int} (h:intsOf ks=some key) {v:Value} (hv:cn w E (.agg ks) v):v= .agg (key.map (Value.int .i64)).toArray:=by
 obtain ⟨us,rfl,hu⟩:=hv
 rw [rC h hu]
theorem qE {w:World} {E:Env} {n:Nat} {a:AV} {key:List Int} (h:keyOf n a=some key) {v:Value} (hv:cn w E a v):v=kV n key:=by
 match n,a,h with
 |0, .d (.sc (.int .i64 k)),h=>cases h;exact bw hv
 |n+1, .agg ks,h=>exact CY h hv
theorem yW (hX:X.Ok) {t:Nat} (ho:o.op= .makeMap t none) (h:vcOp X X.C o s K):∃la,aG X o la∧Sat la s∧K la:=by
 simp only [vcOp,ho] at h
 split at h
 ·rename_i d n bI hm
  obtain ⟨hd,hK⟩:=h
  refine ⟨_,aG.mk bI.symm fun s' E a w hdn hs hE=> ?_,⟨by simp,by simp⟩,hK⟩
  refine ⟨.map (some w.heap.size),w.alloc (.map #[] 0),bV E d w.heap.size (E.σ d) 0,by simp [execOp,ho,show (Instr.makeMap t none).run X.P w= .ok (.map (some w.heap.size)) (w.alloc (.map #[] 0)) from rfl], ?_⟩
  rw [bI]
  refine hE.create hX hd (kill:= [(d,none)]) (by simp [kl]) (fun l hl=>by have:=kY d l hl;unfold dlow at hd;omega) (by simp) (fun b hb=>heap_alloc_old w _ hb) rfl rfl rfl
   (fun l x hl=>absurd hl (cV d l x)) ?_ ⟨w.heap.size,by simp [bV],rfl⟩ (fun k hk=>hdn k (by rw [bI];exact hk))
  exact ⟨w.heap.size, #[],by simp [bV],by rw [heap_alloc_new];rfl,by simp [bV],⟨rfl,by simp,by simp,by simp⟩⟩
 ·exact h.elim
theorem kH {P:Program} (w:World) {t k e n:Nat} (ht:P.underlying t=some (.map k e)) (he:Af P k n) (hz:∀w,(zeroValue e).run P w= .ok (.int .i64 0) w)
 {b:Nat} {es:Array MapEntry} {aq:List (List Int × Int)} (hb:w.heap[b]? =some (.map es es.size)) (hm:ji n aq es) {key:List Int} (hk:key.length=kW n) (ok:Bool):
 (Instr.lookup t (.map (some b)) (kV n key) ok).run P w= .ok (if ok then .tuple #[.int .i64 (jV aq key), .bool (cE aq key).isSome] else .int .i64 (jV aq key)) w:=by
 have h1:=fun em=>he.qx w em key hk
 have h2:=he.find w key aq es hk hm
 simp only [Instr.lookup,Sem.run_bind,run_underlying ht,Result.andThen_ok,MapKept.run_getObj_map hb,Sem.run_pure,h1,h2]
 unfold jV
 cases hf:cE aq key with
 |none=>cases ok<;>simp [hz]
 |some i=>cases ok<;>simp
theorem Bh (hX:X.Ok) {t:Nat} {x i:Operand} (ho:o.op= .lookup t x i false) (h:vcOp X X.C o s K):∃la,aG X o la∧Sat la s∧K la:=by
 simp only [vcOp,ho] at h
 split at h
 ·rename_i n' l hmp hx
  split at h
  ·rename_i n aq key hl hks
   obtain ⟨⟨rfl,cq⟩,hK⟩:=h
   obtain ⟨k,e,g1,g2,g4⟩:=l5 hX.C hmp
   refine ⟨_,aG.val fun s' E a w hs hE=>⟨.int .i64 (jV aq key), ?_,cr _ rfl⟩,⟨aA s _,by simp [hl]⟩,hK⟩
   have ex:=hE.evs hs.1 X.C 0 (x:=x) (by simp)
   have ei:=hE.evs hs.1 X.C 0 (x:=i) (by simp)
   rw [hx] at ex
   obtain ⟨b,es,q1,q2,q3,q4,q5⟩:=lg (hE.good.obj l _ (hs.2 (l, .mp n aq) (by simp))) ex
   have hr:=kH w g1 g2 g4 q3 q5 cq false
   simp only [execOp,ho,q1,qE hks ei,Sem.run_bind,hr,Result.andThen_ok,Sem.run_pure]
   rfl
  ·exact h.elim
 ·exact h.elim
theorem yX (hX:X.Ok) {t:Nat} {x i:Operand} (ho:o.op= .lookup t x i true) (h:vcOp X X.C o s K):∃la,aG X o la∧Sat la s∧K la:=by
 simp only [vcOp,ho] at h
 split at h
 ·rename_i n' l hmp hx
  split at h
  ·rename_i n aq key hl hks
   obtain ⟨⟨rfl,cq⟩,hK⟩:=h
   obtain ⟨k,e,g1,g2,g4⟩:=l5 hX.C hmp
   refine ⟨_,aG.val fun s' E a w hs hE=>⟨.tuple #[.int .i64 (jV aq key), .bool (cE aq key).isSome], ?_, ?_⟩,⟨aA s _,by simp [hl]⟩,hK⟩
   rotate_left
   ·exact ⟨_,rfl,_,_,rfl,cr _ rfl,_,_,rfl, .sc _ rfl,rfl⟩
   have ex:=hE.evs hs.1 X.C 0 (x:=x) (by simp)
   have ei:=hE.evs hs.1 X.C 0 (x:=i) (by simp)
   rw [hx] at ex
   obtain ⟨b,es,q1,q2,q3,q4,q5⟩:=lg (hE.good.obj l _ (hs.2 (l, .mp n aq) (by simp))) ex
   have hr:=kH w g1 g2 g4 q3 q5 cq true
   simp only [execOp,ho,q1,qE hks ei,Sem.run_bind,hr,Result.andThen_ok,Sem.run_pure]
   rfl
  ·exact h.elim
 ·exact h.elim
theorem vo (hX:X.Ok) {t:Nat} {x i y:Operand} (ho:o.op= .mapUpdate t x i y) (h:vcOp X X.C o s K):∃la,aG X o la∧Sat la s∧K la:=by
 simp only [vcOp,ho] at h
 split at h
 ·rename_i n' l v hmp hx hy
  split at h
  ·rename_i n aq key hl hks
   obtain ⟨⟨rfl,cq⟩,hK⟩:=h
   obtain ⟨k,e,g1,g2,g4⟩:=l5 hX.C hmp
   refine ⟨_,aG.skip rfl fun s' E a w hdn hs hE=> ?_,⟨aA s _,by simp [hl]⟩,hK⟩
   have ex:=hE.evs hs.1 X.C 0 (x:=x) (by simp)
   have ei:=hE.evs hs.1 X.C 0 (x:=i) (by simp)
   have ey:=hE.evs hs.1 X.C 0 (x:=y) (by simp)
   rw [hx] at ex;rw [hy] at ey
   have hl':=hs.2 (l, .mp n aq) (by simp)
   obtain ⟨b,es,q1,q2,q3,q4,q5⟩:=lg (hE.good.obj l _ hl') ex
   have h1:=fun em=>g2.qx w em key cq
   have h2:=g2.find w key aq es cq q5
   have fin:∀es':Array MapEntry,(Instr.mapUpdate t (.map (some b)) (kV n key) (.int .i64 v)).run X.P w= .ok () {w with heap:=w.heap.setIfInBounds b (.map es' es'.size)} →ji n (yM aq key v) es'→
    ∃w' E',(execOp a.eval o).run X.P w= .ok .skip w'∧bG X E' ((⟨rsOf s [x,i,y], [(l, .mp n aq)], [], [(l, .mp n (yM aq key v))],o.dst, .fZ⟩:LA).app s') (a.put o.dst undef) w':=by
    intro es' hrun Kt
    have eL:=MapKept.heap_set (o':= .map es' es'.size) q3
    refine ⟨{w with heap:=w.heap.setIfInBounds b (.map es' es'.size)},E,by simp only [execOp,ho,q1,qE hks ei,bw ey,Sem.run_bind,hrun,Result.andThen_ok,Sem.run_pure], ?_⟩
    exact hE.write hl' rfl q2 q4 (by simp) (fun k hk=>eL.2 k hk) rfl rfl rfl ⟨b,es',q2,eL.1,q4,Kt⟩ trivial hdn
   cases hf:cE aq key with
   |none=>
    have tP:=(q5.Ge cq hf).put aq.length v
    have e1:yM aq key v=nL (dJ aq key) aq.length v:=by unfold yM ij;rw [hf]
    rw [← e1] at tP
    have e2:((es.push ⟨kV n key, .int .i64 0,es.size⟩).modify aq.length fun e=> {e with val:= .int .i64 v})=es.push ⟨kV n key, .int .i64 v,es.size⟩:=by
     apply Array.ext_getElem?
     intro q
     rw [Array.getElem?_modify]
     split
     ·rename_i hq;subst hq
      rw [← q5.size];simp
     ·rename_i hq
      rw [Array.getElem?_push,Array.getElem?_push,q5.size]
      rw [if_neg (by omega),if_neg (by omega)]
    rw [e2] at tP
    refine fin _ ?_ tP
    simp only [hf,Option.map_none] at h2
    simp only [Instr.mapUpdate,Sem.run_bind,run_underlying g1,Result.andThen_ok,MapKept.run_getObj_map q3,h1,h2,MapKept.run_setObj_map _ q3,Array.size_push]
   |some j=>
    obtain ⟨p,hp,hpk⟩:=ir hf
    have IM:=q5.F7 j p hp
    have tP:=q5.put j v
    have e1:yM aq key v=nL aq j v:=by unfold yM ij dJ;rw [hf]
    rw [← e1] at tP
    have e2:(es.modify j fun e=> {e with key:=kV n key,val:= .int .i64 v})=es.modify j fun e=> {e with val:= .int .i64 v} :=by
     apply Array.ext_getElem?
     intro q
     rw [Array.getElem?_modify,Array.getElem?_modify]
     split
     ·rename_i hjq;subst hjq
      rw [IM, ← hpk];rfl
     ·rfl
    rw [← e2] at tP
    refine fin _ ?_ tP
    simp only [hf,Option.map_some] at h2
    have hst:=g2.stay w key
    simp only [Instr.mapUpdate,Sem.run_bind,run_underlying g1,Result.andThen_ok,MapKept.run_getObj_map q3,h1,h2,IM,Option.map_some,Option.getD_some,hpk,hst,MapKept.run_setObj_map _ q3,Array.size_modify]
  ·exact h.elim
 ·exact h.elim
theorem w8 (hX:X.Ok) {t:Nat} {x i:Operand} (ho:o.op= .mapEntry t x i) (h:vcOp X X.C o s K):∃la,aG X o la∧Sat la s∧K la:=by
 simp only [vcOp,ho] at h
 split at h
 ·rename_i n' l hmp hx
  split at h
  ·rename_i n aq key hl hks
   obtain ⟨⟨rfl,cq⟩,hK⟩:=h
   obtain ⟨k,e,g1,g2,g4⟩:=l5 hX.C hmp
   refine ⟨_,aG.mk rfl fun s' E a w hdn hs hE=> ?_,⟨aA s _,by simp [hl]⟩,hK⟩
   have ex:=hE.evs hs.1 X.C 0 (x:=x) (by simp)
   have ei:=hE.evs hs.1 X.C 0 (x:=i) (by simp)
   rw [hx] at ex
   have hl':=hs.2 (l, .mp n aq) (by simp)
   obtain ⟨b,es,q1,q2,q3,q4,q5⟩:=lg (hE.good.obj l _ hl') ex
   have h1:=fun em=>g2.qx w em key cq
   have h2:=g2.find w key aq es cq q5
   have fin:∀(es':Array MapEntry) (v':Value),(Instr.mapEntry t (.map (some b)) (kV n key)).run X.P w= .ok v' {w with heap:=w.heap.setIfInBounds b (.map es' es'.size)} →ji n (dJ aq key) es'→
    v'= .tuple #[.int .i64 (jV aq key), .int .i64 (ij aq key:Nat)]→∃v' w' E',(execOp a.eval o).run X.P w= .ok (.value v') w'∧
    bG X E' ((⟨rsOf s [x,i], [(l, .mp n aq)], [], [(l, .mp n (dJ aq key))],o.dst, .tup [.d (.sc (.int .i64 (jV aq key))), .d (.sc (.int .i64 (ij aq key:Nat)))]⟩:LA).app s') (a.put o.dst v') w':=by
    intro es' v' hrun Kt IG
    refine ⟨v', {w with heap:=w.heap.setIfInBounds b (.map es' es'.size)},E,by simp only [execOp,ho,q1,qE hks ei,Sem.run_bind,hrun,Result.andThen_ok,Sem.run_pure], ?_⟩
    have eL:=MapKept.heap_set (o':= .map es' es'.size) q3
    refine hE.write hl' rfl q2 q4 (by simp) (fun k hk=>eL.2 k hk) rfl rfl rfl ⟨b,es',q2,eL.1,q4,Kt⟩ ?_ hdn
    rw [IG]
    exact ⟨_,rfl,_,_,rfl,cr _ rfl,_,_,rfl,cr _ rfl,rfl⟩
   cases hf:cE aq key with
   |none=>
    refine fin _ (.tuple #[.int .i64 0, .int .i64 (aq.length:Nat)]) ?_ (q5.Ge cq hf) ?_
    rotate_left
    ·simp only [jV,ij,hf]
    ·simp only [hf,Option.map_none] at h2
     simp only [Instr.mapEntry,Sem.run_bind,run_underlying g1,Result.andThen_ok,MapKept.run_getObj_map q3,h1,h2,g4,MapKept.run_setObj_map _ q3,Sem.run_pure,goInt,q5.size,Array.size_push]
   |some j=>
    obtain ⟨p,hp,hpk⟩:=ir hf
    have IM:=q5.F7 j p hp
    refine fin (es.modify j fun e=> {e with key:=kV n key}) (.tuple #[.int .i64 ((aq[j]?.map (·.2)).getD 0), .int .i64 (j:Nat)]) ?_ ?_ ?_
    ·simp only [hf,Option.map_some] at h2
     have hst:=g2.stay w key
     simp only [Instr.mapEntry,Sem.run_bind,run_underlying g1,Result.andThen_ok,MapKept.run_getObj_map q3,h1,h2,IM,Option.map_some,Option.getD_some,hpk,hst,MapKept.run_setObj_map _ q3,Sem.run_pure,goInt,Array.size_modify]
    ·have e1:dJ aq key=aq:=by simp [dJ,hf]
     rw [e1]
     have:(es.modify j fun e=> {e with key:=kV n key})=es:=by
      apply Array.ext_getElem?
      intro q
      rw [Array.getElem?_modify]
      split
      ·rename_i hjq;subst hjq
       rw [IM, ← hpk];rfl
      ·rfl
     rw [this];exact q5
    ·simp only [jV,ij,hf]
  ·exact h.elim
 ·exact h.elim
theorem vp {n:Nat} {aq:List (List Int × Int)} {es:Array MapEntry} (h:ji n aq es) {i:Nat} (hi:i<aq.length):es.findIdx? (fun e=>(e.born:Int)==(i:Int))=some i:=by
 rw [Array.findIdx?_eq_some_iff_getElem]
 have IN:∀j (hj:j<es.size),es[j].born=j:=by
  intro j hj
  have:=h.F7 j _ (List.getElem?_eq_getElem (by rw [← h.size];exact hj))
  rw [Array.getElem?_eq_getElem hj] at this
  simp only [Option.some.injEq] at this
  rw [this]
 refine ⟨by rw [h.size];exact hi, ?_,fun j hj=> ?_⟩
 ·rw [IN i (by rw [h.size];exact hi)];simp
 ·rw [IN j (by rw [h.size];omega)]
  have:¬((j:Int)==(i:Int))=true:=by simp;omega
  exact this
theorem tQ {t:Nat} {x st y:Operand} (ho:o.op= .entryStore t x st y) (h:vcOp X X.C o s K):∃la,aG X o la∧Sat la s∧K la:=by
 simp only [vcOp,ho] at h
 split at h
 ·rename_i l i v hx hst hy
  split at h
  ·rename_i n aq hl
   obtain ⟨⟨h0,hlt⟩,hK⟩:=h
   refine ⟨_,aG.skip rfl fun s' E a w hdn hs hE=> ?_,⟨aA s _,by simp [hl]⟩,hK⟩
   have ex:=hE.evs hs.1 X.C 0 (x:=x) (by simp)
   have es':=hE.evs hs.1 X.C 0 (x:=st) (by simp)
   have ey:=hE.evs hs.1 X.C 0 (x:=y) (by simp)
   rw [hx] at ex;rw [hst] at es';rw [hy] at ey
   have hl':=hs.2 (l, .mp n aq) (by simp)
   obtain ⟨b,es,q1,q2,q3,q4,q5⟩:=lg (hE.good.obj l _ hl') ex
   have hf:=vp q5 (i:=i.toNat) (by omega)
   rw [Int.toNat_of_nonneg h0] at hf
   have eL:=MapKept.heap_set (o':= .map (es.modify i.toNat fun e=> {e with val:= .int .i64 v}) es.size) q3
   refine ⟨{w with heap:=w.heap.setIfInBounds b (.map (es.modify i.toNat fun e=> {e with val:= .int .i64 v}) es.size)},E, ?_, ?_⟩
   ·simp only [execOp,ho,q1,bw es',bw ey,Sem.run_bind,Instr.entryStore,MapKept.run_getObj_map q3,Result.andThen_ok,asInt,asIntOf,Sem.run_pure,hf,MapKept.run_setObj_map _ q3]
   ·refine hE.write hl' rfl q2 q4 (by simp) (fun k hk=>eL.2 k hk) rfl rfl rfl ⟨b,_,q2, ?_,q4,q5.put i.toNat v⟩ trivial hdn
    simp only [eL.1,Array.size_modify]
  ·exact h.elim
 ·exact h.elim
end
end Go.Ab
end
section
namespace Go.Ab
theorem iu {X:Ctx} (hX:X.Ok) {o:Oper} {s:ASt} {K:LA→Prop} (h:vcOp X X.C o s K):∃la,aG X o la∧Sat la s∧K la:=by
 cases ho:o.op
 case move x=>exact zY (.inl ho) h
 case assign x=>exact zY (.inr ho) h
 case pick c x y=>exact E7 ho h
 case alloc e=>exact CN hX ho h
 case box e x=>exact GL hX ho h
 case build t ps=>exact CG hX ho h
 case buildSlice t n ps=>exact tO hX ho h
 case load t x=>exact Fa hX ho h
 case store t x y=>exact CQ hX ho h
 case nilCheck x=>exact wU ho h
 case unOp op t x=>exact Fe ho h
 case convert t t' x=>exact yQ hX ho h
 case fieldAddr st x f=>exact vf hX ho h
 case indexAddr t x i=>exact vg hX ho h
 case field st x f=>exact CK hX ho h
 case index t x i=>exact CL hX ho h
 case makeSlice t x y=>exact vj hX ho h
 case slice t x lo hi mx=>exact CX hX ho h
 case extract x i=>exact yP ho h
 case makeMap t r=>
  cases r with
  |none=>exact yW hX ho h
  |some r=>simp only [vcOp,ho] at h
 case lookup t x i c=>
  cases c with
  |false=>exact Bh hX ho h
  |true=>exact yX hX ho h
 case mapUpdate t x i y=>exact vo hX ho h
 case mapEntry t x i=>exact w8 hX ho h
 case entryStore t x st y=>exact tQ ho h
 case makeFunc fn first captured=>
  cases fn with
  |func f=>exact wV ho h
  |_=>simp only [vcOp,ho] at h
 case binOp op xt x y yt=>
  have h0:=h
  simp only [vcOp,ho] at h
  split at h
  ·rename_i p q hp hq
   exact GG ho hp hq h
  ·rename_i p q hp hq
   exact K0 ho hp hq h
  ·rename_i p q hp hq
   exact Ir ho hp hq h
  ·split at h
   ·exact F8 (.inl ⟨rfl,rfl⟩) hX ho h
   ·exact F8 (.inr ⟨rfl,rfl⟩) hX ho h
   ·exact h.elim
 case call c=>
  simp only [vcOp,ho] at h
  split at h
  ·rename_i b hc
   have h0:=h
   unfold vcBuiltin at h
   split at h
   ·rename_i x t ha ht
    rw [ha,ht] at h0
    exact GJ hX ho hc ha ht h0
   ·rename_i x t ha ht
    rw [ha,ht] at h0
    exact GK hX ho hc ha ht h0
   ·rename_i x y t t' ha ht
    rw [ha,ht] at h0
    exact Be hX ho hc ha ht h0
   ·rename_i x y ts ha
    rw [ha] at h0
    exact uf (.inl rfl) ho hc ha h0
   ·rename_i x y ts ha
    rw [ha] at h0
    exact uf (.inr rfl) ho hc ha h0
   ·exact h.elim
  ·exact h.run
  ·exact h.elim
 all_goals (simp only [vcOp,ho] at h)
def gslot (l:List Oper) (j:Nat):Option Nat:=match l[j]? with|some o=>o.dst|none=>none
def cS (X:Ctx) (C:Cfg) (l:List Oper):List Oper→ASt→(ASt→Prop)→Prop
 | [],s,K=>K s
 |o::rest,s,K=>match o.guard with
  |none=>vcOp X C o s fun la=>cS X C l rest (la.app s) K
  |some (j,want)=>match gslot l j with
   |none=>False
   |some g=>match get s.t g with
    | .d (.sc (.bool b))=>
      (b=want→vcOp X C o (s.put (some g) (.d (.sc (.bool want)))) fun la=>cS X C l rest (la.app (s.put (some g) (.d (.sc (.bool want))))) K)∧
      (b=(!want)→cS X C l rest ((s.put (some g) (.d (.sc (.bool (!want))))).put o.dst (.tup [])) K)
    | .tup []=>cS X C l rest (s.put o.dst (.tup [])) K
    |_=>False
theorem Oper.rD {P:Program} {o:Oper} {a:Act} {w:World} {K K':Act→World→Prop} {Q:Exit→Act→World→Prop} (h:∀a w,K a w→K' a w) (hh:o.wp P a w K Iq):o.wp P a w K' Q:=by
 unfold Oper.wp at*
 generalize (execOp a.eval o).run P w=r at*
 cases r with
 |ok n w'=>
  cases n<;>simp only [Oper.upon] at hh ⊢ <;>
   first
    |exact h _ _ hh
    |exact Calls.mono hh (fun e w'' he=>by
      cases e
      ·exact h _ _ he
      ·exact he.elim
      ·obtain ⟨a0,w0,h0⟩:=he;exact h0.elim)
    |exact Rows.mono hh (fun _ _ he=>h _ _ he)
 |halt x w'=>cases x<;>simp only [Oper.upon,Iq] at hh
theorem bG.put {X:Ctx} {E:Env} {s:ASt} {a:Act} {w:World} (h:bG X E s a w) {g:Nat} {v:AV} (hv:cn w E v (a.tmps.getD g undef)):bG X E (s.put (some g) v) a w:=
 ⟨h.defers,h.size,h.good,h.kL,h.mine,fun k=>by
   simp only [ASt.put,get]
   split
   ·rename_i hk;subst hk;exact hv
   ·exact h.slot k⟩
theorem bG.fZ {X:Ctx} {E:Env} {s:ASt} {a:Act} {w:World} (h:bG X E s a w) (dst:Option Nat) (u:Value):bG X E (s.put dst .fZ) (a.put dst u) w:=by
 cases dst with
 |none=>exact h
 |some d=>
  refine ⟨h.defers,by simp [Act.put,h.size],h.good,h.kL,h.mine,fun k=> ?_⟩
  simp only [ASt.put,get,Act.put]
  split
  ·trivial
  ·rename_i hk
   have:(a.tmps.setIfInBounds d u).getD k undef=a.tmps.getD k undef:=by
    simp only [Array.getD_eq_getD_getElem?,Array.getElem?_setIfInBounds_ne hk]
   rw [this];exact h.slot k
theorem bG.Ku {X:Ctx} {E:Env} {s:ASt} {a:Act} {w:World} (h:bG X E s a w) (dst:Option Nat):bG X E (s.put dst (.tup [])) (a.put dst undef) w:=by
 cases dst with
 |none=>exact h
 |some d=>
  refine ⟨h.defers,by simp [Act.put,h.size],h.good,h.kL,h.mine,fun k=> ?_⟩
  simp only [ASt.put,get,Act.put]
  split
  ·rename_i hk
   subst hk
   have:(a.tmps.setIfInBounds d undef).getD d undef=undef:=by
    simp only [Array.getD_eq_getD_getElem?,Array.getElem?_setIfInBounds]
    split
    ·split<;>rfl
    ·rename_i hne;exact absurd trivial hne
   rw [this]
   exact ⟨[],rfl,rfl⟩
  ·rename_i hk
   have:(a.tmps.setIfInBounds d undef).getD k undef=a.tmps.getD k undef:=by
    simp only [Array.getD_eq_getD_getElem?,Array.getElem?_setIfInBounds_ne hk]
   rw [this];exact h.slot k
theorem qf {X:Ctx} {E:Env} {s:ASt} {a:Act} {w:World} (h:bG X E s a w) {l:List Oper} {j g:Nat} (hg:gslot l j=some g) (hb:get s.t g= .tup []):
 yielded l.toArray a.tmps j=none:=by
 have hv:=h.slot g
 rw [hb] at hv
 obtain ⟨us,hv,h2⟩:=hv
 have h2:us= []:=h2
 subst h2
 unfold gslot at hg
 split at hg
 ·rename_i o ho
  unfold yielded
  have hq:a.tmps[g]? =none∨a.tmps[g]? =some (.tuple #[]):=by
   rw [Array.getD_eq_getD_getElem?] at hv
   cases hq:a.tmps[g]? with
   |none=>exact .inl rfl
   |some v=>rw [hq] at hv;simp at hv;rw [hv];exact .inr rfl
  rcases hq with hq|hq<;>simp [ho,hg,hq]
 ·cases hg
theorem rH {X:Ctx} {E:Env} {s:ASt} {a:Act} {w:World} (h:bG X E s a w) {l:List Oper} {j g:Nat} {b:Bool} (hg:gslot l j=some g) (hb:get s.t g= .d (.sc (.bool b))):
 yielded l.toArray a.tmps j=some b∧a.tmps.getD g undef= .bool b:=by
 have hv:=h.slot g
 rw [hb] at hv
 have hv:=dm hv
 refine ⟨?_,hv⟩
 unfold gslot at hg
 split at hg
 ·rename_i o ho
  unfold yielded
  have:a.tmps[g]? =some (.bool b):=by
   rw [Array.getD_eq_getD_getElem?] at hv
   cases hq:a.tmps[g]? with
   |none=>rw [hq] at hv;simp [undef] at hv
   |some v=>rw [hq] at hv;simp at hv;rw [hv]
  simp [ho,hg,this]
 ·cases hg
theorem qg {X:Ctx} (hX:X.Ok) {l:List Oper} {Q:Exit→Act→World→Prop} {K:ASt→Prop} (hK:∀s a w,K s→Rel X s a w→Q .normal a w):
 ∀(r:List Oper) (s:ASt),(∀o∈r,∀d,o.dst=some d→d<X.n)→cS X X.C l r s K→∀a w,Rel X s a w→wpList X.P l.toArray Q r a w
 | [],s,_,h,a,w,hr=>hK s a w h hr
 |o::r,s,hd,h,a,w,hr=>by
  have ih:=qg hX (l:=l) hK r
  have hd':∀o∈r,∀d,o.dst=some d→d<X.n:=fun o ho=>hd o (by simp [ho])
  have run:∀s,Rel X s a w→(vcOp X X.C o s fun la=>cS X X.C l r (la.app s) K)→o.wp X.P a w (wpList X.P l.toArray Q r) Q:=by
   intro s hr h
   obtain ⟨la,⟨_,h1⟩,h2,h3⟩:=iu hX h
   exact Oper.rD (fun a' w' hr'=>ih (la.app s) hd' h3 a' w' hr') (h1 s a w (hd o (by simp)) h2 hr)
  unfold wpList
  unfold cS at h
  cases hgd:o.guard with
  |none=>
   simp only [hgd] at h
   rw [if_pos (by simp [Region.wanted,hgd])]
   exact .inl (run s hr h)
  |some p=>
   obtain ⟨j,want⟩:=p
   simp only [hgd] at h
   split at h
   ·exact h.elim
   ·rename_i g hg
    split at h
    ·rename_i b hb
     obtain ⟨E,hE⟩:=hr
     obtain ⟨hy,hv⟩:=rH hE hg hb
     by_cases IP:b=want
     ·subst IP
      rw [if_pos (by simp [Region.wanted,hgd,hy])]
      exact .inl (run _ ⟨E,hE.put (by rw [hv];exact cr _ rfl)⟩ (h.1 rfl))
     ·have Ia:b= !want:=by cases b<;>cases want<;>simp_all
      rw [if_neg (by simp [Region.wanted,hgd,hy,IP])]
      exact ih _ hd' (h.2 Ia) _ _ ⟨E,(hE.put (by rw [hv,Ia];exact cr _ rfl)).Ku o.dst⟩
    ·rename_i hb
     obtain ⟨E,hE⟩:=hr
     have hy:=qf hE hg hb
     rw [if_neg (by simp [Region.wanted,hgd,hy])]
     exact ih _ hd' h _ _ ⟨E,hE.Ku o.dst⟩
    ·exact h.elim
def Kv (n:Nat):List Oper→Bool
 | []=>true
 |o::r=>(match o.dst with|some d=>decide (d<n)|none=>true)&&Kv n r
theorem nR {n:Nat} :∀ {l:List Oper},Kv n l=true→∀o∈l,∀d,o.dst=some d→d<n
 | [],_,o,ho,_,_=>by cases ho
 |q::r,h,o,ho,d,hd=>by
  simp only [Kv,Bool.and_eq_true] at h
  rcases List.mem_cons.1 ho with rfl|ho
  ·have:=h.1;rw [hd] at this;simpa using this
  ·exact nR h.2 o ho d hd
def wO (n:Nat):Code→Bool
 | .region _ ops _=>Kv n ops.toList
 | .seq x y=>wO n x&&wO n y
 | .cond _ x y=>wO n x&&wO n y
 | .block _ x=>wO n x
 | .loop x=>wO n x
 | .skip=>true
 | .exit _=>true
 | .ret=>true
 |_=>false
def lift (X:Ctx) (Q:Exit→ASt→Prop):Exit→Act→World→Prop:=fun e a w=>∃s,Q e s∧Rel X s a w
structure cG (X:Ctx) (c:Code) (Q:Exit→ASt→Prop) (s:ASt):Prop where
 run:wO X.n c=true→∀a w,Rel X s a w→c.wp X.P (lift X Q) a w
def athen (K:ASt→Prop) (Q:Exit→ASt→Prop):Exit→ASt→Prop
 | .normal,s=>K s
 |e,s=>Q e s
def ablock (id:Nat) (Q:Exit→ASt→Prop):Exit→ASt→Prop
 | .exit id',s=>if id'=id then Q .normal s else Q (.exit id') s
 |e,s=>Q e s
section
variable {X:Ctx} {Q:Exit→ASt→Prop} {s:ASt}
theorem rJ (hX:X.Ok) {id:Nat} {l:List Oper} (h:cS X X.C l l s (fun s'=>Q .normal s')):cG X (.region id l.toArray false) Q s:=by
 refine ⟨fun hc a w hr=> ?_⟩
 refine wp_region_list ?_
 exact qg hX (K:=fun s'=>Q .normal s') (Q:=lift X Q) (fun s a w hs hr=>⟨s,hs,hr⟩) l s (nR (by simpa [wO] using hc)) h a w hr
theorem CZ {c:Code} {Q':Exit→ASt→Prop} (h:cG X c Q s) (hq:∀e s,Q e s→Q' e s):cG X c Q' s:=
 ⟨fun hc a w hr=>wp_mono (h.run hc a w hr) fun e a w ⟨s,h1,h2⟩=>⟨s,hq e s h1,h2⟩⟩
theorem wG {x y:Code} (h:cG X x (athen (fun s'=>cG X y Q s') Q) s):cG X (.seq x y) Q s:=by
 refine ⟨fun hc a w hr=> ?_⟩
 simp only [wO,Bool.and_eq_true] at hc
 refine wp_seq (wp_mono (h.run hc.1 a w hr) ?_)
 rintro e a w ⟨s,h1,h2⟩
 cases e<;>first|exact h1.run hc.2 a w h2|exact ⟨s,h1,h2⟩
theorem wI (h:Q .normal s):cG X .skip Q s:=⟨fun _ a w hr=>wp_skip ⟨s,h,hr⟩⟩
theorem wJ {id:Nat} (h:Q (.exit id) s):cG X (.exit id) Q s:=⟨fun _ a w hr=>wp_exit ⟨s,h,hr⟩⟩
theorem wK (h:Q .ret s):cG X .ret Q s:=⟨fun _ a w hr=>wp_ret ⟨s,h,hr⟩⟩
theorem wM {c:Nat} {x y:Code} {b:Bool} (hc:get s.t c= .d (.sc (.bool b))) (h1:b=true→cG X x Q s) (h2:b=false→cG X y Q s):cG X (.cond (.tmp c) x y) Q s:=by
 refine ⟨fun hk a w ⟨E,hE⟩=> ?_⟩
 simp only [wO,Bool.and_eq_true] at hk
 have hv:=hE.slot c
 rw [hc] at hv
 have hv:=dm hv
 cases b with
 |true=>exact wp_cond_true (by simpa [Act.eval] using hv) ((h1 rfl).run hk.1 a w ⟨E,hE⟩)
 |false=>exact wp_cond_false (by simpa [Act.eval] using hv) ((h2 rfl).run hk.2 a w ⟨E,hE⟩)
theorem wL {c:Nat} {x y:Code} {p:Prop} (hc:get s.t c= .gq p) (h1:p→cG X x Q s) (h2:cG X y Q s):cG X (.cond (.tmp c) x y) Q s:=by
 refine ⟨fun hk a w ⟨E,hE⟩=> ?_⟩
 simp only [wO,Bool.and_eq_true] at hk
 have hv:=hE.slot c
 rw [hc] at hv
 obtain ⟨b,hv,hp⟩:=hv
 cases b with
 |true=>exact wp_cond_true (by simpa [Act.eval] using hv) ((h1 (hp rfl)).run hk.1 a w ⟨E,hE⟩)
 |false=>exact wp_cond_false (by simpa [Act.eval] using hv) (h2.run hk.2 a w ⟨E,hE⟩)
theorem wH {id:Nat} {x:Code} (h:cG X x (ablock id Q) s):cG X (.block id x) Q s:=by
 refine ⟨fun hk a w hr=> ?_⟩
 refine wp_block (wp_mono (h.run hk a w hr) ?_)
 rintro e a w ⟨s,h1,h2⟩
 cases e with
 |exit id'=>
  simp only [Exit.inBlock,ablock] at h1 ⊢
  split
  ·rename_i hid;simp only [hid,if_true] at h1;exact ⟨s,h1,h2⟩
  ·rename_i hid;simp only [hid,if_false] at h1;exact ⟨s,h1,h2⟩
 |_=>exact ⟨s,h1,h2⟩
structure Le (s s':ASt):Prop where
 t:∀k,get s'.t k= .fZ∨get s.t k=get s'.t k
 m:∀l o,look s'.m l=some o→look s.m l=some o
theorem Le.bH {s s':ASt} (h:Le s s') {l:Nat} {o:AObj} (hl:bH s'.m l=some o):bH s.m l=some o:=by
 unfold Ab.bH at hl ⊢
 split at hl
 ·exact h.m l o hl
 ·rename_i b i _
  cases hq:look s'.m b with
  |none=>rw [hq] at hl;simp [inner] at hl
  |some q=>rw [h.m b q hq];rw [hq] at hl;exact hl
theorem Rel.le {s s':ASt} (h:Le s s') {a:Act} {w:World} (hr:Rel X s a w):Rel X s' a w:=by
 obtain ⟨E,hE⟩:=hr
 refine ⟨E,hE.defers,hE.size,⟨fun l hl=> ?_,fun l l' b hl hl'=> ?_,fun l o hl=>hE.good.iS l o (h.bH hl),hE.good.fresh⟩,hE.kL,fun l o b hl=>hE.mine l o b (h.bH hl),fun k=> ?_⟩
 ·obtain ⟨o,ho⟩:=Option.ne_none_iff_exists'.1 hl
  exact hE.good.low l (by simp [h.m l o ho])
 ·obtain ⟨o,ho⟩:=Option.ne_none_iff_exists'.1 hl
  obtain ⟨o',ho'⟩:=Option.ne_none_iff_exists'.1 hl'
  exact hE.good.inj l l' b (by simp [h.bH ho]) (by simp [h.bH ho'])
 ·rcases h.t k with hk|hk
  ·rw [hk];trivial
  ·rw [← hk];exact hE.slot k
theorem C0 {x:Code} {ι:Type} (I:ι→ASt) (μ:ι→Nat) (i0:ι) (h0:Le s (I i0)) (h:∀i,cG X x (athen (fun s'=>∃j,Le s' (I j)∧μ j<μ i) Q) (I i)):cG X (.loop x) Q s:=by
 refine ⟨fun hk a w hr=> ?_⟩
 simp only [wO] at hk
 intro b k cs
 have key:∀(n:Nat) (i:ι) (a:Act) (w:World),μ i=n→Rel X (I i) a w→
  ∃e a' w',lift X Q e a' w'∧Arrives X.P (lone (b.at a (.code x:: .inLoop x::k)) cs w) b k cs e a' w':=by
  intro n
  induction n using Nat.strongRecOn with
  |_ n ih=>
   intro i a w hn hI
   obtain ⟨e,a₁,w₁,⟨s1,hq,lX⟩,w9⟩:=(h i).run hk a w hI b (.inLoop x::k) cs
   cases e with
   |normal=>
    obtain ⟨j,hj,hlt⟩:=hq
    obtain ⟨e₂,a₂,w₂,Om,IQ⟩:=ih (μ j) (hn ▸ hlt) j a₁ w₁ rfl (lX.le hj)
    exact ⟨e₂,a₂,w₂,Om, .of_steps (Steps.trans w9 (.one step_inLoop)) IQ⟩
   |exit id=>exact ⟨_,a₁,w₁,⟨s1,hq,lX⟩, .pass (x:= .inLoop x) rfl (fun _ _=> .inl (by simp)) w9⟩
   |goto l=>exact ⟨_,a₁,w₁,⟨s1,hq,lX⟩, .pass (x:= .inLoop x) rfl (fun _ _=> .inl (by simp)) w9⟩
   |ret=>exact ⟨_,a₁,w₁,⟨s1,hq,lX⟩, .pass (x:= .inLoop x) rfl (fun _ _=> .inl (by simp)) w9⟩
   |panic ch=>exact ⟨_,a₁,w₁,⟨s1,hq,lX⟩, .pass (x:= .inLoop x) rfl (fun _ _=> .inl (by simp)) w9⟩
   |outgrown=>exact ⟨_,a₁,w₁,⟨s1,hq,lX⟩, .pass (x:= .inLoop x) rfl (fun _ _=> .inl (by simp)) w9⟩
 obtain ⟨e,a',w',hq,w9⟩:=key _ i0 a w rfl (hr.le h0)
 exact ⟨e,a',w',hq, .of_steps (.one step_loop) w9⟩
end
end Go.Ab
end
section
namespace Go.Ab
mutual
def AV.ren (π:Nat→Nat):AV→AV
 | .ref l=> .ref (π l)
 | .ptr l o=> .ptr (π l) o
 | .ep l sz i o=> .ep (π l) sz i o
 | .agg vs=> .agg (AV.rens π vs)
 | .tup vs=> .tup (AV.rens π vs)
 | .fn f us vs=> .fn f (AV.rens π us) (AV.rens π vs)
 | .fZ=> .fZ
 | .nil e=> .nil e
 | .d x=> .d x
 | .gq p=> .gq p
 | .mref l=> .mref (π l)
 | .emp e=> .emp e
def AV.rens (π:Nat→Nat):List AV→List AV
 | []=> []
 |a::as=>AV.ren π a::AV.rens π as
end
def AObj.ren (π:Nat→Nat):AObj→AObj
 | .box cells=> .box (AV.rens π cells)
 | .rob cells=> .rob (AV.rens π cells)
 | .own e sz rows=> .own e sz rows
 | .tip e sz rows=> .tip e sz rows
 | .mp n aq=> .mp n aq
 | .part e sz rows=> .part e sz rows
 | .nest e' e sz rows h=> .nest e' e sz rows h
 | .nils e' e sz n=> .nils e' e sz n
 | .orh e rows i g=> .orh e rows i (g.map π)
def Env.pre (E:Env) (π:Nat→Nat):Env:=⟨fun l=>E.ρ (π l),fun l=>E.σ (π l),E.z⟩
mutual
theorem qF {w:World} {E:Env} {π:Nat→Nat} :∀ {a:AV} {v:Value},cn w (E.pre π) a v↔cn w E (a.ren π) v
 | .fZ,_=>Iff.rfl
 | .nil _,_=>Iff.rfl
 | .emp _,_=>Iff.rfl
 | .d _,_=>Iff.rfl
 | .gq _,_=>Iff.rfl
 | .mref _,_=>Iff.rfl
 | .ref _,_=>Iff.rfl
 | .ptr _ _,_=>Iff.rfl
 | .ep _ _ _ _,_=>Iff.rfl
 | .agg vs,v=>⟨fun ⟨us,h1,h2⟩=>⟨us,h1,cB.1 h2⟩,fun ⟨us,h1,h2⟩=>⟨us,h1,cB.2 h2⟩⟩
 | .tup vs,v=>⟨fun ⟨us,h1,h2⟩=>⟨us,h1,cB.1 h2⟩,fun ⟨us,h1,h2⟩=>⟨us,h1,cB.2 h2⟩⟩
 | .fn f as bs,v=>⟨fun ⟨us,vs,h1,h2,h3⟩=>⟨us,vs,h1,cB.1 h2,cB.1 h3⟩,fun ⟨us,vs,h1,h2,h3⟩=>⟨us,vs,h1,cB.2 h2,cB.2 h3⟩⟩
theorem cB {w:World} {E:Env} {π:Nat→Nat} :∀ {as:List AV} {us:List Value},AVrs w (E.pre π) as us↔AVrs w E (AV.rens π as) us
 | [],_=>Iff.rfl
 |a::as,us=>⟨fun ⟨u,us',h1,h2,h3⟩=>⟨u,us',h1,qF.1 h2,cB.1 h3⟩,fun ⟨u,us',h1,h2,h3⟩=>⟨u,us',h1,qF.2 h2,cB.2 h3⟩⟩
end
theorem nS {w:World} {E:Env} {π:Nat→Nat} {l:Nat} {o:AObj} (hn:o.isNest=false):bu w (E.pre π) l o↔bu w E (π l) (o.ren π):=by
 cases o with
 |box cells=>exact ⟨fun ⟨b,vs,e,h1,h2,h3,h4,h5⟩=>⟨b,vs,e,h1,h2,h3,cB.1 h4,h5⟩,fun ⟨b,vs,e,h1,h2,h3,h4,h5⟩=>⟨b,vs,e,h1,h2,h3,cB.2 h4,h5⟩⟩
 |rob cells=>exact ⟨fun ⟨b,vs,e,h1,h2,h3,h4,h5⟩=>⟨b,vs,e,h1,h2,h3,cB.1 h4,h5⟩,fun ⟨b,vs,e,h1,h2,h3,h4,h5⟩=>⟨b,vs,e,h1,h2,h3,cB.2 h4,h5⟩⟩
 |own e sz rows=>exact Iff.rfl
 |tip e sz rows=>exact Iff.rfl
 |mp n aq=>exact Iff.rfl
 |part e sz rows=>exact Iff.rfl
 |nils e' e sz n=>exact Iff.rfl
 |orh e rows i g=>
  cases g with
  |none=>exact ⟨fun ⟨k1,k2,b,cur,cap,h1,h2,h3,h4,h5,h6,h7,h8,_⟩=>⟨k1,k2,b,cur,cap,h1,h2,h3,h4,h5,h6,h7,h8,fun _ e=>by cases e⟩,fun ⟨k1,k2,b,cur,cap,h1,h2,h3,h4,h5,h6,h7,h8,_⟩=>⟨k1,k2,b,cur,cap,h1,h2,h3,h4,h5,h6,h7,h8,fun _ e=>by cases e⟩⟩
  |some g=>exact ⟨fun ⟨k1,k2,b,cur,cap,h1,h2,h3,h4,h5,h6,h7,h8,h9⟩=>⟨k1,k2,b,cur,cap,h1,h2,h3,h4,h5,h6,h7,h8,fun _ e=>by cases e;exact h9 g rfl⟩,fun ⟨k1,k2,b,cur,cap,h1,h2,h3,h4,h5,h6,h7,h8,h9⟩=>⟨k1,k2,b,cur,cap,h1,h2,h3,h4,h5,h6,h7,h8,fun _ e=>by cases e;exact h9 (π g) rfl⟩⟩
 |nest e' e sz rows h=>simp [AObj.isNest] at hn
theorem AObj.C1 (π:Nat→Nat) (o:AObj):(o.ren π).ro=o.ro:=by cases o<;>rfl
theorem bu.congr {w:World} {E E':Env} {live:Nat→Prop} (hz:E'.z=E.z) (hρ:∀l,live l→E'.ρ l=E.ρ l) (hσ:∀l,live l→E'.σ l=E.σ l) {l:Nat} {o:AObj} (hn:o.isNest=false) (hl:live l) (hi:∀k∈o.ids,live k) (h:bu w E l o):bu w E' l o:=by
 have hk:qX w E w E' live:=⟨by rw [hz];exact aH.refl _ _,hρ,hσ⟩
 cases o with
 |box cells=>
  obtain ⟨b,vs,e,h1,h2,h3,h4,h5⟩:=h
  exact ⟨b,vs,e,by rw [hρ l hl];exact h1,h2,by rw [hz];exact h3,AVrs.mono hk hi h4,h5⟩
 |rob cells=>
  obtain ⟨b,vs,e,h1,h2,h3,h4,h5⟩:=h
  exact ⟨b,vs,e,by rw [hρ l hl];exact h1,h2,by rw [hz];exact h3,AVrs.mono hk hi h4,h5⟩
 |own e sz rows=>simp only [bu] at h ⊢;rw [hρ l hl,hσ l hl,hz];exact h
 |tip e sz rows=>simp only [bu] at h ⊢;rw [hρ l hl,hσ l hl,hz];exact h
 |mp n aq=>simp only [bu] at h ⊢;rw [hρ l hl,hz];exact h
 |part e sz rows=>simp only [bu] at h ⊢;rw [hρ l hl,hσ l hl,hz];exact h
 |nils e' e sz n=>simp only [bu] at h ⊢;rw [hρ l hl,hσ l hl,hz];exact h
 |orh e rows i g=>
  obtain ⟨k1,k2,b,cur,cap,h1,h2,h3,h4,h5,h6,h7,h8,h9⟩:=h
  refine ⟨k1,k2,b,cur,cap,by rw [hρ l hl];exact h1,h2,by rw [hσ l hl];exact h3,h4,h5,h6,by rw [hz];exact h7,by rw [hz];exact h8,fun g' e=> ?_⟩
  subst e
  rw [hσ g' (hi g' (by simp [AObj.ids]))]
  exact h9 g' rfl
 |nest e' e sz rows h=>simp [AObj.isNest] at hn
theorem AObj.rK (π:Nat→Nat) (o:AObj):(o.ren π).isNest=o.isNest:=by cases o<;>rfl
mutual
theorem AV.lu:∀a:AV,a.ren id=a
 | .fZ=>rfl
 | .nil _=>rfl
 | .emp _=>rfl
 | .d _=>rfl
 | .ref _=>rfl
 | .ptr _ _=>rfl
 | .ep _ _ _ _=>rfl
 | .gq _=>rfl
 | .mref _=>rfl
 | .agg vs=>by simp only [AV.ren,AV.l6 vs]
 | .tup vs=>by simp only [AV.ren,AV.l6 vs]
 | .fn f us vs=>by simp only [AV.ren,AV.l6 us,AV.l6 vs]
theorem AV.l6:∀as:List AV,AV.rens id as=as
 | []=>rfl
 |a::as=>by simp only [AV.rens,AV.lu a,AV.l6 as]
end
theorem AObj.lu (o:AObj):o.ren id=o:=by cases o<;>simp [AObj.ren,AV.l6]
def asN:List (Nat × Nat)→Nat→Nat
 | [],l=>l
 |(i,j)::r,l=>if i=l then j else asN r l
def renA (rn:List (Nat × Nat)) (a:AV):AV:=match rn with| []=>a|_=>a.ren (asN rn)
def renO (rn:List (Nat × Nat)) (o:AObj):AObj:=match rn with| []=>o|_=>o.ren (asN rn)
theorem Ai:asN []=id:=rfl
theorem Fp (rn:List (Nat × Nat)) (a:AV):renA rn a=a.ren (asN rn):=by
 cases rn with
 |nil=>rw [Ai,AV.lu];rfl
 |cons=>rfl
theorem Fq (rn:List (Nat × Nat)) (o:AObj):renO rn o=o.ren (asN rn):=by
 cases rn with
 |nil=>rw [Ai,AObj.lu];rfl
 |cons=>rfl
def Fs (P:Program) (f:Nat):Prop:=∃fn c,P.funcs[f]? =some fn∧(fn.name== "runtime.NumGoroutine")=false∧fn.body=some c
def Post (m:List (Nat × AObj)) (E:Env) (w:World) (res:AV) (m':List (Nat × AObj)):Ending→World→Prop:=fun e w'=>∃v E',e= .returned v∧E4 m E w E' w'∧Good m' E' w'∧
 (∀l o b,bH m' l=some o→o.ro=false→E'.ρ l=some b→w.heap.size≤b∨ES m E b)∧cn w' E' res v
structure Spec (P:Program) (f:Nat) (A:Env→World→List Value→Prop) (m:List (Nat × AObj)) (res:AV) (m':List (Nat × AObj)):Prop where
 can:Fs P f
 calls:∀E w vals,Good m E w→A E w vals→Calls P f vals.toArray w (Post m E w res m')
def Args (as:List AV):Env→World→List Value→Prop:=fun E w vals=>AVrs w E as vals
def cvtD (s:ASt) (a:AV) (x:D):Prop:=
 match a with
 | .ref l=>match look s.m l with|some (.tip _ sz rows)=>x= .sl sz rows|_=>False
 | .nil _=>match x with| .sl _ rows=>rows= []|_=>False
 | .emp _=>match x with| .sl _ rows=>rows= []|_=>False
 | .d y=>y=x
 |_=>False
def allSome:List (Option D)→Option (List D)
 | []=>some []
 |some x::r=>match allSome r with|some xs=>some (x::xs)|none=>none
 |none::_=>none
def rdX (C:Cfg) (bad:Nat→Bool) (iT:Bool) (m:List (Nat × AObj)):Nat→AV→Option D
 |_, .d x=>some x
 |_, .nil e=>some (.sl (C.sz e) [])
 |_, .emp e=>some (.sl (C.sz e) [])
 |_, .ref l=>match look m l with
  |some (.tip _ sz rows)=>some (.sl sz rows)
  |some (.own _ sz rows)=>if bad l=true then none else some (.sl sz rows)
  |some (.part _ sz rows)=>if bad l=true then none else some (.sl sz rows)
  |some (.nest _ _ sz rows none)=>if bad l=true then none else some (.sl 1 (rows.map fun r=> [.sl sz r]))
  |some (.nils _ _ sz n)=>if bad l=true then none else some (.sl 1 (List.replicate n [.sl sz []]))
  |_=>none
 |n+1, .ptr l o=>match look m l with
  |some (.box cells)=>if bad l=true then none else match allSome (cells.map fun a=>rdX C bad iT m n a) with|some ds=>if o≤ds.length then some (.pt (ds.drop o)) else none|none=>none
  |some (.rob cells)=>if iT=true then match allSome (cells.map fun a=>rdX C bad iT m n a) with|some ds=>if o≤ds.length then some (.pt (ds.drop o)) else none|none=>none else none
  |_=>none
 |_,_=>none
mutual
def cvt (rd:AV→D→Prop) (a:AV):AV→Prop
 | .fZ=>True
 | .d x=>rd a x
 | .agg bs=>match a with| .agg as=>cvts rd as bs|_=>False
 | .tup bs=>match a with| .tup as=>cvts rd as bs|_=>False
 | .nil e=>a= .nil e
 | .ref l=>a= .ref l
 | .ptr l o=>a= .ptr l o
 | .ep l sz i o=>a= .ep l sz i o
 | .fn f us vs=>a= .fn f us vs
 | .gq p=>a= .gq p
 | .mref l=>a= .mref l
 | .emp e=>a= .emp e∨a= .nil e
def cvts (rd:AV→D→Prop) (as:List AV):List AV→Prop
 | []=>as= []
 |b::bs=>match as with|a::as=>cvt rd a b∧cvts rd as bs| []=>False
end
section
variable {rd:AV→D→Prop} {E E':Env} {w:World}
mutual
theorem Aj (hk:qX w E w E' fun _=>True) (hrd:∀a x v,rd a x→cn w E a v→Rd w E'.z v x):∀ {b a:AV} {v:Value},cvt rd a b→cn w E a v→cn w E' b v
 | .fZ,_,_,_,_=>trivial
 | .d x,a,v,h,hr=>by unfold cvt at h;exact hrd a x v h hr
 | .agg bs,a,v,h,hr=>by
   unfold cvt at h
   split at h
   ·obtain ⟨us,rfl,hr⟩:=hr
    exact ⟨us,rfl,jo hk hrd h hr⟩
   ·exact h.elim
 | .tup bs,a,v,h,hr=>by
   unfold cvt at h
   split at h
   ·obtain ⟨us,rfl,hr⟩:=hr
    exact ⟨us,rfl,jo hk hrd h hr⟩
   ·exact h.elim
 | .nil e,a,v,h,hr=>by simp only [cvt] at h;subst h;exact hr
 | .ref l,a,v,h,hr=>by simp only [cvt] at h;subst h;exact cn.mono hk (fun _ _=>trivial) hr
 | .ptr l o,a,v,h,hr=>by simp only [cvt] at h;subst h;exact cn.mono hk (fun _ _=>trivial) hr
 | .ep l sz i o,a,v,h,hr=>by simp only [cvt] at h;subst h;exact cn.mono hk (fun _ _=>trivial) hr
 | .fn f us vs,a,v,h,hr=>by simp only [cvt] at h;subst h;exact cn.mono hk (fun _ _=>trivial) hr
 | .gq p,a,v,h,hr=>by simp only [cvt] at h;subst h;exact hr
 | .mref l,a,v,h,hr=>by simp only [cvt] at h;subst h;exact cn.mono hk (fun _ _=>trivial) hr
 | .emp e,a,v,h,hr=>by
   simp only [cvt] at h
   rcases h with rfl|rfl
   ·exact hr
   ·exact ⟨none,hr⟩
theorem jo (hk:qX w E w E' fun _=>True) (hrd:∀a x v,rd a x→cn w E a v→Rd w E'.z v x):∀ {bs as:List AV} {vs:List Value},cvts rd as bs→AVrs w E as vs→AVrs w E' bs vs
 | [],as,vs,h,hr=>by simp only [cvts] at h;subst h;exact hr
 |b::bs,as,vs,h,hr=>by
  unfold cvts at h
  split at h
  ·obtain ⟨u,us,rfl,h1,h2⟩:=hr
   exact ⟨u,us,rfl,Aj hk hrd h.1 h1,jo hk hrd h.2 h2⟩
  ·exact h.elim
end
end
theorem C2 {s:ASt} {E:Env} {w:World} (hm:∀l o,look s.m l=some o→bu w E l o) (a:AV) (x:D) (v:Value) (h:cvtD s a x) (hr:cn w E a v):Rd w E.z v x:=by
 simp only [cvtD] at h
 split at h
 ·split at h
  ·rename_i e sz rows hl
   subst h
   simp only [cn] at hr
   rw [hr.1];exact kF (hm _ _ hl)
  ·exact h.elim
 ·split at h
  ·subst h
   simp only [cn] at hr
   subst hr
   exact .nil _ _
  ·exact h.elim
 ·split at h
  ·subst h
   obtain ⟨p,rfl⟩:=hr
   exact .nil _ _
  ·exact h.elim
 ·subst h;exact hr
 ·exact h.elim
def dF (w:World) (b:Nat):Nat:=match w.heap[b]? with|some (.cells cs _ _)=>cs.size|_=>0
theorem nT:∀ {l:List (Option D)} {ds:List D},allSome l=some ds→l=ds.map some
 | [],ds,h=>by simp [allSome] at h;subst h;rfl
 |none::r,ds,h=>by simp [allSome] at h
 |some x::r,ds,h=>by
  simp only [allSome] at h
  cases hr:allSome r with
  |none=>simp [hr] at h
  |some xs=>
   simp [hr] at h
   subst h
   rw [nT hr];rfl
theorem qG {C:Cfg} {bad:Nat→Bool} {iT:Bool} {m:List (Nat × AObj)} {E:Env} {w:World} {z:Nat→Nat} (hg:Good m E w) (hst:aH w E.z w z)
 (yT:∀l o b,look m l=some o→(o.ro=false∨iT=true)→(o.ro=false→bad l=false)→E.ρ l=some b→dF w b≤z b):∀ {n:Nat} {a:AV} {x:D} {v:Value},rdX C bad iT m n a=some x→cn w E a v→Rd w z v x:=by
 have flat:∀ {a:AV} {x:D} {v:Value} (n:Nat),(∀l o,a≠ .ptr l o)→rdX C bad iT m n a=some x→cn w E a v→Rd w z v x:=by
  intro a x v n hne h hr
  unfold rdX at h
  split at h
  ·cases h;exact Rd.mono hst hr
  ·cases h;simp only [cn] at hr;subst hr;exact .nil _ _
  ·cases h;obtain ⟨p,rfl⟩:=hr;exact .nil _ _
  ·rename_i l
   have hv:=hr.1
   subst hv
   split at h
   ·rename_i e sz rows hl
    cases h
    exact Rd.mono hst (kF (hg.obj _ _ hl))
   ·rename_i e sz rows hl
    split at h
    ·cases h
    ·rename_i hb
     cases h
     obtain ⟨g1,g2,⟨h1,h2,p,h3⟩|⟨b,cur,cap,h1,h2,h3,h4,h5,h6,h7,h8⟩⟩:=hg.obj _ _ hl
     ·rw [h3,h2];exact .nil p sz
     ·have hz:=yT _ _ b hl (.inl rfl) (fun _=>by simpa using hb) h1
      simp only [dF,h2] at hz
      rw [h3]
      have hle:rows.length*sz≤cap*sz:=Nat.mul_le_mul_right sz h4
      refine .sl b 0 rows.length cap sz rows (fun k=>cur.getD k undef) rfl g1 (by omega) h4 (fun k hk=> ?_) (fun i j r x hi hj=> ?_)
      ·have:k<cur.size:=by omega
       simp [World.cell?,h2,Array.getElem?_eq_getElem this]
      ·obtain ⟨v,hv,hx⟩:=h8 i j r x hi hj
       have:cur.getD (i*sz+j) undef=v:=by simp [hv]
       rw [this];exact hx.mono hst
   ·rename_i e sz rows hl
    split at h
    ·cases h
    ·rename_i hb
     cases h
     obtain ⟨g1,g2,⟨h1,h2,p,h3⟩|⟨b,off,cur,cap,h1,h2,h3,h4,h5,h6,h7,h8⟩⟩:=hg.obj _ _ hl
     ·rw [h3,h2];exact .nil p sz
     ·have hz:=yT _ _ b hl (.inl rfl) (fun _=>by simpa using hb) h1
      simp only [dF,h2] at hz
      rw [h3]
      have hle:rows.length*sz≤cap*sz:=Nat.mul_le_mul_right sz h4
      refine .sl b off rows.length cap sz rows (fun k=>cur.getD (off+k) undef) rfl g1 (by omega) h4 (fun k hk=> ?_) (fun i j r x hi hj=> ?_)
      ·have:off+k<cur.size:=by omega
       simp [World.cell?,h2,Array.getElem?_eq_getElem this]
      ·obtain ⟨v,hv,hx⟩:=h8 i j r x hi hj
       have:cur.getD (off+(i*sz+j)) undef=v:=by simp [hv]
       rw [this];exact hx.mono hst
   ·rename_i e' e sz rows hl
    split at h
    ·cases h
    ·rename_i hb
     cases h
     obtain ⟨b,cur,cap,h1,h2,h3,h4,h5,h6,h7,h8⟩:=hg.obj _ _ hl
     have hz:=yT _ _ b hl (.inl rfl) (fun _=>by simpa using hb) h1
     simp only [dF,h2] at hz
     have jl:=hg.low _ (by rw [hl];simp)
     rw [h3]
     refine .sl b 0 _ cap 1 _ (fun k=>cur.getD k undef) (by simp) (by simp) (by omega) h4 (fun k hk=> ?_) (fun i j r x hi hj=> ?_)
     ·have:k<cur.size:=by omega
      simp [World.cell?,h2,Array.getElem?_eq_getElem this]
     ·rw [List.getElem?_map] at hi
      obtain ⟨rr,Kr,rfl⟩:=Option.map_eq_some_iff.1 hi
      have hil:i<rows.length:=(List.getElem?_eq_some_iff.1 Kr).1
      obtain ⟨c1,c2⟩:=h8 i hil (by simp)
      have hs:bH m (nn l i)=some (.tip e sz rr):=by rw [mT jl,hl];simp [inner,Kr]
      cases j with
      |succ j=>simp at hj
      |zero=>
       simp at hj
       subst hj
       have:cur.getD (i*1+0) undef=E.σ (nn l i):=by simp [c1]
       rw [this]
       exact Rd.mono hst (kF (hg.iS _ _ hs))
   ·rename_i e' e sz k hl
    split at h
    ·cases h
    ·rename_i hb
     cases h
     obtain ⟨b,cur,cap,h1,h2,h3,h4,h5,h6,h7,h8,h9⟩:=hg.obj _ _ hl
     have hz:=yT _ _ b hl (.inl rfl) (fun _=>by simpa using hb) h1
     simp only [dF,h2] at hz
     rw [h3]
     refine .sl b 0 k cap 1 _ (fun k=>cur.getD k undef) (by simp) (fun r hr=>by rw [(List.mem_replicate.1 hr).2];rfl) (by omega) h4 (fun j hj=> ?_) (fun i j r x hi hj=> ?_)
     ·have:j<cur.size:=by omega
      simp [World.cell?,h2,Array.getElem?_eq_getElem this]
     ·rw [List.getElem?_replicate] at hi
      split at hi
      ·rename_i hik
       cases hi
       cases j with
       |succ j=>simp at hj
       |zero=>
        simp at hj
        subst hj
        have:cur.getD (i*1+0) undef= .slice none 0 0:=by simp [h9 i hik]
        rw [this]
        exact .nil _ _
      ·cases hi
   ·cases h
  ·exact absurd rfl (hne _ _)
  ·cases h
 intro n
 induction n with
 |zero=>
  intro a x v h hr
  cases a with
  |ptr l o=>simp [rdX] at h
  |_=>exact flat 0 (fun _ _ e=>by cases e) h hr
 |succ n ih=>
  intro a x v h hr
  have key:∀(l o b:Nat) (vs:List Value) (e:Nat) (cells:List AV),E.ρ l=some b→w.heap[b]? =some (.cells vs.toArray e (0,0))→AVrs w E cells vs→dF w b≤z b→v= .pointer (some ⟨b,o,none⟩)→
   (match allSome (cells.map fun a=>rdX C bad iT m n a) with|some ds=>if o≤ds.length then some (D.pt (ds.drop o)) else none|none=>none)=some x→Rd w z v x:=by
   intro l o b vs e cells h1 h2 h3 hz hv h
   cases hs:allSome (cells.map fun a=>rdX C bad iT m n a) with
   |none=>rw [hs] at h;cases h
   |some ds=>
    rw [hs] at h
    simp only at h
    split at h
    ·rename_i ho
     cases h
     subst hv
     have hd:=nT hs
     have hlen:cells.length=ds.length:=by have:=congrArg List.length hd;simpa using this
     have hvl:=h3.length
     simp only [dF,h2,List.size_toArray] at hz
     refine .pt b o _ (fun k=>vs.getD (o+k) undef) (by simp;omega) (fun k hk=> ?_) (fun j x hj=> ?_)
     ·simp only [List.length_drop] at hk
      have:o+k<vs.length:=by omega
      simp [World.cell?,h2,List.getD_eq_getElem?_getD,List.getElem?_eq_getElem this]
     ·rw [List.getElem?_drop] at hj
      have hjl:o+j<cells.length:=by rw [hlen];exact (List.getElem?_eq_some_iff.1 hj).1
      have hrd:rdX C bad iT m n cells[o+j]=some x:=by
       have:=congrArg (·[o+j]?) hd
       simp only [List.getElem?_map,List.getElem?_eq_getElem hjl,Option.map_some,hj,Option.some.injEq] at this
       exact this
      obtain ⟨u,hu,Iu⟩:=h3.get (List.getElem?_eq_getElem hjl)
      have:vs.getD (o+j) undef=u:=by rw [List.getD_eq_getElem?_getD,hu];rfl
      rw [this]
      exact ih hrd Iu
    ·cases h
  cases a with
  |ptr l o=>
   obtain ⟨b,hb,hv⟩:=hr
   unfold rdX at h
   split at h
   ·rename_i cells hl
    split at h
    ·cases h
    ·rename_i mY
     obtain ⟨b',vs,e,h1,h2,h3,h4,h5⟩:=hg.obj _ _ hl
     rw [h1] at hb;cases hb
     exact key l o b vs e cells h1 h2 h4 (yT _ _ b hl (.inl rfl) (fun _=>by simpa using mY) h1) hv h
   ·rename_i cells hl
    split at h
    ·rename_i hle
     obtain ⟨b',vs,e,h1,h2,h3,h4,h5⟩:=hg.obj _ _ hl
     rw [h1] at hb;cases hb
     exact key l o b vs e cells h1 h2 h4 (yT _ _ b hl (.inr hle) (fun h=>by simp [AObj.ro] at h) h1) hv h
    ·cases h
   ·cases h
  |_=>exact flat _ (fun _ _ e=>by cases e) h hr
inductive RV where
 |t (n:Nat)
 |c (a ty:Nat)
def RV.rv:RV→ResultVar
 | .t n=> .tmp n
 | .c a ty=> .cell a ty
def resK (C:Cfg) (s:ASt) (rs:List RV) (K:List AV→Prop):Prop:=
 match rs with
 | []=>K []
 | .t n::rs=>resK C s rs fun vs=>K (get s.t n::vs)
 | .c a ty::rs=>match get s.t a with
   | .ptr l q=>match look s.m l with
     |some (.box cells)=>vcLoad (C.T ty) cells q fun v=>resK C s rs fun vs=>K (v::vs)
     |_=>False
   |_=>False
def tupOf:List AV→AV
 | [r]=>r
 |rs=> .tup rs
def leR (m:List (Nat × AObj)) (rn:List (Nat × Nat)):List (Nat × AObj)→Prop
 | []=>True
 |(l,o)::r=>look m (asN rn l)=some (renO rn o)∧leR m rn r
def Fin (C:Cfg) (rs:List RV) (rn:List (Nat × Nat)) (res:AV) (m':List (Nat × AObj)) (e:Exit) (s:ASt):Prop:=
 match e with
 | .ret| .normal=>resK C s rs fun vs=>cvt (fun a x=>rdX C (fun l=>m'.any fun p=>asN rn p.1==l) false s.m 4 a=some x) (tupOf vs) (renA rn res)∧leR s.m rn m'
 |_=>False
def params:Nat→List AV→List (Nat × AV)
 |_, []=> []
 |k,a::as=>(k,a)::params (k+1) as
theorem rL:∀(as:List AV) (k i:Nat),get (params k as) (k+i)=(as[i]?).getD .fZ
 | [],k,i=>by simp [params,get]
 |a::as,k,0=>by simp [params,get]
 |a::as,k,i+1=>by
  simp only [params,get,List.getElem?_cons_succ]
  rw [if_neg (by omega),show k+(i+1)=k+1+i from by omega]
  exact rL as (k+1) i
def vq:List Value→Value
 | [r]=>r
 |rs=> .tuple rs.toArray
def rM (tmps:Array Value):ResultVar→Sem Value
 | .tmp t=>pure (tmps.getD t undef)
 | .cell a t=>do loadVar t (← asAddr (tmps.getD a undef))
theorem mZ {X:Ctx} (hX:X.Ok) {E:Env} {s:ASt} {a:Act} {w:World} (h:bG X E s a w):∀ {rs:List RV} {K:List AV→Prop},resK X.C s rs K→
 ∃vs us,K vs∧AVrs w E vs us∧((rs.map RV.rv).mapM (rM a.tmps)).run X.P w= .ok us w
 | [],K,hK=>⟨[], [],hK,rfl,by simp⟩
 | .t n::rs,K,hK=>by
   simp only [resK] at hK
   obtain ⟨vs,us,h1,h2,h3⟩:=mZ hX h hK
   refine ⟨_,_::us,h1,⟨_,_,rfl,h.slot n,h2⟩, ?_⟩
   rw [List.map_cons,List.mapM_cons]
   simp only [Sem.run_bind,RV.rv,rM,Sem.run_pure,Result.andThen_ok,h3]
 | .c n ty::rs,K,hK=>by
   unfold resK at hK
   split at hK
   ·rename_i l q hg
    split at hK
    ·rename_i cells hl
     obtain ⟨av,hK,hr⟩:=lW (P:=X.P) (t:=ty) (fun ti qb=>hX.C.T ty ti qb) hK
     obtain ⟨vs,us,h1,h2,h3⟩:=mZ hX h hK
     obtain ⟨b,cs,g1,g2,g3⟩:=q6 (h.good.obj l _ hl)
     have Bd:=h.slot n
     rw [hg] at Bd
     obtain ⟨b',hb',Bd⟩:=Bd
     rw [g1] at hb';cases hb'
     obtain ⟨v,hv,wT⟩:=hr w E b 0 cs g2 (fun j u hu=>by rw [Nat.zero_add];exact g3 j u hu)
     rw [Nat.zero_add] at hv
     refine ⟨_,v::us,h1,⟨_,_,rfl,wT,h2⟩, ?_⟩
     have IG:(loadVar ty ⟨b,q,none⟩).run X.P w= .ok v w:=by simpa [Instr.loadAt,Instr.sureAddr] using hv
     rw [List.map_cons,List.mapM_cons]
     simp only [Sem.run_bind,RV.rv,rM,Bd,asAddr,Sem.run_pure,Result.andThen_ok,IG,h3]
    ·exact hK.elim
   ·exact hK.elim
theorem xb {P:Program} {fn:Func} {rs:List RV} (h:fn.results=(rs.map RV.rv).toArray) {tmps:Array Value} {w:World} {us:List Value} (hr:((rs.map RV.rv).mapM (rM tmps)).run P w= .ok us w):
 (results fn tmps).run P w= .ok (vq us) w:=by
 have e:results fn tmps=(do
  let vs ← fn.results.mapM (rM tmps)
  pure (if h:vs.size=1 then vs[0] else .tuple vs)):=by
  rfl
 rw [e]
 simp only [h,Array.mapM_eq_mapM_toList,Sem.run_bind,Sem.run_map,hr,Result.andThen_ok,Sem.run_pure]
 match us with
 | []=>simp [vq]
 | [r]=>simp [vq]
 |r::q::rs=>simp [vq]
theorem bt:∀ {m:List (Nat × AObj)} {l:Nat} {o:AObj},look m l=some o→(l,o)∈m
 | [],l,o,h=>by simp [look] at h
 |(i,q)::m,l,o,h=>by
  simp only [look] at h
  split at h
  ·rename_i hi;subst hi;cases h;exact List.mem_cons_self
  ·exact List.mem_cons_of_mem _ (bt h)
theorem gW {m:List (Nat × AObj)} (hm:∀p∈m,p.2.isNest=false) {l:Nat} {o:AObj} (h:bH m l=some o):look m l=some o∧nd l=none:=by
 unfold bH at h
 cases dB:nd l with
 |none=>rw [dB] at h;exact ⟨h,rfl⟩
 |some p=>
  obtain ⟨b,i⟩:=p
  rw [dB] at h
  exfalso
  simp only at h
  cases hq:look m b with
  |none=>rw [hq] at h;simp [inner] at h
  |some q=>
   have:=hm _ (bt hq)
   rw [hq] at h
   cases q<;>simp [inner] at h<;>simp [AObj.isNest] at this
theorem xd {m:List (Nat × AObj)} {rn:List (Nat × Nat)} :∀ {m':List (Nat × AObj)},leR m rn m'→∀ {l o},look m' l=some o→look m (asN rn l)=some (o.ren (asN rn))
 | [],_,l,o,h=>by simp [look] at h
 |(i,q)::m',hr,l,o,h=>by
  simp only [look] at h
  split at h
  ·rename_i hi;subst hi;cases h;rw [← Fq];exact hr.1
  ·exact xd hr.2 h
theorem Spec.C3 {P:Program} {C:Cfg} {f:Nat} {fn:Func} {c:Code} {n:Nat} {rs:List RV} (rn:List (Nat × Nat)) {A:Env→World→List Value→Prop} {m:List (Nat × AObj)} {res:AV} {m':List (Nat × AObj)}
 (hC:C.Ok P) (hf:P.funcs[f]? =some fn) (hb:fn.body=some c) (hname:(fn.name== "runtime.NumGoroutine")=false) (hn:fn.ntmps=n) (yG:fn.results=(rs.map RV.rv).toArray)
 (vr:∀p∈m,10000≤p.1∧p.2.isNest=false) (hm':∀p∈m',p.1<20000∧p.2.isNest=false) (Ln:∀l,look m l≠none→asN rn l=l) (hinj:∀p∈m',∀q∈m',asN rn p.1=asN rn q.1→p.1=q.1) (hk:wO n c=true)
 (h:∀X:Ctx,X.Ok→X.P=P→X.C=C→X.n=n→X.m0=m→∀vals,A X.E0 X.w0 vals→∃args,args.length≤n∧AVrs X.w0 X.E0 args vals∧cG X c (Fin C rs rn res m') ⟨params 0 args,m⟩):Spec P f A m res m':=by
 refine ⟨⟨fn,c,hf,hname,hb⟩,fun E w vals hg hA=> ?_⟩
 have hplain:∀ {l o},bH m l=some o→look m l=some o:=fun hl=>(gW (fun p hp=>(vr p hp).2) hl).1
 have hX:Ctx.Ok ⟨P,C,n,m,E,w⟩:=⟨hC,fun l hl=>by
  obtain ⟨o,ho⟩:=Option.ne_none_iff_exists'.1 hl
  exact (vr _ (bt (hplain ho))).1⟩
 obtain ⟨args,hlen,hargs,hwp⟩:=h ⟨P,C,n,m,E,w⟩ hX rfl rfl rfl rfl vals hA
 have hvl:=hargs.length
 have hsz:(vals.toArray++Array.replicate (fn.ntmps - vals.toArray.size) undef).size=n:=by simp [hn];omega
 refine calls_of_wp hf hb (wp_mono (hwp.run hk _ _ ⟨E,rfl,hsz,hg,E4.refl _ _ _,fun l o b hl hro hb'=> .inr ⟨l,o,hl,hro,hb'⟩,fun k=> ?_⟩) ?_)
 ·have Nn:=rL args 0 k
  rw [Nat.zero_add] at Nn
  rw [Nn]
  cases ha:args[k]? with
  |none=>trivial
  |some av=>
   obtain ⟨u,hu,hr⟩:=hargs.get ha
   have:(vals.toArray++Array.replicate (fn.ntmps - vals.toArray.size) undef).getD k undef=u:=by
    have cq:k<vals.length:=(List.getElem?_eq_some_iff.1 hu).1
    rw [Array.getD_eq_getD_getElem?,Array.getElem?_append_left (by simpa using cq)]
    simp [hu]
   rw [this];exact hr
 ·rintro e a' w' ⟨s,hq,E',hE⟩
  have fin:Fin C rs rn res m' .ret s→a'.defers= []∧∃v,(results fn a'.tmps).run P w'= .ok v w'∧Post m E w res m' (.returned v) w':=by
   intro hf
   obtain ⟨vs,us,⟨h1,h2⟩,h3,h4⟩:=mZ hX hE hf
   have jm:∀ {l o},bH m' l=some o→bH s.m (asN rn l)=some (o.ren (asN rn))∧(o.ren (asN rn)).isNest=false∧(l,o)∈m':=fun hl=>by
    have hl':=(gW (fun p hp=>(hm' p hp).2) hl).1
    exact ⟨hE.good.bH (xd h2 hl'),by rw [AObj.rK];exact (hm' _ (bt hl')).2,bt hl'⟩
   obtain ⟨z,hz⟩:∃z:Nat→Nat,∀b,((∃l o,bH s.m l=some o∧(∃p∈m',asN rn p.1=l)∧E'.ρ l=some b)∨(b<w.heap.size∧¬ES m E b)→z b=E'.z b)∧
    (¬((∃l o,bH s.m l=some o∧(∃p∈m',asN rn p.1=l)∧E'.ρ l=some b)∨(b<w.heap.size∧¬ES m E b))→z b=max (E'.z b) (dF w' b)):=by
    classical
    exact ⟨fun b=>if ((∃l o,bH s.m l=some o∧(∃p∈m',asN rn p.1=l)∧E'.ρ l=some b)∨(b<w.heap.size∧¬ES m E b)) then E'.z b else max (E'.z b) (dF w' b),fun b=>⟨fun h=>by simp only [if_pos h],fun h=>by simp only [if_neg h]⟩⟩
   have Fm:∀b,E'.z b≤z b:=fun b=>by
    by_cases h:(∃l o,bH s.m l=some o∧(∃p∈m',asN rn p.1=l)∧E'.ρ l=some b)∨(b<w.heap.size∧¬ES m E b)
    ·rw [(hz b).1 h];exact Nat.le_refl _
    ·rw [(hz b).2 h];exact Nat.le_max_left _ _
   have hst:aH w' E'.z w' z:=fun b=>⟨Fm b,fun _ _=>rfl⟩
   have hkeep:qX w' E' w' ⟨E'.ρ,E'.σ,z⟩ fun _=>True:=⟨hst,fun _ _=>rfl,fun _ _=>rfl⟩
   have yT:∀l o b,look s.m l=some o→(o.ro=false∨false=true)→(o.ro=false→(m'.any fun p=>asN rn p.1==l)=false)→E'.ρ l=some b→dF w' b≤z b:=by
    intro l o b hl hro mY hb
    have hro:o.ro=false:=hro.resolve_right (by simp)
    have mY:=mY hro
    rw [(hz b).2 ?_]
    ·exact Nat.le_max_right _ _
    ·rintro (⟨l',o',h1,⟨p,hp,fH⟩,h2⟩|⟨h1,h2⟩)
     ·have:=hE.good.inj l l' b (by rw [hE.good.bH hl];simp) (by rw [h1];simp) hb h2
      subst this
      rw [List.any_eq_false] at mY
      exact mY p hp (by simp [fH])
     ·rcases hE.mine l o b (hE.good.bH hl) hro hb with h3|h3
      ·simp only at h3;omega
      ·exact h2 h3
   refine ⟨hE.defers,_,xb yG h4,_,(⟨E'.ρ,E'.σ,z⟩:Env).pre (asN rn),rfl,⟨hE.kL.os,hE.kL.tape,hE.kL.output,hE.kL.size,hE.kL.st.trans hst,fun b hb hnm=> ?_,fun l hl=> ?_⟩,⟨fun l hl=> ?_,fun l l' b hl hl' hb hb'=> ?_,fun l o hl=> ?_,fun b hb=> ?_⟩,fun l o b hl hro hb'=> ?_, ?_⟩
   ·have:=hE.kL.frame b hb hnm
    exact ⟨this.1,((hz b).1 (.inr ⟨hb,hnm⟩)).trans this.2⟩
   ·obtain ⟨o,ho⟩:=Option.ne_none_iff_exists'.1 hl
    have:=Ln l (by rw [hplain ho];simp)
    simp only [Env.pre,this]
    exact hE.kL.GC l hl
   ·obtain ⟨o,ho⟩:=Option.ne_none_iff_exists'.1 hl
    exact (hm' _ (bt ho)).1
   ·obtain ⟨o,ho⟩:=Option.ne_none_iff_exists'.1 hl
    obtain ⟨o',ho'⟩:=Option.ne_none_iff_exists'.1 hl'
    obtain ⟨g1,_,g2⟩:=jm ho
    obtain ⟨Kw,_,On⟩:=jm ho'
    exact hinj _ g2 _ On (hE.good.inj (asN rn l) (asN rn l') b (by simp [g1]) (by simp [Kw]) hb hb')
   ·obtain ⟨g1,g3,g2⟩:=jm hl
    refine (nS (by rw [AObj.rK] at g3;exact g3)).2 ?_
    have:=bu.keep (k:= []) (E':=⟨E'.ρ,E'.σ,z⟩) hst (fun _ _=>⟨rfl,rfl⟩) (fun l x hl=>by simp [kl] at hl) rfl (fun _ _=>rfl) (fun b hb=>⟨rfl,(hz b).1 (.inl ⟨_,_,g1,⟨_,g2,rfl⟩,hb⟩)⟩) (hE.good.iS _ _ g1)
    rwa [AObj.lV] at this
   ·by_cases h:(∃l o,bH s.m l=some o∧(∃p∈m',asN rn p.1=l)∧E'.ρ l=some b)∨(b<w.heap.size∧¬ES m E b)
    ·exact ((hz b).1 h).trans (hE.good.fresh b hb)
    ·refine ((hz b).2 h).trans ?_
     rw [hE.good.fresh b hb]
     simp [dF,Array.getElem?_eq_none hb]
   ·obtain ⟨g1,_,_⟩:=jm hl
    exact hE.mine _ _ b g1 (by rw [AObj.C1];exact hro) hb'
   ·refine qF.2 ?_
    rw [← Fp]
    refine Aj hkeep (fun a x v Ib hr=>qG hE.good hst yT Ib hr) h1 ?_
    match vs,us,h3 with
    | [],us,h3=>simp only [AVrs] at h3;subst h3;exact ⟨[],rfl,rfl⟩
    | [v],us,h3=>obtain ⟨u,us',rfl,g1,g2⟩:=h3;simp only [AVrs] at g2;subst g2;exact g1
    |v::v'::vs,us,h3=>
     obtain ⟨u,us',rfl,g1,u',GX,rfl,g2⟩:=h3
     exact ⟨u::u'::GX,rfl,⟨u,_,rfl,g1,u',_,rfl,g2⟩⟩
  cases e with
  |ret=>exact fin hq
  |normal=>exact fin hq
  |_=>exact hq.elim
theorem Spec.intro {P:Program} {C:Cfg} {f:Nat} {fn:Func} {c:Code} {n:Nat} {rs:List RV} {A:Env→World→List Value→Prop} {m:List (Nat × AObj)} {res:AV} {m':List (Nat × AObj)}
 (hC:C.Ok P) (hf:P.funcs[f]? =some fn) (hb:fn.body=some c) (hname:(fn.name== "runtime.NumGoroutine")=false) (hn:fn.ntmps=n) (yG:fn.results=(rs.map RV.rv).toArray)
 (vr:∀p∈m,10000≤p.1∧p.2.isNest=false) (hm':∀p∈m',p.1<20000∧p.2.isNest=false) (hk:wO n c=true)
 (h:∀X:Ctx,X.Ok→X.P=P→X.C=C→X.n=n→X.m0=m→∀vals,A X.E0 X.w0 vals→∃args,args.length≤n∧AVrs X.w0 X.E0 args vals∧cG X c (Fin C rs [] res m') ⟨params 0 args,m⟩):Spec P f A m res m':=
 Spec.C3 [] hC hf hb hname hn yG vr hm' (fun _ _=>rfl) (fun p _ q _ h=>h) hk h
end Go.Ab
end
section
namespace Go.Ab
def renM (π:Nat→Nat):List (Nat × AObj)→List (Nat × AObj)
 | []=> []
 |(l,o)::r=>match o with
  | .rob _=>renM π r
  |o=>(π l,o.ren π)::renM π r
def killM (π:Nat→Nat) (m':List (Nat × AObj)):List (Nat × AObj)→List (Nat × Option D)
 | []=> []
 |(l,_)::r=>match look m' l with
  |none=>(π l,none)::killM π m' r
  |some _=>killM π m' r
theorem nU {π:Nat→Nat} {m':List (Nat × AObj)} :∀ {m:List (Nat × AObj)} {k:Nat},kl (killM π m' m) k≠none→∃l,look m l≠none∧look m' l=none∧π l=k
 | [],k,h=>absurd rfl h
 |(l,o)::r,k,h=>by
  simp only [killM] at h
  split at h
  ·rename_i hl
   simp only [kl] at h
   split at h
   ·rename_i hk;exact ⟨l,by simp [look],hl,hk⟩
   ·obtain ⟨l',h1,h2,h3⟩:=nU h
    exact ⟨l',by simp only [look];split<;>simp_all,h2,h3⟩
  ·obtain ⟨l',h1,h2,h3⟩:=nU h
   exact ⟨l',by simp only [look];split<;>simp_all,h2,h3⟩
theorem rN {π:Nat→Nat} {m':List (Nat × AObj)} :∀ {m:List (Nat × AObj)} {l:Nat},look m l≠none→look m' l=none→kl (killM π m' m) (π l)≠none
 | [],l,h,_=>absurd rfl h
 |(i,o)::r,l,h,h'=>by
  simp only [look] at h
  simp only [killM]
  by_cases hil:i=l
  ·subst hil
   simp [h',kl]
  ·simp only [hil,if_false] at h
   have ih:=rN (π:=π) h h'
   split
   ·simp only [kl];split
    ·simp
    ·exact ih
   ·exact ih
theorem ng {π:Nat→Nat} {m':List (Nat × AObj)} :∀ {m:List (Nat × AObj)} {k:Nat} {x:D},kl (killM π m' m) k≠some (some x)
 | [],k,x=>by simp [killM,kl]
 |(i,o)::r,k,x=>by
  simp only [killM]
  have ih:=ng (π:=π) (m':=m') (m:=r) (k:=k) (x:=x)
  split
  ·simp only [kl];split
   ·simp
   ·exact ih
  ·exact ih
theorem jq:∀(a b:List (Nat × Option D)) (k:Nat),kl (a++b) k=match kl a k with|some x=>some x|none=>kl b k
 | [],b,k=>rfl
 |(i,x)::a,b,k=>by
  simp only [List.cons_append,kl]
  split
  ·rfl
  ·exact jq a b k
theorem gX {π:Nat→Nat} :∀ {m:List (Nat × AObj)} {k:Nat} {o':AObj},look (renM π m) k=some o'→∃p∈m,p.2.ro=false∧π p.1=k∧o'=p.2.ren π
 | [],k,o',h=>by simp [renM,look] at h
 |(l,o)::r,k,o',h=>by
  have step:look (renM π r) k=some o'→∃p∈(l,o)::r,p.2.ro=false∧π p.1=k∧o'=p.2.ren π:=fun h=>by
   obtain ⟨p,h1,h2⟩:=gX h
   exact ⟨p,by simp [h1],h2⟩
  cases o<;>simp only [renM] at h
  case rob cells=>exact step h
  all_goals
   simp only [look] at h
   split at h
   ·rename_i hk;cases h;exact ⟨_,List.mem_cons_self,rfl,hk,rfl⟩
   ·exact step h
theorem uh {π:Nat→Nat} :∀ {m:List (Nat × AObj)} {p:Nat × AObj},p∈m→p.2.ro=false→look (renM π m) (π p.1)≠none
 | [],p,h,_=>by cases h
 |(l,o)::r,p,h,hro=>by
  rcases List.mem_cons.1 h with rfl|h
  ·cases o<;>simp only [renM]<;>first|(simp [AObj.ro] at hro;done)|simp [look]
  ·have ih:=uh (π:=π) h hro
   cases o<;>simp only [renM]<;>first|exact ih|(simp only [look];split<;>first|(simp;done)|exact ih)
def nodupM:List (Nat × AObj)→Prop
 | []=>True
 |(l,_)::r=>look r l=none∧nodupM r
theorem au:∀ {m:List (Nat × AObj)},nodupM m→∀ {p:Nat × AObj},p∈m→look m p.1=some p.2
 | [],_,p,h=>by cases h
 |(i,q)::m,hn,p,h=>by
  rcases List.mem_cons.1 h with rfl|h
  ·simp [look]
  ·have ih:=au hn.2 h
   simp only [look]
   split
   ·rename_i hi;subst hi;rw [hn.1] at ih;cases ih
   ·exact ih
theorem nV {X:Ctx} {E:Env} {s s':ASt} {a:Act} {w:World} (hE:bG X E s' a w):∀(xs:List Operand) (ts:List Nat),(∀p∈rsOf s xs,get s'.t p.1=p.2)→AVrs w E (evA X.C s xs ts) (xs.map a.eval)
 | [],ts,_=>by cases ts<;>rfl
 |x::xs,ts,h=>by
  have hx:∀ty,cn w E (aev X.C ty s x) (a.eval x):=fun ty=>hE.evs h _ _ (by simp)
  have ht:∀p∈rsOf s xs,get s'.t p.1=p.2:=fun p hp=>h p (by cases x<;>simp [rsOf,hp])
  cases ts with
  |nil=>exact ⟨_,_,rfl,hx 0,nV hE xs [] ht⟩
  |cons t ts=>exact ⟨_,_,rfl,hx t,nV hE xs ts ht⟩
theorem eM {P:Program} {f:FuncId} {fn:Func} {c:Code} (hf:P.funcs[f]? =some fn) (hname:(fn.name== "runtime.NumGoroutine")=false) (hb:fn.body=some c) (args:Array Value) (w:World):
 (callFunc f args).run P w= .ok (.enter f args) w:=by
 have h1:fn.name≠ "runtime.NumGoroutine" :=by simpa using hname
 simp [callFunc,hf,h1,hb]
section
variable {X:Ctx} {o:Oper} {s:ASt} {K:LA→Prop}
theorem xe (hX:X.Ok) {c:Call} {fo:Operand} {f:Nat} {first caps as:List AV} (π:Nat→Nat) {A:Env→World→List Value→Prop} {m:List (Nat × AObj)} {res:AV} {m':List (Nat × AObj)} (mm:List (Nat × AObj))
 (hs:Spec X.P f A m res m') (ho:o.op= .call c) (hc:c.callee= .value fo) (hf:aev X.C 0 s fo= .fn f first caps) (has:evA X.C s c.args.toList c.argTypes.toList=as)
 (hmm:∀p∈mm,look s.m p.1=some p.2)
 (hm:∀p∈m,(π p.1,p.2.ren π)∈mm∨∃cells,p.2= .rob cells∧(π p.1, .box (AV.rens π cells))∈mm)
 (hnm:nodupM m) (yY:nodupM m') (fH:∀p∈m,p.1<20000∧p.2.isNest=false) (tR:∀p∈m',p.1<20000∧p.2.isNest=false)
 (hinj:∀l l',(look m l≠none∨look m' l≠none)→(look m l'≠none∨look m' l'≠none)→π l=π l'→l=l')
 (hnew:∀p∈m',look m p.1=none→π p.1<10000)
 (hro:∀p∈m',p.2.ro=true→look m p.1=some p.2) (IS:∀p∈m,p.2.ro=true→look m' p.1=some p.2)
 (GY:∀l∈res.ids,look m' l≠none) (C4:∀p∈m',∀l∈p.2.ids,look m' l≠none)
 (hA:∀s' E a w,(∀p∈mm,look s'.m p.1=some p.2)→bG X E s' a w→∀vals,AVrs w E (first++as++caps) vals→A (E.pre π) w vals)
 (hK:K ⟨rsOf s (fo::c.args.toList),mm,killM π m m'++killM π m' m,renM π m',o.dst,res.ren π⟩):∃la,aG X o la∧Sat la s∧K la:=by
 refine ⟨_,⟨rfl, ?_⟩,⟨aA s _,hmm⟩,hK⟩
 rintro s' a w hdn iw ⟨E,hE⟩
 have hfo:=hE.evs iw.1 X.C 0 (x:=fo) (by simp)
 rw [hf] at hfo
 obtain ⟨us,vs,hfo,lX,Cs⟩:=hfo
 have hargs:=nV (s:=s) hE c.args.toList c.argTypes.toList (fun p hp=>iw.1 p (by cases fo<;>simp [rsOf,hp]))
 rw [has] at hargs
 have xg:AVrs w E (first++as++caps) (us++c.args.toList.map a.eval++vs):=(lX.append hargs).append Cs
 obtain ⟨fn,cd,hfn,hname,hbody⟩:=hs.can
 have hrun:(execOp a.eval o).run X.P w= .ok (.enter f (us++c.args.toList.map a.eval++vs).toArray) w:=by
  have h1:us.toArray++c.args.map a.eval++vs.toArray=(us++c.args.toList.map a.eval++vs).toArray:=by
   apply Array.toList_inj.1;simp
  have h2:=eM (P:=X.P) hfn hname hbody (us.toArray++c.args.map a.eval++vs.toArray) w
  rw [h1] at h2
  simp only [execOp,ho,resolve,hc,hfo,Deferred.ofValue,Sem.run_bind,Sem.run_pure,Result.andThen_ok,invoke]
  rw [h1];exact h2
 have pl:∀ {l o},bH m l=some o→look m l=some o:=fun hl=>(gW (fun p hp=>(fH p hp).2) hl).1
 have Qo:∀ {l o},bH m' l=some o→look m' l=some o:=fun hl=>(gW (fun p hp=>(tR p hp).2) hl).1
 have up:∀ {l o},look m l=some o→bH m l=some o:=fun hl=>by rw [bO (by have:=(fH _ (bt hl)).1;omega)];exact hl
 have up':∀ {l o},look m' l=some o→bH m' l=some o:=fun hl=>by rw [bO (by have:=(tR _ (bt hl)).1;omega)];exact hl
 have C5:∀l q,look m l=some q→∃q',look s'.m (π l)=some q'∧(q.ro=false→q'=q.ren π)∧bu w (E.pre π) l q:=by
  intro l q hl
  rcases hm _ (bt hl) with h|⟨cells,h1,h2⟩
  ·have:=iw.2 _ h
   exact ⟨_,this,fun _=>rfl,(nS (fH _ (bt hl)).2).2 (hE.good.obj _ _ this)⟩
  ·simp only at h1
   subst h1
   have:=iw.2 _ h2
   exact ⟨_,this,fun h=>by simp [AObj.ro] at h,(nS rfl).2 (show bu w E (π l) (.box (AV.rens π cells)) from hE.good.obj _ _ this)⟩
 have xh:Good m (E.pre π) w:=by
  refine ⟨fun l hl=> ?_,fun l l' b hl hl' hb hb'=> ?_,fun l q hl=> ?_,hE.good.fresh⟩
  ·obtain ⟨q,hq⟩:=Option.ne_none_iff_exists'.1 hl
   exact (fH _ (bt hq)).1
  ·obtain ⟨q,hq⟩:=Option.ne_none_iff_exists'.1 hl
   obtain ⟨q',kR⟩:=Option.ne_none_iff_exists'.1 hl'
   have hq:=pl hq
   have kR:=pl kR
   obtain ⟨r,h1,_⟩:=C5 l q hq
   obtain ⟨r',yO,_⟩:=C5 l' q' kR
   exact hinj l l' (.inl (by simp [hq])) (.inl (by simp [kR])) (hE.good.inj _ _ b (by simp [hE.good.bH h1]) (by simp [hE.good.bH yO]) hb hb')
  ·obtain ⟨q',_,_,h⟩:=C5 l q (pl hl);exact h
 unfold Oper.wp
 rw [hrun]
 refine (hs.calls (E.pre π) w _ xh (hA s' E a w iw.2 hE _ xg)).mono ?_
 rintro e w' ⟨v,E',rfl,hst,hg',Ak,hres⟩
 have IT:∃pick:Nat→Option Nat,(∀k,look m' k≠none→pick (π k)=some k)∧∀l k,pick l=some k→look m' k≠none∧π k=l:=by
  classical
  refine ⟨fun l=>if h:∃k,look m' k≠none∧π k=l then some h.choose else none,fun k hk=> ?_,fun l k hl=> ?_⟩
  ·have h:∃k',look m' k'≠none∧π k'=π k:=⟨k,hk,rfl⟩
   simp only [h,dif_pos,Option.some.injEq]
   have:=h.choose_spec
   exact hinj _ _ (.inr this.1) (.inr hk) this.2
  ·simp only at hl
   split at hl
   ·rename_i h;cases hl;exact h.choose_spec
   ·cases hl
 obtain ⟨pick,hp1,hp2⟩:=IT
 let E2:Env:=⟨fun l=>match pick l with|some k=>E'.ρ k|none=>E.ρ l,fun l=>match pick l with|some k=>E'.σ k|none=>E.σ l,E'.z⟩
 have e1:∀k,look m' k≠none→E2.ρ (π k)=E'.ρ k∧E2.σ (π k)=E'.σ k:=fun k hk=>by simp [E2,hp1 k hk]
 have Al:∀l,look m' l≠none→(E2.pre π).ρ l=E'.ρ l∧(E2.pre π).σ l=E'.σ l:=fun l hl=>e1 l hl
 have Bi:∀l,kl (killM π m m'++killM π m' m) l=none→kl (killM π m m') l=none∧kl (killM π m' m) l=none:=by
  intro l hl
  rw [jq] at hl
  split at hl
  ·cases hl
  ·exact ⟨by assumption,hl⟩
 have C6:∀b,ES m (E.pre π) b→∃l0 q0,bH s'.m l0=some q0∧q0.ro=false∧E.ρ l0=some b∧(kl (killM π m m'++killM π m' m) l0≠none∨look (renM π m') l0≠none):=by
  rintro b ⟨l,q,hl,Ft,hb⟩
  have hl:=pl hl
  obtain ⟨q',h1,h2,_⟩:=C5 l q hl
  refine ⟨π l,q',hE.good.bH h1,by rw [h2 Ft,AObj.C1];exact Ft,hb, ?_⟩
  cases hq:look m' l with
  |none=>
   left
   rw [jq]
   split
   ·simp
   ·exact rN (by simp [hl]) hq
  |some r=>
   right
   have Lo:r.ro=false:=by
    cases hr:r.ro with
    |false=>rfl
    |true=>
     have:=hro _ (bt hq) hr
     simp only at this
     rw [hl] at this;cases this
     rw [hr] at Ft;cases Ft
   exact uh (p:=(l,r)) (bt hq) Lo
 have Lq:∀k,look m k≠none∨look m' k≠none→π k<20000:=by
  intro k hk
  by_cases hkm:look m k=none
  ·obtain ⟨q,hq⟩:=Option.ne_none_iff_exists'.1 (hk.resolve_left (by simp [hkm]))
   have:=hnew _ (bt hq) hkm
   simp only at this;omega
  ·obtain ⟨q,hq⟩:=Option.ne_none_iff_exists'.1 hkm
   obtain ⟨q',h1,_⟩:=C5 k q hq
   exact hE.good.low _ (by simp [h1])
 have Fu:∀l,kl (killM π m m'++killM π m' m) l≠none→l<20000:=by
  intro l hl
  rw [jq] at hl
  split at hl
  ·rename_i y hy
   obtain ⟨k,h1,h2,h3⟩:=nU (k:=l) (by rw [hy];simp)
   rw [← h3];exact Lq k (.inr h1)
  ·obtain ⟨k,h1,h2,h3⟩:=nU hl
   rw [← h3];exact Lq k (.inl h1)
 refine ⟨E2,hE.app' ⟨rsOf s (fo::c.args.toList),mm,killM π m m'++killM π m' m,renM π m',o.dst,res.ren π⟩ E2 w' v hst.st hst.os hst.tape hst.output hst.size (fun l hl=> ?_) (fun l x hl=> ?_) (fun l hl=> ?_) Fu (fun l q hl=> ?_) (fun b hb=> ?_) (fun l q hl=> ?_) (fun l l' b hl hl' hb hb'=> ?_) (fun l b hl hb=> ?_) hg'.fresh ?_ hdn⟩
 ·
  obtain ⟨k1,k2⟩:=Bi l hl
  simp only [E2]
  cases hpk:pick l with
  |none=>exact ⟨rfl,rfl⟩
  |some k=>
   obtain ⟨h1,h2⟩:=hp2 l k hpk
   subst h2
   have hkm:look m k≠none:=by
    intro hkm
    exact rN (π:=π) h1 hkm k1
   obtain ⟨q,hq⟩:=Option.ne_none_iff_exists'.1 hkm
   exact hst.GC k (by simp [up hq])
 ·rw [jq] at hl
  split at hl
  ·rename_i y hy;cases hl;exact absurd hy ng
  ·exact absurd hl ng
 ·
  have vr:=hX.low l hl
  simp only [E2]
  cases hpk:pick l with
  |none=>exact ⟨rfl,rfl⟩
  |some k=>
   obtain ⟨h1,h2⟩:=hp2 l k hpk
   subst h2
   by_cases hkm:look m k=none
   ·obtain ⟨q,hq⟩:=Option.ne_none_iff_exists'.1 h1
    have:=hnew _ (bt hq) hkm
    simp only at this;omega
   ·obtain ⟨q,hq⟩:=Option.ne_none_iff_exists'.1 hkm
    exact hst.GC k (by simp [up hq])
 ·obtain ⟨p,h1,h2,h3,rfl⟩:=gX hl
  subst h3
  have hl':=au yY h1
  exact ⟨Lq _ (.inr (by simp [hl'])),by rw [AObj.rK];exact (tR p h1).2⟩
 ·by_cases IU:ES m (E.pre π) b
  ·exact .inr (C6 b IU)
  ·exact .inl (hst.frame b hb IU)
 ·obtain ⟨p,h1,h2,h3,rfl⟩:=gX hl
  subst h3
  have hl':=au yY h1
  have hn:=(tR p h1).2
  refine (nS hn).1 (bu.congr (live:=fun l=>look m' l≠none) (E:=E') (E':=E2.pre π) rfl (fun l hl=>(Al l hl).1) (fun l hl=>(Al l hl).2) hn (by simp [hl']) (C4 p h1) (hg'.obj _ _ hl'))
 ·obtain ⟨q,hq⟩:=Option.ne_none_iff_exists'.1 hl
  obtain ⟨q',kR⟩:=Option.ne_none_iff_exists'.1 hl'
  obtain ⟨p,h1,h2,h3,_⟩:=gX hq
  obtain ⟨p',yO,Fk,Fl,_⟩:=gX kR
  subst h3;subst Fl
  have g1:=au yY h1
  have Kw:=au yY yO
  rw [(e1 _ (by simp [g1])).1] at hb
  rw [(e1 _ (by simp [Kw])).1] at hb'
  rw [hg'.inj _ _ b (by simp [up' g1]) (by simp [up' Kw]) hb hb']
 ·obtain ⟨q,hq⟩:=Option.ne_none_iff_exists'.1 hl
  obtain ⟨p,h1,h2,h3,_⟩:=gX hq
  subst h3
  have g1:=au yY h1
  rw [(e1 _ (by simp [g1])).1] at hb
  rcases Ak _ _ b (up' g1) h2 hb with h|h
  ·exact .inl h
  ·exact .inr (C6 b h)
 ·refine qF.1 (cn.mono (live:=fun l=>look m' l≠none) (E:=E') (E':=E2.pre π) ⟨aH.refl _ _,fun l hl=>(Al l hl).1,fun l hl=>(Al l hl).2⟩ GY hres)
end
end Go.Ab
end
section
namespace Go.Ab
inductive Key where
 |slot (t:Nat)
 |obj (l:Nat)
 |cell (l q:Nat)
 deriving DecidableEq
inductive KV where
 |av (a:AV)
 |ob (o:Option AObj)
def fI (o:Option AObj) (q:Nat):KV:=match o with
 |some (.box cells)|some (.rob cells)=>match cells[q]? with|some v=> .av v|none=> .ob none
 |_=> .ob none
def aN (s:ASt):Key→KV
 | .slot t=> .av (get s.t t)
 | .obj l=> .ob (look s.m l)
 | .cell l q=>if q<16 then fI (look s.m l) q else .ob none
def KV.sub (k:List (Nat × Option D)):KV→KV
 | .av a=> .av (a.sub k)
 | .ob o=> .ob (o.map (AObj.sub k))
def KV.ids:KV→List Nat
 | .av a=>a.ids
 | .ob (some o)=>o.ids
 | .ob none=> []
structure Rec where
 la:LA
 hs:List (Nat × AV)
 hm:List (Nat × AObj)
 cs:List (Nat × Nat × AV)
def Rec.rs (r:Rec):List (Key × KV):=(r.la.rs++r.hs).map (fun p=>(.slot p.1, .av p.2))++(r.la.ms++r.hm).map (fun p=>(.obj p.1, .ob (some p.2)))++r.cs.map (fun p=>(.cell p.1 p.2.1, .av p.2.2))
def Rec.pn (r:Rec):List Key:=(match r.la.dst with|some d=> [Key.slot d]|none=> [])++r.hs.map (fun p=> .slot p.1)++r.la.eW.map (fun p=> .obj p.1)++r.la.kill.map (fun p=> .obj p.1)++r.hm.map (fun p=> .obj p.1)
def Rec.dr (r:Rec):List Nat:=r.la.kill.map (·.1)
def meets (a b:List Nat):Bool:=a.any fun x=>b.contains x
def Rec.GZ (r:Rec):List Key:=(r.la.eW.map (·.1)++r.dr).flatMap (fun l=>(List.range 16).map (Key.cell l))++r.hm.flatMap (fun p=>((List.range 16).filter fun q=>meets (fI (some p.2) q).ids r.dr).map (Key.cell p.1))
def Rec.wr (r:Rec):List Key:=r.pn++r.GZ
def Rec.names (r:Rec):List Nat:=(r.rs.flatMap fun p=>p.2.ids)++r.la.v.ids++(r.la.eW.flatMap fun p=>p.2.ids)
def rO (a b:List Key):Bool:=a.any fun x=>b.contains x
def Rec.Gf (r:Rec):Key→Bool
 | .cell l q=>(r.la.eW.any fun p=>p.1==l)||r.dr.contains l||r.hm.any fun p=>p.1==l&&meets (fI (some p.2) q).ids r.dr
 |k=>r.pn.contains k
def gP (i j:Rec):Bool:=
 (j.rs.any fun p=>i.Gf p.1)||rO i.pn j.pn||(i.rs.any fun p=>j.Gf p.1)||meets i.dr j.names||meets j.dr i.names
def jf (o:Oper) (j:Nat):Bool:=o.after.toList.any fun e=>Region.binds .any e&&e.on==j
def Bj (l:List Oper):Nat→Oper→Nat→Bool
 |0,o,j=>jf o j
 |n+1,o,j=>jf o j||o.after.toList.any fun e=>Region.binds .any e&&decide (j<e.on)&&match l[e.on]? with|some o'=>Bj l n o' j|none=>false
def l7 (l:List Oper) (log:List Rec):List (Nat × Oper × Rec)→Bool
 | []=>true
 |(j,o,r)::rest=>(log.zipIdx.all fun p=>decide (j≤p.2)||Bj l 4 o p.2|| !(gP p.1 r)||Bj l 9 o p.2)&&(o.after.toList.all fun e=> !(Region.binds .any e)||decide (e.on<j))&&l7 l log rest
def qx (l:List Oper) (log:List Rec):Bool:=log.length==l.length&&l7 l log ((l.zip log).zipIdx.map fun p=>(p.2,p.1.1,p.1.2))
inductive nW:List Rec→ASt→ASt→Prop
 |nil (s):nW [] s s
 |cons {r rs s s' e} (iw:∀p∈r.rs,aN s p.1=p.2) (hs:∀k,aN s' k=aN (r.la.app s) k) (hw:∀k,k∉r.wr→aN s' k=aN s k∧∀x∈(aN s k).ids,x∉r.dr) (h:nW rs s' e):nW (r::rs) s e
mutual
theorem AV.iX {k:List (Nat × Option D)} :∀ {a:AV},(∀x∈a.ids,kl k x=none)→a.sub k=a
 | .fZ,_=>rfl
 | .nil _,_=>rfl
 | .emp _,_=>rfl
 | .d _,_=>rfl
 | .gq _,_=>rfl
 | .mref l,h=>by simp only [AV.sub,h l (by simp [AV.ids])]
 | .ref l,h=>by simp only [AV.sub,h l (by simp [AV.ids])]
 | .ptr l o,h=>by simp only [AV.sub,h l (by simp [AV.ids])]
 | .ep l sz i o,h=>by simp only [AV.sub,h l (by simp [AV.ids])]
 | .agg vs,h=>by simp only [AV.sub,AV.jr (fun x hx=>h x (by simpa [AV.ids] using hx))]
 | .tup vs,h=>by simp only [AV.sub,AV.jr (fun x hx=>h x (by simpa [AV.ids] using hx))]
 | .fn f us vs,h=>by simp only [AV.sub,AV.jr (as:=us) (fun x hx=>h x (by simp [AV.ids,hx])),AV.jr (as:=vs) (fun x hx=>h x (by simp [AV.ids,hx]))]
theorem AV.jr {k:List (Nat × Option D)} :∀ {as:List AV},(∀x∈AV.idss as,kl k x=none)→AV.subs k as=as
 | [],_=>rfl
 |a::as,h=>by simp only [AV.subs,AV.iX (a:=a) (fun x hx=>h x (by simp [AV.idss,hx])),AV.jr (as:=as) (fun x hx=>h x (by simp [AV.idss,hx]))]
end
mutual
theorem AV.jY {k:List (Nat × Option D)} :∀ {a:AV} {x:Nat},x∈(a.sub k).ids→x∈a.ids
 | .fZ,_,h=>h
 | .nil _,_,h=>h
 | .emp _,_,h=>h
 | .d _,_,h=>h
 | .gq _,_,h=>h
 | .mref l,x,h=>by
   simp only [AV.sub] at h
   split at h<;>first|exact h|simp [AV.ids] at h
 | .ref l,x,h=>by
   simp only [AV.sub] at h
   split at h<;>first|exact h|simp [AV.ids] at h
 | .ptr l o,x,h=>by
   simp only [AV.sub] at h
   split at h<;>first|exact h|simp [AV.ids] at h
 | .ep l sz i o,x,h=>by
   simp only [AV.sub] at h
   split at h<;>first|exact h|simp [AV.ids] at h
 | .agg vs,x,h=>by simp only [AV.sub,AV.ids] at h ⊢;exact AV.js h
 | .tup vs,x,h=>by simp only [AV.sub,AV.ids] at h ⊢;exact AV.js h
 | .fn f us vs,x,h=>by
   simp only [AV.sub,AV.ids,List.mem_append] at h ⊢
   exact h.imp AV.js AV.js
theorem AV.js {k:List (Nat × Option D)} :∀ {as:List AV} {x:Nat},x∈AV.idss (AV.subs k as)→x∈AV.idss as
 | [],_,h=>h
 |a::as,x,h=>by
  simp only [AV.subs,AV.idss,List.mem_append] at h ⊢
  exact h.imp AV.jY AV.js
end
theorem AObj.iX {k:List (Nat × Option D)} {o:AObj} (h:∀x∈o.ids,kl k x=none):o.sub k=o:=by
 cases o<;>first|(simp only [AObj.sub];done)|(simp only [AObj.sub];rw [AV.jr];exact h)|skip
 rename_i e rows i g
 cases g with
 |none=>rfl
 |some g=>simp only [AObj.sub,h g (by simp [AObj.ids])]
theorem AObj.jY {k:List (Nat × Option D)} {o:AObj} {x:Nat} (h:x∈(o.sub k).ids):x∈o.ids:=by
 cases o<;>first|(simp only [AObj.sub,AObj.ids] at h ⊢;first|exact AV.js h|exact h)|skip
 rename_i e rows i g
 cases g with
 |none=>exact h
 |some g=>
  simp only [AObj.sub] at h
  split at h<;>first|exact h|simp [AObj.ids] at h
theorem jZ {k:List (Nat × Option D)} :∀ {x:Nat},x∉k.map (·.1)→kl k x=none:=by
 induction k with
 |nil=>intro x _;rfl
 |cons p k ih=>
  intro x h
  obtain ⟨i,y⟩:=p
  simp only [List.map_cons,List.mem_cons,not_or] at h
  simp only [kl]
  rw [if_neg (fun e=>h.1 e.symm)]
  exact ih h.2
theorem KV.iX {k:List (Nat × Option D)} {v:KV} (h:∀x∈v.ids,x∉k.map (·.1)):v.sub k=v:=by
 cases v with
 |av a=>simp only [KV.sub,AV.iX (fun x hx=>jZ (h x hx))]
 |ob o=>
  cases o with
  |none=>rfl
  |some o=>simp only [KV.sub,Option.map_some,AObj.iX (fun x hx=>jZ (h x hx))]
theorem KV.jY {k:List (Nat × Option D)} {v:KV} {x:Nat} (h:x∈(v.sub k).ids):x∈v.ids:=by
 cases v with
 |av a=>exact AV.jY h
 |ob o=>cases o with
  |none=>exact h
  |some o=>exact AObj.jY h
theorem j0:∀ {m:List (Nat × AObj)} {l:Nat},l∉m.map (·.1)→look m l=none
 | [],l,_=>rfl
 |(i,o)::m,l,h=>by
  simp only [List.map_cons,List.mem_cons,not_or] at h
  simp only [look]
  rw [if_neg (fun e=>h.1 e.symm)]
  exact j0 h.2
theorem iy {a b:List Nat} {x:Nat} (ha:x∈a) (hb:x∈b):meets a b=true:=by
 unfold meets;rw [List.any_eq_true];exact ⟨x,ha,by simpa using hb⟩
theorem rR {r:Rec} {k:Key} (h:k∈r.GZ):∃l q,k= .cell l q∧q<16∧Key.obj l∈r.pn:=by
 simp only [Rec.GZ,List.mem_append,List.mem_flatMap,List.mem_map,List.mem_range,List.mem_filter] at h
 rcases h with ⟨l,hl,q,hq,rfl⟩|⟨p,hp,q,⟨hq,_⟩,rfl⟩
 ·refine ⟨l,q,rfl,hq, ?_⟩
  simp only [Rec.pn,List.mem_append,List.mem_map]
  rcases hl with ⟨p,hp,rfl⟩|hl
  ·exact .inl (.inl (.inr ⟨p,hp,rfl⟩))
  ·obtain ⟨p,hp,rfl⟩:=List.mem_map.1 hl
   exact .inl (.inr ⟨p,hp,rfl⟩)
 ·refine ⟨p.1,q,rfl,hq, ?_⟩
  simp only [Rec.pn,List.mem_append,List.mem_map]
  exact .inr ⟨p,hp,rfl⟩
theorem nZ {r:Rec} {t:Nat} (h:Key.slot t∈r.wr):Key.slot t∈r.pn:=by
 rcases List.mem_append.1 h with h|h
 ·exact h
 ·obtain ⟨l,q,e,_⟩:=rR h;cases e
theorem rS {r:Rec} {l:Nat} (h:Key.obj l∈r.wr):Key.obj l∈r.pn:=by
 rcases List.mem_append.1 h with h|h
 ·exact h
 ·obtain ⟨l',q,e,_⟩:=rR h;cases e
theorem qH {r:Rec} {l q:Nat} (h:Key.cell l q∈r.wr):Key.obj l∈r.pn:=by
 rcases List.mem_append.1 h with h|h
 ·simp only [Rec.pn,List.mem_append,List.mem_map] at h
  rcases h with (((h|⟨p,_,e⟩)|⟨p,_,e⟩)|⟨p,_,e⟩)|⟨p,_,e⟩
  ·split at h<;>simp at h
  ·cases e
  ·cases e
  ·cases e
  ·cases e
 ·obtain ⟨l',q',e,_,h2⟩:=rR h;cases e;exact h2
theorem IV {r:Rec} {k:Key} (h:k∈r.wr):r.Gf k=true:=by
 cases k with
 |slot t=>simpa [Rec.Gf] using nZ h
 |obj l=>simpa [Rec.Gf] using rS h
 |cell l q=>
  rcases List.mem_append.1 h with h|h
  ·exfalso
   simp only [Rec.pn,List.mem_append,List.mem_map] at h
   rcases h with (((h|⟨p,_,e⟩)|⟨p,_,e⟩)|⟨p,_,e⟩)|⟨p,_,e⟩
   ·split at h<;>simp at h
   ·cases e
   ·cases e
   ·cases e
   ·cases e
  ·simp only [Rec.GZ,List.mem_append,List.mem_flatMap,List.mem_map,List.mem_range,List.mem_filter] at h
   simp only [Rec.Gf,Bool.or_eq_true,List.any_eq_true]
   rcases h with ⟨l',hl,q',hq,e⟩|⟨p,hp,q',⟨hq,hm⟩,e⟩
   ·cases e
    rcases hl with ⟨p,hp,rfl⟩|hl
    ·exact .inl (.inl ⟨p,hp,by simp⟩)
    ·exact .inl (.inr (by simpa using hl))
   ·cases e
    exact .inr ⟨p,hp,by simp [hm]⟩
theorem xl {a b:List Key} {x:Key} (ha:x∈a) (hb:x∈b):rO a b=true:=by
 unfold rO;rw [List.any_eq_true];exact ⟨x,ha,by simpa using hb⟩
theorem C7 {i j:Rec} {k:Key} {v:KV} (h:k∈i.wr) (h2:(k,v)∈j.rs):gP i j=true:=by
 simp only [gP,Bool.or_eq_true,List.any_eq_true]
 exact .inl (.inl (.inl (.inl ⟨_,h2,IV h⟩)))
theorem C8 {i j:Rec} {k:Key} {v:KV} (h:(k,v)∈i.rs) (h2:k∈j.wr):gP i j=true:=by
 simp only [gP,Bool.or_eq_true,List.any_eq_true]
 exact .inl (.inl (.inr ⟨_,h,IV h2⟩))
theorem C9 {i j:Rec} {k:Key} (h:k∈i.wr) (h2:k∈j.wr):gP i j=true:=by
 have:∃k,k∈i.pn∧k∈j.pn:=by
  cases k with
  |slot t=>exact ⟨_,nZ h,nZ h2⟩
  |obj l=>exact ⟨_,rS h,rS h2⟩
  |cell l q=>exact ⟨_,qH h,qH h2⟩
 obtain ⟨k,g1,g2⟩:=this
 simp only [gP,Bool.or_eq_true]
 exact .inl (.inl (.inl (.inr (xl g1 g2))))
theorem Da {i j:Rec} {x:Nat} (h:x∈i.dr) (h2:x∈j.names):gP i j=true:=by
 simp only [gP,Bool.or_eq_true]
 exact .inl (.inr (iy h h2))
theorem Db {i j:Rec} {x:Nat} (h:x∈j.dr) (h2:x∈i.names):gP i j=true:=by
 simp only [gP,Bool.or_eq_true]
 exact .inr (iy h h2)
theorem AV.rV {k:List (Nat × Option D)} :∀ {as:List AV} {q:Nat},(AV.subs k as)[q]? =(as[q]?).map (AV.sub k)
 | [],q=>by simp [AV.subs]
 |a::as,0=>by simp [AV.subs]
 |a::as,q+1=>by simp [AV.subs,AV.rV (as:=as)]
theorem yZ {k:List (Nat × Option D)} {o:Option AObj} {q:Nat} :fI (o.map (AObj.sub k)) q=(fI o q).sub k:=by
 cases o with
 |none=>rfl
 |some o=>
  cases o with
  |box cells=>simp only [Option.map_some,AObj.sub,fI,AV.rV];cases cells[q]? <;>rfl
  |rob cells=>simp only [Option.map_some,AObj.sub,fI,AV.rV];cases cells[q]? <;>rfl
  |orh e rows i g=>
   cases g with
   |none=>rfl
   |some g'=>simp only [Option.map_some,AObj.sub];split<;>rfl
  |_=>rfl
theorem AV.xm {as:List AV} {q x:Nat} {v:AV} (h:as[q]? =some v) (hx:x∈v.ids):x∈AV.idss as:=by
 induction as generalizing q with
 |nil=>simp at h
 |cons a as ih=>
  simp only [AV.idss,List.mem_append]
  cases q with
  |zero=>simp at h;subst h;exact .inl hx
  |succ q=>exact .inr (ih (by simpa using h))
theorem rW {o:Option AObj} {q x:Nat} (h:x∈(fI o q).ids):∃o',o=some o'∧x∈o'.ids:=by
 cases o with
 |none=>simp [fI,KV.ids] at h
 |some o=>
  refine ⟨o,rfl, ?_⟩
  unfold fI at h
  split at h
  ·rename_i cells e
   cases e
   split at h
   ·rename_i v hv;exact AV.xm hv h
   ·simp [KV.ids] at h
  ·rename_i cells e
   cases e
   split at h
   ·rename_i v hv;exact AV.xm hv h
   ·simp [KV.ids] at h
  ·simp [KV.ids] at h
theorem rX {r:Rec} {s:ASt} {k:Key} (h:k∉r.wr):aN (r.la.app s) k=(aN s k).sub r.la.kill:=by
 have hm:(r.la.app s).m=putM r.la.eW (s.kill r.la.kill).m:=by unfold LA.app ASt.put;split<;>rfl
 have hw:=h
 have h:k∉r.pn:=fun h'=>h (List.mem_append.2 (.inl h'))
 simp only [Rec.pn,List.mem_append,List.mem_map,not_or,not_exists,not_and] at h
 obtain ⟨⟨⟨⟨h1,_⟩,h3⟩,h4⟩,_⟩:=h
 cases k with
 |cell l q=>
  simp only [aN]
  by_cases hq:q<16
  ·rw [if_pos hq,if_pos hq]
   have hnot:l∉r.la.eW.map (·.1)∧l∉r.la.kill.map (·.1):=by
    constructor
    ·intro hl
     refine hw (List.mem_append.2 (.inr ?_))
     simp only [Rec.GZ,List.mem_append,List.mem_flatMap,List.mem_map,List.mem_range]
     exact .inl ⟨l, .inl (by simpa using hl),q,hq,rfl⟩
    ·intro hl
     refine hw (List.mem_append.2 (.inr ?_))
     simp only [Rec.GZ,List.mem_append,List.mem_flatMap,List.mem_map,List.mem_range]
     exact .inl ⟨l, .inr hl,q,hq,rfl⟩
   rw [hm,di,j0 hnot.1,eu,jZ hnot.2]
   simp only [if_true]
   exact yZ
  ·rw [if_neg hq,if_neg hq];rfl
 |slot t=>
  simp only [aN,KV.sub]
  congr 1
  unfold LA.app ASt.put
  split
  ·rename_i d hd
   simp only [hd,List.mem_singleton,Key.slot.injEq] at h1
   simp only [get]
   rw [if_neg (fun e=>h1 e.symm),dV]
  ·exact dV _ _ _
 |obj l=>
  simp only [aN,KV.sub]
  congr 1
  rw [hm,di,j0 (fun hm=>by obtain ⟨p,hp,fH⟩:=List.mem_map.1 hm;exact h3 p hp (by rw [fH])),eu,jZ (fun hm=>by obtain ⟨p,hp,fH⟩:=List.mem_map.1 hm;exact h4 p hp (by rw [fH]))]
  simp
theorem j4 {r:Rec} {s s':ASt} (h:∀p∈r.rs,aN s p.1=p.2) (h':∀p∈r.rs,aN s' p.1=p.2) {k:Key} (hk:k∈r.pn):aN (r.la.app s) k=aN (r.la.app s') k:=by
 have hm:∀s:ASt,(r.la.app s).m=putM r.la.eW (s.kill r.la.kill).m:=fun s=>by unfold LA.app ASt.put;split<;>rfl
 have same:∀p∈r.rs,aN s p.1=aN s' p.1:=fun p hp=>(h p hp).trans (h' p hp).symm
 cases k with
 |cell l q=>
  exfalso
  simp only [Rec.pn,List.mem_append,List.mem_map] at hk
  rcases hk with (((hk|⟨p,_,e⟩)|⟨p,_,e⟩)|⟨p,_,e⟩)|⟨p,_,e⟩
  ·split at hk<;>simp at hk
  ·cases e
  ·cases e
  ·cases e
  ·cases e
 |slot t=>
  simp only [aN]
  congr 1
  by_cases hd:r.la.dst=some t
  ·unfold LA.app ASt.put
   simp [hd,get]
  ·have hin:∃v,(Key.slot t,KV.av v)∈r.rs:=by
    simp only [Rec.pn,List.mem_append,List.mem_map] at hk
    rcases hk with (((hk|⟨p,hp,hpt⟩)|⟨p,hp,hpt⟩)|⟨p,hp,hpt⟩)|⟨p,hp,hpt⟩
    ·split at hk
     ·rename_i d hd'
      simp only [List.mem_singleton,Key.slot.injEq] at hk
      subst hk;exact absurd hd' hd
     ·simp at hk
    ·simp only [Key.slot.injEq] at hpt
     refine ⟨p.2, ?_⟩
     simp only [Rec.rs,List.mem_append,List.mem_map]
     exact .inl (.inl ⟨p, .inr hp,by rw [hpt]⟩)
    ·cases hpt
    ·cases hpt
    ·cases hpt
   obtain ⟨v,hv⟩:=hin
   have hsame:=same _ hv
   simp only [aN,KV.av.injEq] at hsame
   unfold LA.app ASt.put
   cases hq:r.la.dst with
   |none=>simp only [dV,hsame]
   |some d=>
    have hdt:d≠t:=fun e=>hd (by rw [hq,e])
    simp only [get,hdt,if_false,dV,hsame]
 |obj l=>
  simp only [aN]
  congr 1
  rw [hm,hm,di,di]
  cases hu:look r.la.eW l with
  |some o=>rfl
  |none=>
   simp only [eu]
   by_cases cq:kl r.la.kill l=none
   ·simp only [cq,if_true]
    have hin:∃v,(Key.obj l,v)∈r.rs:=by
     simp only [Rec.pn,List.mem_append,List.mem_map] at hk
     rcases hk with (((hk|⟨p,hp,hpt⟩)|⟨p,hp,hpt⟩)|⟨p,hp,hpt⟩)|⟨p,hp,hpt⟩
     ·split at hk
      ·simp at hk
      ·simp at hk
     ·cases hpt
     ·exfalso
      simp only [Key.obj.injEq] at hpt
      have:∀(m:List (Nat × AObj)),p∈m→look m p.1≠none:=by
       intro m
       induction m with
       |nil=>intro h;cases h
       |cons q m ih=>
        intro h
        obtain ⟨i,o⟩:=q
        simp only [look]
        rcases List.mem_cons.1 h with rfl|h
        ·simp
        ·split
         ·simp
         ·exact ih h
      exact this _ hp (by rw [hpt];exact hu)
     ·exfalso
      simp only [Key.obj.injEq] at hpt
      have:∀(m:List (Nat × Option D)),p∈m→kl m p.1≠none:=by
       intro m
       induction m with
       |nil=>intro h;cases h
       |cons q m ih=>
        intro h
        obtain ⟨i,o⟩:=q
        simp only [kl]
        rcases List.mem_cons.1 h with rfl|h
        ·simp
        ·split
         ·simp
         ·exact ih h
      exact this _ hp (by rw [hpt];exact cq)
     ·simp only [Key.obj.injEq] at hpt
      refine ⟨.ob (some p.2), ?_⟩
      simp only [Rec.rs,List.mem_append,List.mem_map]
      exact .inl (.inr ⟨p, .inr hp,by rw [hpt]⟩)
    obtain ⟨v,hv⟩:=hin
    have hsame:=same _ hv
    simp only [aN,KV.ob.injEq] at hsame
    rw [hsame]
   ·simp only [cq,if_false]
theorem xo {r:Rec} {s s':ASt} (h:∀p∈r.rs,aN s p.1=p.2) (h':∀p∈r.rs,aN s' p.1=p.2) {k:Key} (hk:k∈r.wr):aN (r.la.app s) k=aN (r.la.app s') k:=by
 cases k with
 |slot t=>exact j4 h h' (nZ hk)
 |obj l=>exact j4 h h' (rS hk)
 |cell l q=>
  have:=j4 h h' (qH hk)
  simp only [aN,KV.ob.injEq] at this ⊢
  rw [this]
end Go.Ab
end
section
namespace Go.Ab
theorem n0 {l:List Oper} {log:List Rec} :∀ {q:List (Nat × Oper × Rec)},l7 l log q=true→∀t∈q,
 (∀i r,log[i]? =some r→i<t.1→gP r t.2.2=true→∃n,Bj l n t.2.1 i=true)∧∀e∈t.2.1.after.toList,Region.binds .any e=true→e.on<t.1
 | [],_,t,ht=>by cases ht
 |(j,o,r)::rest,h,t,ht=>by
  simp only [l7,Bool.and_eq_true] at h
  obtain ⟨⟨h1,h2⟩,h3⟩:=h
  rcases List.mem_cons.1 ht with rfl|ht
  ·refine ⟨fun i q hq hi hc=> ?_,fun e he hb=> ?_⟩
   ·rw [List.all_eq_true] at h1
    have:=h1 (q,i) (by
     rw [List.mem_iff_getElem?]
     exact ⟨i,by simp [List.getElem?_zipIdx,hq]⟩)
    simp only [Bool.or_eq_true,decide_eq_true_eq,Bool.not_eq_true'] at this
    rcases this with ((h|h)|h)|h
    ·simp only at hi;omega
    ·exact ⟨4,h⟩
    ·rw [hc] at h;cases h
    ·exact ⟨9,h⟩
   ·rw [List.all_eq_true] at h2
    have:=h2 e he
    simp only [hb,Bool.not_true,Bool.false_or,decide_eq_true_eq] at this
    exact this
  ·exact n0 h3 t ht
theorem xq {l:List Oper} {log:List Rec} (h:qx l log=true):log.length=l.length∧
 (∀(i j:Nat) ri rj o,log[i]? =some ri→log[j]? =some rj→l[j]? =some o→i<j→gP ri rj=true→∃n,Bj l n o i=true)∧
 ∀(j:Nat) o,l[j]? =some o→∀e∈o.after.toList,Region.binds .any e=true→e.on<j:=by
 simp only [qx,Bool.and_eq_true,beq_iff_eq] at h
 obtain ⟨h1,h2⟩:=h
 have hs:=n0 h2
 have mem:∀(j:Nat) o r,l[j]? =some o→log[j]? =some r→(j,o,r)∈((l.zip log).zipIdx.map fun p=>(p.2,p.1.1,p.1.2)):=by
  intro j o r ho hr
  rw [List.mem_map]
  refine ⟨((o,r),j), ?_,rfl⟩
  rw [List.mem_iff_getElem?]
  exact ⟨j,by simp [List.getElem?_zipIdx,List.getElem?_zip_eq_some,ho,hr]⟩
 refine ⟨h1,fun i j ri rj o hi hj ho hij hc=>(hs _ (mem j o rj ho hj)).1 i ri hi hij hc,fun j o ho e he hb=> ?_⟩
 have hjl:j<log.length:=by rw [h1];exact (List.getElem?_eq_some_iff.1 ho).1
 exact (hs _ (mem j o log[j] ho (List.getElem?_eq_getElem hjl))).2 e he hb
theorem nW.states:∀ {log:List Rec} {s e:ASt},nW log s e→∃st:Nat→ASt,st 0=s∧st log.length=e∧∀i r,log[i]? =some r→
 (∀p∈r.rs,aN (st i) p.1=p.2)∧(∀k,aN (st (i+1)) k=aN (r.la.app (st i)) k)∧∀k,k∉r.wr→aN (st (i+1)) k=aN (st i) k∧∀x∈(aN (st i) k).ids,x∉r.dr
 | [],s,e,h=>by cases h;exact ⟨fun _=>s,rfl,rfl,fun i r h=>by simp at h⟩
 |r::log,s,e,h=>by
  cases h with
  |cons iw hs hw h=>
   rename_i s'
   obtain ⟨st,h0,h1,h2⟩:=h.states
   refine ⟨fun i=>match i with|0=>s|i+1=>st i,rfl,h1,fun i q hq=> ?_⟩
   cases i with
   |zero=>
    simp only [List.getElem?_cons_zero,Option.some.injEq] at hq
    subst hq
    simp only [h0]
    exact ⟨iw,hs,hw⟩
   |succ i=>exact h2 i q (by simpa using hq)
theorem vt {r:Rec} {s:ASt} (h:∀p∈r.rs,aN s p.1=p.2) {k:Key} (hk:k∈r.pn) {x:Nat} (hx:x∈(aN (r.la.app s) k).ids):x∈r.names:=by
 have IW:∀p∈r.rs,∀x∈p.2.ids,x∈r.names:=by
  intro p hp x hx
  simp only [Rec.names,List.mem_append,List.mem_flatMap]
  exact .inl (.inl ⟨p,hp,hx⟩)
 cases k with
 |cell l q=>
  exfalso
  simp only [Rec.pn,List.mem_append,List.mem_map] at hk
  rcases hk with (((hk|⟨p,_,e⟩)|⟨p,_,e⟩)|⟨p,_,e⟩)|⟨p,_,e⟩
  ·split at hk<;>simp at hk
  ·cases e
  ·cases e
  ·cases e
  ·cases e
 |slot t=>
  by_cases hd:r.la.dst=some t
  ·have:aN (r.la.app s) (.slot t)= .av r.la.v:=by
    simp only [aN]
    unfold LA.app ASt.put
    simp [hd,get]
   rw [this] at hx
   simp only [Rec.names,List.mem_append]
   exact .inl (.inr hx)
  ·have hin:∃v,(Key.slot t,KV.av v)∈r.rs:=by
    simp only [Rec.pn,List.mem_append,List.mem_map] at hk
    rcases hk with (((hk|⟨p,hp,hpt⟩)|⟨p,hp,hpt⟩)|⟨p,hp,hpt⟩)|⟨p,hp,hpt⟩
    ·split at hk
     ·rename_i d hd'
      simp only [List.mem_singleton,Key.slot.injEq] at hk
      subst hk;exact absurd hd' hd
     ·simp at hk
    ·simp only [Key.slot.injEq] at hpt
     refine ⟨p.2, ?_⟩
     simp only [Rec.rs,List.mem_append,List.mem_map]
     exact .inl (.inl ⟨p, .inr hp,by rw [hpt]⟩)
    ·cases hpt
    ·cases hpt
    ·cases hpt
   obtain ⟨v,hv⟩:=hin
   refine IW _ hv x ?_
   have hsame:=h _ hv
   simp only [aN,KV.av.injEq] at hsame
   have:aN (r.la.app s) (.slot t)= .av ((get s.t t).sub r.la.kill):=by
    simp only [aN]
    unfold LA.app ASt.put
    cases hq:r.la.dst with
    |none=>simp only [dV]
    |some d=>
     have hdt:d≠t:=fun e=>hd (by rw [hq,e])
     simp only [get,hdt,if_false,dV]
   rw [this,hsame] at hx
   exact AV.jY hx
 |obj l=>
  have hm:(r.la.app s).m=putM r.la.eW (s.kill r.la.kill).m:=by unfold LA.app ASt.put;split<;>rfl
  have hval:aN (r.la.app s) (.obj l)= .ob (match look r.la.eW l with|some o=>some o|none=>if kl r.la.kill l=none then (look s.m l).map (AObj.sub r.la.kill) else none):=by
   simp only [aN];rw [hm,di,eu];cases look r.la.eW l<;>rfl
  rw [hval] at hx
  cases hu:look r.la.eW l with
  |some o=>
   simp only [hu,KV.ids] at hx
   simp only [Rec.names,List.mem_append,List.mem_flatMap]
   exact .inr ⟨(l,o),bt hu,hx⟩
  |none=>
   by_cases cq:kl r.la.kill l=none
   ·simp only [hu,cq,if_true] at hx
    have hin:∃o,(Key.obj l,KV.ob (some o))∈r.rs:=by
     simp only [Rec.pn,List.mem_append,List.mem_map] at hk
     rcases hk with (((hk|⟨p,hp,hpt⟩)|⟨p,hp,hpt⟩)|⟨p,hp,hpt⟩)|⟨p,hp,hpt⟩
     ·split at hk<;>simp at hk
     ·cases hpt
     ·exfalso
      simp only [Key.obj.injEq] at hpt
      subst hpt
      have:∀(m:List (Nat × AObj)),p∈m→look m p.1≠none:=by
       intro m
       induction m with
       |nil=>intro h;cases h
       |cons q m ih=>
        intro h
        obtain ⟨i,o⟩:=q
        simp only [look]
        rcases List.mem_cons.1 h with rfl|h
        ·simp
        ·split
         ·simp
         ·exact ih h
      exact this _ hp hu
     ·exfalso
      simp only [Key.obj.injEq] at hpt
      subst hpt
      have:∀(m:List (Nat × Option D)),p∈m→kl m p.1≠none:=by
       intro m
       induction m with
       |nil=>intro h;cases h
       |cons q m ih=>
        intro h
        obtain ⟨i,o⟩:=q
        simp only [kl]
        rcases List.mem_cons.1 h with rfl|h
        ·simp
        ·split
         ·simp
         ·exact ih h
      exact this _ hp cq
     ·simp only [Key.obj.injEq] at hpt
      refine ⟨p.2, ?_⟩
      simp only [Rec.rs,List.mem_append,List.mem_map]
      exact .inl (.inr ⟨p, .inr hp,by rw [hpt]⟩)
    obtain ⟨o,ho⟩:=hin
    have hsame:=h _ ho
    simp only [aN,KV.ob.injEq] at hsame
    simp only [hsame,Option.map_some,KV.ids] at hx
    exact IW _ ho x (AObj.jY hx)
   ·simp [hu,cq,KV.ids] at hx
theorem G0 {r:Rec} {s:ASt} (h:∀p∈r.rs,aN s p.1=p.2) {k:Key} (hk:k∈r.wr) {x:Nat} (hx:x∈(aN (r.la.app s) k).ids):x∈r.names:=by
 cases k with
 |slot t=>exact vt h (nZ hk) hx
 |obj l=>exact vt h (rS hk) hx
 |cell l q=>
  refine vt h (qH hk) ?_
  simp only [aN] at hx ⊢
  split at hx
  ·obtain ⟨o,ho,qI⟩:=rW hx
   rw [ho];exact qI
  ·simp [KV.ids] at hx
section
variable {l:List Oper} {log:List Rec} {st:Nat→ASt}
def Inv (log:List Rec) (st:Nat→ASt) (done:Nat→Prop) (s:ASt):Prop:=∀k,k≤log.length→¬done k→∀(key:Key) (v:KV),
 ((∃r,log[k]? =some r∧(key,v)∈r.rs)∨(k=log.length∧v=aN (st k) key))→(∀j,j<k→¬done j→∀r,log[j]? =some r→key∉r.wr)→aN s key=v
theorem Dc {l:List Oper} {n:Nat} {o:Oper} {j:Nat} (h:jf o j=true):Bj l n o j=true:=by
 cases n<;>simp [Bj,h]
theorem rY {l:List Oper} {done:Nat→Prop} (hD:∀i j o,done j→l[j]? =some o→jf o i=true→done i):∀ {n:Nat} {o:Oper} {j:Nat},Bj l n o j=true→(∀k,jf o k=true→done k)→done j
 |0,o,j,h,hr=>hr j h
 |n+1,o,j,h,hr=>by
  simp only [Bj,Bool.or_eq_true] at h
  rcases h with h|h
  ·exact hr j h
  ·obtain ⟨e,he,h⟩:=List.any_eq_true.1 h
   simp only [Bool.and_eq_true] at h
   obtain ⟨⟨hb,_⟩,h⟩:=h
   have hd:done e.on:=hr e.on (by unfold jf;rw [List.any_eq_true];exact ⟨e,he,by simp [hb]⟩)
   cases ho:l[e.on]? with
   |none=>rw [ho] at h;cases h
   |some o'=>rw [ho] at h;exact rY hD h fun k hk=>hD k _ _ hd ho hk
theorem Dd (Fv:qx l log=true)
 (hst:∀i r,log[i]? =some r→(∀p∈r.rs,aN (st i) p.1=p.2)∧(∀k,aN (st (i+1)) k=aN (r.la.app (st i)) k)∧∀k,k∉r.wr→aN (st (i+1)) k=aN (st i) k∧∀x∈(aN (st i) k).ids,x∉r.dr)
 {done:Nat→Prop} {s:ASt} (hinv:Inv log st done s) (hD:∀i j o,done j→l[j]? =some o→jf o i=true→done i) {i:Nat} {r:Rec} {o:Oper} (hi:log[i]? =some r) (ho:l[i]? =some o) (dB:¬done i)
 (iz:∀j,jf o j=true→done j):(∀p∈r.rs,aN s p.1=p.2)∧Inv log st (fun k=>done k∨k=i) (r.la.app s):=by
 obtain ⟨hlen,gY,_⟩:=xq Fv
 have hD:∀i j o,done j→l[j]? =some o→(∃n,Bj l n o i=true)→done i:=fun i j o hj ho ⟨_,hp⟩=>rY hD hp fun k hk=>hD k j o hj ho hk
 have iz:∀j,(∃n,Bj l n o j=true)→done j:=fun j ⟨_,hp⟩=>rY (fun i j o h1 h2 h3=>hD i j o h1 h2 ⟨4,Dc h3⟩) hp iz
 have hil:i<log.length:=(List.getElem?_eq_some_iff.1 hi).1
 have oper:∀j,j<log.length→∃o,l[j]? =some o:=fun j hj=>⟨l[j]'(by omega),List.getElem?_eq_getElem (by omega)⟩
 have iw:∀p∈r.rs,aN s p.1=p.2:=by
  intro p hp
  refine hinv i (Nat.le_of_lt hil) dB p.1 p.2 (.inl ⟨r,hi,hp⟩) (fun j hj G1 rj yH hw=>G1 (iz j (gY j i rj r o yH hi ho hj (C7 hw hp))))
 refine ⟨iw, ?_⟩
 intro k hk Bk key v qh hC
 have De:¬done k:=fun h=>Bk (.inl h)
 have hki:k≠i:=fun h=>Bk (.inr h)
 have Gg:v=aN (st k) key:=by
  rcases qh with ⟨rk,IX,hin⟩|⟨_,hv⟩
  ·exact ((hst k rk IX).1 _ hin).symm
  ·exact hv
 have xu:∀j,i<j→j<k→∀rj,log[j]? =some rj→key∈rj.wr→gP r rj=true→False:=by
  intro j hij hjk rj yH hw hc
  obtain ⟨oj,No⟩:=oper j (by omega)
  have IY:=gY i j r rj oj hi yH No hij hc
  by_cases hdj:done j
  ·exact dB (hD i j oj hdj No IY)
  ·exact hC j hjk (fun h=>by rcases h with h|h;exact hdj h;omega) rj yH hw
 by_cases hwi:key∈r.wr
 ·
  rcases Nat.lt_or_ge k i with hlt|hge
  ·exfalso
   rcases qh with ⟨rk,IX,hin⟩|⟨hkn,_⟩
   ·exact De (iz k (gY k i rk r o IX hi ho hlt (C8 hin hwi)))
   ·omega
  ·have hik:i<k:=by omega
   rw [xo iw (hst i r hi).1 hwi, ← (hst i r hi).2.1 key,Gg]
   have:∀d,i+1+d≤k→aN (st (i+1+d)) key=aN (st (i+1)) key:=by
    intro d
    induction d with
    |zero=>intro _;rfl
    |succ d ih=>
     intro hd
     rw [← ih (by omega)]
     have hjl:i+1+d<log.length:=by omega
     have yH:log[i+1+d]? =some log[i+1+d]:=List.getElem?_eq_getElem hjl
     have Oo:key∉log[i+1+d].wr:=fun hw=>xu (i+1+d) (by omega) (by omega) _ yH hw (C9 hwi hw)
     exact ((hst _ _ yH).2.2 key Oo).1
   have:=this (k - (i+1)) (by omega)
   rw [show i+1+(k - (i+1))=k from by omega] at this
   exact this.symm
 ·rw [rX hwi]
  have Oq:aN s key=v:=hinv k hk De key v qh (fun j hj G1 rj yH=>by
   by_cases hji:j=i
   ·subst hji;rw [hi] at yH;cases yH;exact hwi
   ·exact hC j hj (fun h=>by rcases h with h|h;exact G1 h;exact hji h) rj yH)
  rw [Oq]
  refine KV.iX fun x hx hkx=> ?_
  rcases Nat.lt_or_ge k i with hlt|hge
  ·rcases qh with ⟨rk,IX,hin⟩|⟨hkn,_⟩
   ·refine De (iz k (gY k i rk r o IX hi ho hlt (Db hkx ?_)))
    simp only [Rec.names,List.mem_append,List.mem_flatMap]
    exact .inl (.inl ⟨_,hin,hx⟩)
   ·omega
  ·have hik:i<k:=by omega
   have:∀d,i+1+d≤k→∀x∈(aN (st (i+1+d)) key).ids,x∉r.dr:=by
    intro d
    induction d with
    |zero=>
     intro _ x hx
     rw [Nat.add_zero,((hst i r hi).2.2 key hwi).1] at hx
     exact ((hst i r hi).2.2 key hwi).2 x hx
    |succ d ih=>
     intro hd x hx
     have hjl:i+1+d<log.length:=by omega
     have yH:log[i+1+d]? =some log[i+1+d]:=List.getElem?_eq_getElem hjl
     by_cases hw:key∈log[i+1+d].wr
     ·intro hkx
      rw [show i+1+(d+1)=i+1+d+1 from by omega,(hst _ _ yH).2.1 key] at hx
      have hn:=G0 (hst _ _ yH).1 hw hx
      exact xu (i+1+d) (by omega) (by omega) _ yH hw (Da hkx hn)
     ·rw [show i+1+(d+1)=i+1+d+1 from by omega,((hst _ _ yH).2.2 key hw).1] at hx
      exact ih (by omega) x hx
   have:=this (k - (i+1)) (by omega)
   rw [show i+1+(k - (i+1))=k from by omega, ← Gg] at this
   exact this x hx hkx
end
end Go.Ab
end
