/- A part of the proof. -/
import Derived.MapKept
import Derived.Test.YtchjjbfhlchpfaaGreatL9P5
set_option linter.unusedSimpArgs false
set_option linter.unusedVariables false
section
namespace Go.Ab
theorem qi {w:World} {E:Env} :∀ {as:List AV} {key:List Int} {us:List Value},intsOf as=some key→AVrs w E as us→us=key.map (Value.int .i64)
 | [],key,us,h,hr=>by simp only [intsOf,Option.some.injEq] at h;simp only [AVrs] at hr;subst h;subst hr;rfl
 |a::as,key,us,h,hr=>by
  obtain ⟨u,us',rfl,h1,h2⟩:=hr
  unfold intsOf at h
  split at h
  ·rename_i heq;cases heq
  ·rename_i b r heq
   cases heq
   split at h
   ·rename_i q hq
    cases h
    rw [bg h1,qi hq h2];rfl
   ·cases h
  ·cases h
theorem l5:∀(xs:List Int),((xs.map (Value.int .i64)).zip (xs.map (Value.int .i64))).all (fun p=>Instr.sameBits 9999 p.1 p.2)=true
 | []=>rfl
 |x::xs=>by
  simp only [List.map_cons,List.zip_cons_cons,List.all_cons,l5 xs,Bool.and_true]
  simp [Instr.sameBits]
theorem kj {P:Program} (w:World) (xs:List Int):(Instr.keyThatStays (.agg (xs.map (Value.int .i64)).toArray) (.agg (xs.map (Value.int .i64)).toArray)).run P w= .ok (.agg (xs.map (Value.int .i64)).toArray) w:=by
 have:Instr.sameBits 10000 (.agg (xs.map (Value.int .i64)).toArray) (.agg (xs.map (Value.int .i64)).toArray)=true:=by
  have h:=l5 xs
  simp only [Instr.sameBits,beq_self_eq_true,Bool.true_and]
  exact h
 simp [Instr.keyThatStays,this]
theorem ga {P:Program} (w:World) {kt n:Nat} (he:mN P kt n) {key:List Int} (hk:key.length=n):∀(au:List (List Int × Int)) (es:List MapEntry) (i:Nat),es.length=au.length→(∀p∈au,p.1.length=n)→
 (∀(j:Nat) p,au[j]? =some p→∃b,es[j]? =some ⟨.agg (p.1.map (Value.int .i64)).toArray, .int .i64 p.2,b⟩)→
 (Instr.findAsking kt (.agg (key.map (Value.int .i64)).toArray) es i).run P w= .ok ((cg au key).map fun j=>(i+j, .int .i64 ((au[j]?.map (·.2)).getD 0))) w
 | [],es,i,hl,_,_=>by
   have:es= []:=List.eq_nil_of_length_eq_zero hl
   subst this
   simp [Instr.findAsking,cg]
 |p::au, [],i,hl,_,_=>by simp at hl
 |p::au,e::es,i,hl,hn,h=>by
  obtain ⟨b,hb⟩:=h 0 p rfl
  simp only [List.getElem?_cons_zero,Option.some.injEq] at hb
  subst hb
  have ih:=ga w he hk au es (i+1) (by simpa using hl) (fun q hq=>hn q (by simp [hq])) (fun j q hq=>by have:=h (j+1) q (by simpa using hq);simpa using this)
  have heq:=(he.2 w key p.1 hk (hn p (by simp))).1
  have heq':(Op.equal kt (.agg (key.map (Value.int .i64)).toArray) (.agg (p.1.map (Value.int .i64)).toArray)).run P w= .ok (decide (key=p.1)) w:=heq
  by_cases hkp:key=p.1
  ·subst hkp
   simp [Instr.findAsking,heq',cg,List.findIdx?_cons]
  ·have L6:=ih
   simp only [cg] at L6
   simp [Instr.findAsking,heq',hkp,cg,List.findIdx?_cons,L6]
   congr 1
   funext j
   simp only [Function.comp,List.getElem?_cons_succ,Prod.mk.injEq,and_true]
   omega
theorem gG {au:List (List Int × Int)} {k:List Int} {i:Nat} (h:cg au k=some i):∃p,au[i]? =some p∧p.1=k:=by
 unfold cg at h
 rw [List.findIdx?_eq_some_iff_getElem] at h
 obtain ⟨hi,hp,_⟩:=h
 exact ⟨au[i],List.getElem?_eq_getElem hi,by simpa using (of_decide_eq_true hp).symm⟩
theorem mj {au:List (List Int × Int)} {k:List Int} (h:cg au k=none):∀p∈au,p.1≠k:=by
 unfold cg at h
 rw [List.findIdx?_eq_none_iff] at h
 intro p hp e
 have:=h p hp
 simp [e] at this
structure yP (P:Program) (kt n:Nat):Prop where
 qj:∀(w:World) em (key:List Int),key.length=kW n→(Instr.checkKey em 10000 kt (kV n key)).run P w= .ok () w
 find:∀(w:World) (key:List Int) au es,key.length=kW n→iT n au es→(Instr.findKey kt (kV n key) es.toList).run P w= .ok ((cg au key).map fun j=>(j, .int .i64 ((au[j]?.map (·.2)).getD 0))) w
 stay:∀(w:World) (key:List Int),(Instr.keyThatStays (kV n key) (kV n key)).run P w= .ok (kV n key) w
theorem yQ (n:Nat) (key:List Int):kV (n+1) key= .agg (key.map (Value.int .i64)).toArray:=rfl
theorem yR (k:Int):kV 0 [k]= .int .i64 k:=rfl
theorem tN {P:Program} {kt n:Nat} (he:mN P kt (n+1)) (hu:∃fs,P.underlying kt=some (.struct fs)):yP P kt (n+1):=by
 refine ⟨fun w em key hk=>(he.2 w key key hk hk).2 em,fun w key au es hk DF=> ?_,fun w key=>kj w key⟩
 obtain ⟨fs,hu⟩:=hu
 have ha:=ga w he hk au es.toList 0 (by simpa using DF.size) DF.len (fun j p hp=>⟨j,by simpa [yQ] using DF.EP j p hp⟩)
 simp only [Nat.zero_add] at ha
 rw [yQ]
 cases hq:es.toList with
 |nil=>
  have:au= []:=by
   have:=DF.size
   apply List.eq_nil_of_length_eq_zero
   rw [← this]
   simpa using congrArg List.length hq
  subst this
  simp [Instr.findKey,run_underlying hu,Instr.findNow,cg]
 |cons e l=>
  have hf:Instr.findNow (.struct fs) (.agg (key.map (Value.int .i64)).toArray) (e::l) 0=none:=by
   simp [Instr.findNow,Instr.sameNow]
  rw [hq] at ha
  simp only [Instr.findKey,Sem.run_bind,run_underlying hu,Result.andThen_ok,hf]
  exact ha
theorem mT {k:Int} :∀(au:List (List Int × Int)) (es:List MapEntry) (i:Nat),es.length=au.length→(∀p∈au,p.1.length=1)→
 (∀(j:Nat) p,au[j]? =some p→∃b,es[j]? =some ⟨.int .i64 (p.1.getD 0 0), .int .i64 p.2,b⟩)→
 Instr.findNow (.int .i64) (.int .i64 k) es i=some ((cg au [k]).map fun j=>(i+j, .int .i64 ((au[j]?.map (·.2)).getD 0)))
 | [],es,i,hl,_,_=>by
   have:es= []:=List.eq_nil_of_length_eq_zero hl
   subst this
   simp [Instr.findNow,cg]
 |p::au, [],i,hl,_,_=>by simp at hl
 |p::au,e::es,i,hl,hn,h=>by
  obtain ⟨b,hb⟩:=h 0 p rfl
  simp only [List.getElem?_cons_zero,Option.some.injEq] at hb
  subst hb
  have ih:=mT (k:=k) au es (i+1) (by simpa using hl) (fun q hq=>hn q (by simp [hq])) (fun j q hq=>by have:=h (j+1) q (by simpa using hq);simpa using this)
  obtain ⟨v,hv⟩:∃v,p.1= [v]:=by
   have:=hn p (by simp)
   match p.1,this with
   | [v],_=>exact ⟨v,rfl⟩
  by_cases hkp:k=v
  ·subst hkp
   simp [Instr.findNow,Instr.sameNow,hv,cg,List.findIdx?_cons]
  ·simp only [cg] at ih
   have JV:(k==v)=false:=by simpa using hkp
   simp [Instr.findNow,Instr.sameNow,hv,hkp,JV,cg,List.findIdx?_cons,ih]
   congr 1
   funext j
   simp only [Function.comp,List.getElem?_cons_succ,Prod.mk.injEq,and_true]
   omega
theorem zY {P:Program} {kt:Nat} (hu:P.underlying kt=some (.int .i64)):yP P kt 0:=by
 have one:∀key:List Int,key.length=1→∃k,key= [k]:=fun key h=>by
  match key,h with
  | [k],_=>exact ⟨k,rfl⟩
 refine ⟨fun w em key hk=> ?_,fun w key au es hk DF=> ?_,fun w key=> ?_⟩
 ·obtain ⟨k,rfl⟩:=one key hk
  rw [yR]
  unfold Instr.checkKey
  simp [run_underlying hu]
 ·obtain ⟨k,rfl⟩:=one key hk
  have:=mT (k:=k) au es.toList 0 (by simpa using DF.size) DF.len (fun j p hp=>⟨j,by simpa [kV] using DF.EP j p hp⟩)
  rw [yR]
  simp only [Instr.findKey,Sem.run_bind,run_underlying hu,Result.andThen_ok,this,Sem.run_pure,Nat.zero_add]
 ·show (Instr.keyThatStays (.int .i64 (key.getD 0 0)) (.int .i64 (key.getD 0 0))).run P w=_
  simp [Instr.keyThatStays,Instr.sameBits]
  rfl
theorem lz {C:Cfg} {P:Program} (hC:C.Ok P) {t n:Nat} (h:mpOk C t=some n):∃k e,P.underlying t=some (.map k e)∧yP P k n∧∀w,(zeroValue e).run P w= .ok (.int .i64 0) w:=by
 unfold mpOk at h
 split at h
 ·rename_i k e _ _ _ hT
  obtain ⟨h1,h3⟩:=(hC.T _ _ hT).2
  split at h
  ·rename_i hk
   cases h
   exact ⟨k,e,h1,zY (hC.T _ _ hk).2,h3⟩
  ·rename_i hk
   obtain ⟨fs,h2,_⟩:=(hC.T _ _ hk).2
   split at h
   ·rename_i m hm
    cases h
    exact ⟨k,e,h1,tN (hC.xq _ _ hm) ⟨_,h2⟩,h3⟩
   ·cases h
  ·cases h
 ·cases h
theorem iT.EV {n:Nat} {au:List (List Int × Int)} {es:Array MapEntry} (h:iT n au es) {key:List Int} (hk:key.length=kW n) (hf:cg au key=none):
 iT n (dn au key) (es.push ⟨kV n key, .int .i64 0,es.size⟩):=by
 have e:dn au key=au++ [(key,0)]:=by simp [dn,hf]
 rw [e]
 refine ⟨by simp [h.size],fun p hp=> ?_, ?_,fun i p hp=> ?_⟩
 ·rcases List.mem_append.1 hp with hp|hp
  ·exact h.len p hp
  ·simp at hp;subst hp;exact hk
 ·rw [List.map_append,List.nodup_append]
  refine ⟨h.apart,by simp,fun x hx y hy hxy=> ?_⟩
  simp at hy
  subst hy;subst hxy
  obtain ⟨p,hp,hpx⟩:=List.mem_map.1 hx
  exact mj hf p hp hpx
 ·by_cases hi:i<au.length
  ·rw [List.getElem?_append_left hi] at hp
   rw [Array.getElem?_push_lt (by rw [h.size];exact hi), ← h.EP i p hp,Array.getElem?_eq_getElem]
  ·rw [List.getElem?_append_right (by omega)] at hp
   have:i=au.length:=by
    have:=(List.getElem?_eq_some_iff.1 hp).1
    simp at this;omega
   subst this
   simp at hp;subst hp
   rw [← h.size];simp
theorem iT.put {n:Nat} {au:List (List Int × Int)} {es:Array MapEntry} (h:iT n au es) (i:Nat) (v:Int):iT n (mO au i v) (es.modify i fun e=> {e with val:= .int .i64 v}):=by
 have hg:∀j,(mO au i v)[j]? =if i=j then (au[j]?).map (fun p=>(p.1,v)) else au[j]? :=fun j=>by
  unfold mO;rw [List.getElem?_modify];split<;>simp
 have hm:(mO au i v).map (·.1)=au.map (·.1):=by
  apply List.ext_getElem?
  intro j
  rw [List.getElem?_map,List.getElem?_map,hg]
  split
  ·cases au[j]? <;>rfl
  ·rfl
 refine ⟨by simp [mO,h.size],fun p hp=> ?_,by rw [hm];exact h.apart,fun j p hp=> ?_⟩
 ·have:p.1∈(mO au i v).map (·.1):=List.mem_map_of_mem hp
  rw [hm] at this
  obtain ⟨q,hq,e⟩:=List.mem_map.1 this
  rw [← e];exact h.len q hq
 ·rw [hg] at hp
  rw [Array.getElem?_modify]
  split at hp
  ·rename_i hij;subst hij
   simp only [Option.map_eq_some_iff] at hp
   obtain ⟨q,hq,rfl⟩:=hp
   simp [h.EP i q hq]
  ·rename_i hij
   simp [hij,h.EP j p hp]
section
variable {X:Ctx} {o:Oper} {s:ASt} {K:LA→Prop}
theorem kD {w:World} {E:Env} {l n:Nat} {au:List (List Int × Int)} (h:aX w E l (.mp n au)) {v:Value} (hv:bT w E (.mref l) v):∃b es,v= .map (some b)∧E.ρ l=some b∧w.heap[b]? =some (.map es es.size)∧E.z b=0∧iT n au es:=by
 obtain ⟨b,es,h1,h2,h3,h4⟩:=h
 obtain ⟨b',hb',rfl⟩:=hv
 rw [h1] at hb';cases hb'
 exact ⟨b,es,rfl,h1,h2,h3,h4⟩
theorem BR {w:World} {E:Env} {ks:List AV} {key:List Int} (h:intsOf ks=some key) {v:Value} (hv:bT w E (.agg ks) v):v= .agg (key.map (Value.int .i64)).toArray:=by
 obtain ⟨us,rfl,hu⟩:=hv
 rw [qi h hu]
theorem pQ {w:World} {E:Env} {n:Nat} {a:AV} {key:List Int} (h:keyOf n a=some key) {v:Value} (hv:bT w E a v):v=kV n key:=by
 match n,a,h with
 |0, .d (.sc (.int .i64 k)),h=>cases h;exact bg hv
 |n+1, .agg ks,h=>exact BR h hv
theorem xF (hX:X.Ok) {t:Nat} (ho:o.op= .makeMap t none) (h:vcOp X X.C o s K):∃la,aD X o la∧Sat la s∧K la:=by
 simp only [vcOp,ho] at h
 split at h
 ·rename_i d n bA hm
  obtain ⟨hd,hK⟩:=h
  refine ⟨_,aD.mk bA.symm fun s' E a w hdn hs hE=> ?_,⟨by simp,by simp⟩,hK⟩
  refine ⟨.map (some w.heap.size),w.alloc (.map #[] 0),bP E d w.heap.size (E.σ d) 0,by simp [execOp,ho,show (Instr.makeMap t none).run X.P w= .ok (.map (some w.heap.size)) (w.alloc (.map #[] 0)) from rfl], ?_⟩
  rw [bA]
  refine hE.create hX hd (kill:= [(d,none)]) (by simp [kl]) (fun l hl=>by have:=kA d l hl;unfold dlow at hd;omega) (by simp) (fun b hb=>heap_alloc_old w _ hb) rfl rfl rfl
   (fun l x hl=>absurd hl (cG d l x)) ?_ ⟨w.heap.size,by simp [bP],rfl⟩ (fun k hk=>hdn k (by rw [bA];exact hk))
  exact ⟨w.heap.size, #[],by simp [bP],by rw [heap_alloc_new];rfl,by simp [bP],⟨rfl,by simp,by simp,by simp⟩⟩
 ·exact h.elim
theorem j7 {P:Program} (w:World) {t k e n:Nat} (ht:P.underlying t=some (.map k e)) (he:yP P k n) (hz:∀w,(zeroValue e).run P w= .ok (.int .i64 0) w)
 {b:Nat} {es:Array MapEntry} {au:List (List Int × Int)} (hb:w.heap[b]? =some (.map es es.size)) (hm:iT n au es) {key:List Int} (hk:key.length=kW n) (ok:Bool):
 (Instr.lookup t (.map (some b)) (kV n key) ok).run P w= .ok (if ok then .tuple #[.int .i64 (jF au key), .bool (cg au key).isSome] else .int .i64 (jF au key)) w:=by
 have h1:=fun em=>he.qj w em key hk
 have h2:=he.find w key au es hk hm
 simp only [Instr.lookup,Sem.run_bind,run_underlying ht,Result.andThen_ok,MapKept.run_getObj_map hb,Sem.run_pure,h1,h2]
 unfold jF
 cases hf:cg au key with
 |none=>cases ok<;>simp [hz]
 |some i=>cases ok<;>simp
theorem zZ (hX:X.Ok) {t:Nat} {x i:Operand} (ho:o.op= .lookup t x i false) (h:vcOp X X.C o s K):∃la,aD X o la∧Sat la s∧K la:=by
 simp only [vcOp,ho] at h
 split at h
 ·rename_i n' l hmp hx
  split at h
  ·rename_i n au key hl hks
   obtain ⟨⟨rfl,b8⟩,hK⟩:=h
   obtain ⟨k,e,g1,g2,g4⟩:=lz hX.C hmp
   refine ⟨_,aD.val fun s' E a w hs hE=>⟨.int .i64 (jF au key), ?_,bU _ rfl⟩,⟨aB s _,by simp [hl]⟩,hK⟩
   have ex:=hE.evs hs.1 X.C 0 (x:=x) (by simp)
   have ei:=hE.evs hs.1 X.C 0 (x:=i) (by simp)
   rw [hx] at ex
   obtain ⟨b,es,q1,q2,q3,q4,q5⟩:=kD (hE.good.obj l _ (hs.2 (l, .mp n au) (by simp))) ex
   have hr:=j7 w g1 g2 g4 q3 q5 b8 false
   simp only [execOp,ho,q1,pQ hks ei,Sem.run_bind,hr,Result.andThen_ok,Sem.run_pure]
   rfl
  ·exact h.elim
 ·exact h.elim
theorem xG (hX:X.Ok) {t:Nat} {x i:Operand} (ho:o.op= .lookup t x i true) (h:vcOp X X.C o s K):∃la,aD X o la∧Sat la s∧K la:=by
 simp only [vcOp,ho] at h
 split at h
 ·rename_i n' l hmp hx
  split at h
  ·rename_i n au key hl hks
   obtain ⟨⟨rfl,b8⟩,hK⟩:=h
   obtain ⟨k,e,g1,g2,g4⟩:=lz hX.C hmp
   refine ⟨_,aD.val fun s' E a w hs hE=>⟨.tuple #[.int .i64 (jF au key), .bool (cg au key).isSome], ?_, ?_⟩,⟨aB s _,by simp [hl]⟩,hK⟩
   rotate_left
   ·exact ⟨_,rfl,_,_,rfl,bU _ rfl,_,_,rfl, .sc _ rfl,rfl⟩
   have ex:=hE.evs hs.1 X.C 0 (x:=x) (by simp)
   have ei:=hE.evs hs.1 X.C 0 (x:=i) (by simp)
   rw [hx] at ex
   obtain ⟨b,es,q1,q2,q3,q4,q5⟩:=kD (hE.good.obj l _ (hs.2 (l, .mp n au) (by simp))) ex
   have hr:=j7 w g1 g2 g4 q3 q5 b8 true
   simp only [execOp,ho,q1,pQ hks ei,Sem.run_bind,hr,Result.andThen_ok,Sem.run_pure]
   rfl
  ·exact h.elim
 ·exact h.elim
theorem tO (hX:X.Ok) {t:Nat} {x i y:Operand} (ho:o.op= .mapUpdate t x i y) (h:vcOp X X.C o s K):∃la,aD X o la∧Sat la s∧K la:=by
 simp only [vcOp,ho] at h
 split at h
 ·rename_i n' l v hmp hx hy
  split at h
  ·rename_i n au key hl hks
   obtain ⟨⟨rfl,b8⟩,hK⟩:=h
   obtain ⟨k,e,g1,g2,g4⟩:=lz hX.C hmp
   refine ⟨_,aD.skip rfl fun s' E a w hdn hs hE=> ?_,⟨aB s _,by simp [hl]⟩,hK⟩
   have ex:=hE.evs hs.1 X.C 0 (x:=x) (by simp)
   have ei:=hE.evs hs.1 X.C 0 (x:=i) (by simp)
   have ey:=hE.evs hs.1 X.C 0 (x:=y) (by simp)
   rw [hx] at ex;rw [hy] at ey
   have hl':=hs.2 (l, .mp n au) (by simp)
   obtain ⟨b,es,q1,q2,q3,q4,q5⟩:=kD (hE.good.obj l _ hl') ex
   have h1:=fun em=>g2.qj w em key b8
   have h2:=g2.find w key au es b8 q5
   have fin:∀es':Array MapEntry,(Instr.mapUpdate t (.map (some b)) (kV n key) (.int .i64 v)).run X.P w= .ok () {w with heap:=w.heap.setIfInBounds b (.map es' es'.size)} →iT n (xu au key v) es'→
    ∃w' E',(execOp a.eval o).run X.P w= .ok .skip w'∧bu X E' ((⟨rsOf s [x,i,y], [(l, .mp n au)], [], [(l, .mp n (xu au key v))],o.dst, .fL⟩:LA).app s') (a.put o.dst undef) w':=by
    intro es' hrun Jg
    have jJ:=MapKept.heap_set (o':= .map es' es'.size) q3
    refine ⟨{w with heap:=w.heap.setIfInBounds b (.map es' es'.size)},E,by simp only [execOp,ho,q1,pQ hks ei,bg ey,Sem.run_bind,hrun,Result.andThen_ok,Sem.run_pure], ?_⟩
    exact hE.write hl' rfl q2 q4 (by simp) (fun k hk=>jJ.2 k hk) rfl rfl rfl ⟨b,es',q2,jJ.1,q4,Jg⟩ trivial hdn
   cases hf:cg au key with
   |none=>
    have vj:=(q5.EV b8 hf).put au.length v
    have e1:xu au key v=mO (dn au key) au.length v:=by unfold xu gE;rw [hf]
    rw [← e1] at vj
    have e2:((es.push ⟨kV n key, .int .i64 0,es.size⟩).modify au.length fun e=> {e with val:= .int .i64 v})=es.push ⟨kV n key, .int .i64 v,es.size⟩:=by
     apply Array.ext_getElem?
     intro q
     rw [Array.getElem?_modify]
     split
     ·rename_i hq;subst hq
      rw [← q5.size];simp
     ·rename_i hq
      rw [Array.getElem?_push,Array.getElem?_push,q5.size]
      rw [if_neg (by omega),if_neg (by omega)]
    rw [e2] at vj
    refine fin _ ?_ vj
    simp only [hf,Option.map_none] at h2
    simp only [Instr.mapUpdate,Sem.run_bind,run_underlying g1,Result.andThen_ok,MapKept.run_getObj_map q3,h1,h2,MapKept.run_setObj_map _ q3,Array.size_push]
   |some j=>
    obtain ⟨p,hp,hpk⟩:=gG hf
    have Hs:=q5.EP j p hp
    have vj:=q5.put j v
    have e1:xu au key v=mO au j v:=by unfold xu gE dn;rw [hf]
    rw [← e1] at vj
    have e2:(es.modify j fun e=> {e with key:=kV n key,val:= .int .i64 v})=es.modify j fun e=> {e with val:= .int .i64 v} :=by
     apply Array.ext_getElem?
     intro q
     rw [Array.getElem?_modify,Array.getElem?_modify]
     split
     ·rename_i hjq;subst hjq
      rw [Hs, ← hpk];rfl
     ·rfl
    rw [← e2] at vj
    refine fin _ ?_ vj
    simp only [hf,Option.map_some] at h2
    have hst:=g2.stay w key
    simp only [Instr.mapUpdate,Sem.run_bind,run_underlying g1,Result.andThen_ok,MapKept.run_getObj_map q3,h1,h2,Hs,Option.map_some,Option.getD_some,hpk,hst,MapKept.run_setObj_map _ q3,Array.size_modify]
  ·exact h.elim
 ·exact h.elim
theorem vk (hX:X.Ok) {t:Nat} {x i:Operand} (ho:o.op= .mapEntry t x i) (h:vcOp X X.C o s K):∃la,aD X o la∧Sat la s∧K la:=by
 simp only [vcOp,ho] at h
 split at h
 ·rename_i n' l hmp hx
  split at h
  ·rename_i n au key hl hks
   obtain ⟨⟨rfl,b8⟩,hK⟩:=h
   obtain ⟨k,e,g1,g2,g4⟩:=lz hX.C hmp
   refine ⟨_,aD.mk rfl fun s' E a w hdn hs hE=> ?_,⟨aB s _,by simp [hl]⟩,hK⟩
   have ex:=hE.evs hs.1 X.C 0 (x:=x) (by simp)
   have ei:=hE.evs hs.1 X.C 0 (x:=i) (by simp)
   rw [hx] at ex
   have hl':=hs.2 (l, .mp n au) (by simp)
   obtain ⟨b,es,q1,q2,q3,q4,q5⟩:=kD (hE.good.obj l _ hl') ex
   have h1:=fun em=>g2.qj w em key b8
   have h2:=g2.find w key au es b8 q5
   have fin:∀(es':Array MapEntry) (v':Value),(Instr.mapEntry t (.map (some b)) (kV n key)).run X.P w= .ok v' {w with heap:=w.heap.setIfInBounds b (.map es' es'.size)} →iT n (dn au key) es'→
    v'= .tuple #[.int .i64 (jF au key), .int .i64 (gE au key:Nat)]→∃v' w' E',(execOp a.eval o).run X.P w= .ok (.value v') w'∧
    bu X E' ((⟨rsOf s [x,i], [(l, .mp n au)], [], [(l, .mp n (dn au key))],o.dst, .tup [.d (.sc (.int .i64 (jF au key))), .d (.sc (.int .i64 (gE au key:Nat)))]⟩:LA).app s') (a.put o.dst v') w':=by
    intro es' v' hrun Jg Hl
    refine ⟨v', {w with heap:=w.heap.setIfInBounds b (.map es' es'.size)},E,by simp only [execOp,ho,q1,pQ hks ei,Sem.run_bind,hrun,Result.andThen_ok,Sem.run_pure], ?_⟩
    have jJ:=MapKept.heap_set (o':= .map es' es'.size) q3
    refine hE.write hl' rfl q2 q4 (by simp) (fun k hk=>jJ.2 k hk) rfl rfl rfl ⟨b,es',q2,jJ.1,q4,Jg⟩ ?_ hdn
    rw [Hl]
    exact ⟨_,rfl,_,_,rfl,bU _ rfl,_,_,rfl,bU _ rfl,rfl⟩
   cases hf:cg au key with
   |none=>
    refine fin _ (.tuple #[.int .i64 0, .int .i64 (au.length:Nat)]) ?_ (q5.EV b8 hf) ?_
    rotate_left
    ·simp only [jF,gE,hf]
    ·simp only [hf,Option.map_none] at h2
     simp only [Instr.mapEntry,Sem.run_bind,run_underlying g1,Result.andThen_ok,MapKept.run_getObj_map q3,h1,h2,g4,MapKept.run_setObj_map _ q3,Sem.run_pure,goInt,q5.size,Array.size_push]
   |some j=>
    obtain ⟨p,hp,hpk⟩:=gG hf
    have Hs:=q5.EP j p hp
    refine fin (es.modify j fun e=> {e with key:=kV n key}) (.tuple #[.int .i64 ((au[j]?.map (·.2)).getD 0), .int .i64 (j:Nat)]) ?_ ?_ ?_
    ·simp only [hf,Option.map_some] at h2
     have hst:=g2.stay w key
     simp only [Instr.mapEntry,Sem.run_bind,run_underlying g1,Result.andThen_ok,MapKept.run_getObj_map q3,h1,h2,Hs,Option.map_some,Option.getD_some,hpk,hst,MapKept.run_setObj_map _ q3,Sem.run_pure,goInt,Array.size_modify]
    ·have e1:dn au key=au:=by simp [dn,hf]
     rw [e1]
     have:(es.modify j fun e=> {e with key:=kV n key})=es:=by
      apply Array.ext_getElem?
      intro q
      rw [Array.getElem?_modify]
      split
      ·rename_i hjq;subst hjq
       rw [Hs, ← hpk];rfl
      ·rfl
     rw [this];exact q5
    ·simp only [jF,gE,hf]
  ·exact h.elim
 ·exact h.elim
theorem tP {n:Nat} {au:List (List Int × Int)} {es:Array MapEntry} (h:iT n au es) {i:Nat} (hi:i<au.length):es.findIdx? (fun e=>(e.born:Int)==(i:Int))=some i:=by
 rw [Array.findIdx?_eq_some_iff_getElem]
 have Ht:∀j (hj:j<es.size),es[j].born=j:=by
  intro j hj
  have:=h.EP j _ (List.getElem?_eq_getElem (by rw [← h.size];exact hj))
  rw [Array.getElem?_eq_getElem hj] at this
  simp only [Option.some.injEq] at this
  rw [this]
 refine ⟨by rw [h.size];exact hi, ?_,fun j hj=> ?_⟩
 ·rw [Ht i (by rw [h.size];exact hi)];simp
 ·rw [Ht j (by rw [h.size];omega)]
  have:¬((j:Int)==(i:Int))=true:=by simp;omega
  exact this
theorem sg {t:Nat} {x st y:Operand} (ho:o.op= .entryStore t x st y) (h:vcOp X X.C o s K):∃la,aD X o la∧Sat la s∧K la:=by
 simp only [vcOp,ho] at h
 split at h
 ·rename_i l i v hx hst hy
  split at h
  ·rename_i n au hl
   obtain ⟨⟨h0,hlt⟩,hK⟩:=h
   refine ⟨_,aD.skip rfl fun s' E a w hdn hs hE=> ?_,⟨aB s _,by simp [hl]⟩,hK⟩
   have ex:=hE.evs hs.1 X.C 0 (x:=x) (by simp)
   have es':=hE.evs hs.1 X.C 0 (x:=st) (by simp)
   have ey:=hE.evs hs.1 X.C 0 (x:=y) (by simp)
   rw [hx] at ex;rw [hst] at es';rw [hy] at ey
   have hl':=hs.2 (l, .mp n au) (by simp)
   obtain ⟨b,es,q1,q2,q3,q4,q5⟩:=kD (hE.good.obj l _ hl') ex
   have hf:=tP q5 (i:=i.toNat) (by omega)
   rw [Int.toNat_of_nonneg h0] at hf
   have jJ:=MapKept.heap_set (o':= .map (es.modify i.toNat fun e=> {e with val:= .int .i64 v}) es.size) q3
   refine ⟨{w with heap:=w.heap.setIfInBounds b (.map (es.modify i.toNat fun e=> {e with val:= .int .i64 v}) es.size)},E, ?_, ?_⟩
   ·simp only [execOp,ho,q1,bg es',bg ey,Sem.run_bind,Instr.entryStore,MapKept.run_getObj_map q3,Result.andThen_ok,asInt,asIntOf,Sem.run_pure,hf,MapKept.run_setObj_map _ q3]
   ·refine hE.write hl' rfl q2 q4 (by simp) (fun k hk=>jJ.2 k hk) rfl rfl rfl ⟨b,_,q2, ?_,q4,q5.put i.toNat v⟩ trivial hdn
    simp only [jJ.1,Array.size_modify]
  ·exact h.elim
 ·exact h.elim
end
end Go.Ab
end
section
namespace Go.Ab
theorem gH {X:Ctx} (hX:X.Ok) {o:Oper} {s:ASt} {K:LA→Prop} (h:vcOp X X.C o s K):∃la,aD X o la∧Sat la s∧K la:=by
 cases ho:o.op
 case move x=>exact yH (.inl ho) h
 case assign x=>exact yH (.inr ho) h
 case pick c x y=>exact DP ho h
 case alloc e=>exact BH hX ho h
 case box e x=>exact Fx hX ho h
 case build t ps=>exact Bz hX ho h
 case buildSlice t n ps=>exact r9 hX ho h
 case load t x=>exact DS hX ho h
 case store t x y=>exact BK hX ho h
 case nilCheck x=>exact u6 ho h
 case unOp op t x=>exact DT ho h
 case convert t t' x=>exact xz hX ho h
 case fieldAddr st x f=>exact tF hX ho h
 case indexAddr t x i=>exact tG hX ho h
 case field st x f=>exact BD hX ho h
 case index t x i=>exact BF hX ho h
 case makeSlice t x y=>exact tK hX ho h
 case slice t x lo hi mx=>exact BQ hX ho h
 case extract x i=>exact xy ho h
 case makeMap t r=>
  cases r with
  |none=>exact xF hX ho h
  |some r=>simp only [vcOp,ho] at h
 case lookup t x i c=>
  cases c with
  |false=>exact zZ hX ho h
  |true=>exact xG hX ho h
 case mapUpdate t x i y=>exact tO hX ho h
 case mapEntry t x i=>exact vk hX ho h
 case entryStore t x st y=>exact sg ho h
 case makeFunc fn first captured=>
  cases fn with
  |func f=>exact u7 ho h
  |_=>simp only [vcOp,ho] at h
 case binOp op xt x y yt=>
  have h0:=h
  simp only [vcOp,ho] at h
  split at h
  ·rename_i p q hp hq
   exact Fs ho hp hq h
  ·rename_i p q hp hq
   exact JJ ho hp hq h
  ·rename_i p q hp hq
   exact G1 ho hp hq h
  ·split at h
   ·exact ER (.inl ⟨rfl,rfl⟩) hX ho h
   ·exact ER (.inr ⟨rfl,rfl⟩) hX ho h
   ·exact h.elim
 case call c=>
  simp only [vcOp,ho] at h
  split at h
  ·rename_i b hc
   have h0:=h
   unfold vcBuiltin at h
   split at h
   ·rename_i x t ha ht
    rw [ha,ht] at h0
    exact Fv hX ho hc ha ht h0
   ·rename_i x t ha ht
    rw [ha,ht] at h0
    exact Fw hX ho hc ha ht h0
   ·rename_i x y t t' ha ht
    rw [ha,ht] at h0
    exact zW hX ho hc ha ht h0
   ·rename_i x y ts ha
    rw [ha] at h0
    exact sH (.inl rfl) ho hc ha h0
   ·rename_i x y ts ha
    rw [ha] at h0
    exact sH (.inr rfl) ho hc ha h0
   ·exact h.elim
  ·exact h.run
  ·exact h.elim
 all_goals (simp only [vcOp,ho] at h)
def gslot (l:List Oper) (j:Nat):Option Nat:=match l[j]? with|some o=>o.dst|none=>none
def cC (X:Ctx) (C:Cfg) (l:List Oper):List Oper→ASt→(ASt→Prop)→Prop
 | [],s,K=>K s
 |o::rest,s,K=>match o.guard with
  |none=>vcOp X C o s fun la=>cC X C l rest (la.app s) K
  |some (j,want)=>match gslot l j with
   |none=>False
   |some g=>match get s.t g with
    | .d (.sc (.bool b))=>
      (b=want→vcOp X C o (s.put (some g) (.d (.sc (.bool want)))) fun la=>cC X C l rest (la.app (s.put (some g) (.d (.sc (.bool want))))) K)∧
      (b=(!want)→cC X C l rest ((s.put (some g) (.d (.sc (.bool (!want))))).put o.dst (.tup [])) K)
    | .tup []=>cC X C l rest (s.put o.dst (.tup [])) K
    |_=>False
theorem Oper.qk {P:Program} {o:Oper} {a:Act} {w:World} {K K':Act→World→Prop} {Q:Exit→Act→World→Prop} (h:∀a w,K a w→K' a w) (hh:o.wp P a w K GZ):o.wp P a w K' Q:=by
 unfold Oper.wp at*
 generalize (execOp a.eval o).run P w=r at*
 cases r with
 |ok n w'=>
  cases n<;>simp only [Oper.upon] at hh ⊢ <;>
   first
    |exact h _ _ hh
    |exact Calls.mono hh (fun e w'' he=>by
      cases e
      ·exact h _ _ he
      ·exact he.elim
      ·obtain ⟨a0,w0,h0⟩:=he;exact h0.elim)
    |exact Rows.mono hh (fun _ _ he=>h _ _ he)
 |halt x w'=>cases x<;>simp only [Oper.upon,GZ] at hh
theorem bu.put {X:Ctx} {E:Env} {s:ASt} {a:Act} {w:World} (h:bu X E s a w) {g:Nat} {v:AV} (hv:bT w E v (a.tmps.getD g undef)):bu X E (s.put (some g) v) a w:=
 ⟨h.defers,h.size,h.good,h.kg,h.mine,fun k=>by
   simp only [ASt.put,get]
   split
   ·rename_i hk;subst hk;exact hv
   ·exact h.slot k⟩
theorem bu.fL {X:Ctx} {E:Env} {s:ASt} {a:Act} {w:World} (h:bu X E s a w) (dst:Option Nat) (u:Value):bu X E (s.put dst .fL) (a.put dst u) w:=by
 cases dst with
 |none=>exact h
 |some d=>
  refine ⟨h.defers,by simp [Act.put,h.size],h.good,h.kg,h.mine,fun k=> ?_⟩
  simp only [ASt.put,get,Act.put]
  split
  ·trivial
  ·rename_i hk
   have:(a.tmps.setIfInBounds d u).getD k undef=a.tmps.getD k undef:=by
    simp only [Array.getD_eq_getD_getElem?,Array.getElem?_setIfInBounds_ne hk]
   rw [this];exact h.slot k
theorem bu.Jh {X:Ctx} {E:Env} {s:ASt} {a:Act} {w:World} (h:bu X E s a w) (dst:Option Nat):bu X E (s.put dst (.tup [])) (a.put dst undef) w:=by
 cases dst with
 |none=>exact h
 |some d=>
  refine ⟨h.defers,by simp [Act.put,h.size],h.good,h.kg,h.mine,fun k=> ?_⟩
  simp only [ASt.put,get,Act.put]
  split
  ·rename_i hk
   subst hk
   have:(a.tmps.setIfInBounds d undef).getD d undef=undef:=by
    simp only [Array.getD_eq_getD_getElem?,Array.getElem?_setIfInBounds]
    split
    ·split<;>rfl
    ·rename_i hne;exact absurd trivial hne
   rw [this]
   exact ⟨[],rfl,rfl⟩
  ·rename_i hk
   have:(a.tmps.setIfInBounds d undef).getD k undef=a.tmps.getD k undef:=by
    simp only [Array.getD_eq_getD_getElem?,Array.getElem?_setIfInBounds_ne hk]
   rw [this];exact h.slot k
theorem o5 {X:Ctx} {E:Env} {s:ASt} {a:Act} {w:World} (h:bu X E s a w) {l:List Oper} {j g:Nat} (hg:gslot l j=some g) (hb:get s.t g= .tup []):
 yielded l.toArray a.tmps j=none:=by
 have hv:=h.slot g
 rw [hb] at hv
 obtain ⟨us,hv,h2⟩:=hv
 have h2:us= []:=h2
 subst h2
 unfold gslot at hg
 split at hg
 ·rename_i o ho
  unfold yielded
  have hq:a.tmps[g]? =none∨a.tmps[g]? =some (.tuple #[]):=by
   rw [Array.getD_eq_getD_getElem?] at hv
   cases hq:a.tmps[g]? with
   |none=>exact .inl rfl
   |some v=>rw [hq] at hv;simp at hv;rw [hv];exact .inr rfl
  rcases hq with hq|hq<;>simp [ho,hg,hq]
 ·cases hg
theorem ql {X:Ctx} {E:Env} {s:ASt} {a:Act} {w:World} (h:bu X E s a w) {l:List Oper} {j g:Nat} {b:Bool} (hg:gslot l j=some g) (hb:get s.t g= .d (.sc (.bool b))):
 yielded l.toArray a.tmps j=some b∧a.tmps.getD g undef= .bool b:=by
 have hv:=h.slot g
 rw [hb] at hv
 have hv:=cU hv
 refine ⟨?_,hv⟩
 unfold gslot at hg
 split at hg
 ·rename_i o ho
  unfold yielded
  have:a.tmps[g]? =some (.bool b):=by
   rw [Array.getD_eq_getD_getElem?] at hv
   cases hq:a.tmps[g]? with
   |none=>rw [hq] at hv;simp [undef] at hv
   |some v=>rw [hq] at hv;simp at hv;rw [hv]
  simp [ho,hg,this]
 ·cases hg
theorem o6 {X:Ctx} (hX:X.Ok) {l:List Oper} {Q:Exit→Act→World→Prop} {K:ASt→Prop} (hK:∀s a w,K s→Rel X s a w→Q .normal a w):
 ∀(r:List Oper) (s:ASt),(∀o∈r,∀d,o.dst=some d→d<X.n)→cC X X.C l r s K→∀a w,Rel X s a w→wpList X.P l.toArray Q r a w
 | [],s,_,h,a,w,hr=>hK s a w h hr
 |o::r,s,hd,h,a,w,hr=>by
  have ih:=o6 hX (l:=l) hK r
  have hd':∀o∈r,∀d,o.dst=some d→d<X.n:=fun o ho=>hd o (by simp [ho])
  have run:∀s,Rel X s a w→(vcOp X X.C o s fun la=>cC X X.C l r (la.app s) K)→o.wp X.P a w (wpList X.P l.toArray Q r) Q:=by
   intro s hr h
   obtain ⟨la,⟨_,h1⟩,h2,h3⟩:=gH hX h
   exact Oper.qk (fun a' w' hr'=>ih (la.app s) hd' h3 a' w' hr') (h1 s a w (hd o (by simp)) h2 hr)
  unfold wpList
  unfold cC at h
  cases hgd:o.guard with
  |none=>
   simp only [hgd] at h
   rw [if_pos (by simp [Region.wanted,hgd])]
   exact .inl (run s hr h)
  |some p=>
   obtain ⟨j,want⟩:=p
   simp only [hgd] at h
   split at h
   ·exact h.elim
   ·rename_i g hg
    split at h
    ·rename_i b hb
     obtain ⟨E,hE⟩:=hr
     obtain ⟨hy,hv⟩:=ql hE hg hb
     by_cases Hu:b=want
     ·subst Hu
      rw [if_pos (by simp [Region.wanted,hgd,hy])]
      exact .inl (run _ ⟨E,hE.put (by rw [hv];exact bU _ rfl)⟩ (h.1 rfl))
     ·have GL:b= !want:=by cases b<;>cases want<;>simp_all
      rw [if_neg (by simp [Region.wanted,hgd,hy,Hu])]
      exact ih _ hd' (h.2 GL) _ _ ⟨E,(hE.put (by rw [hv,GL];exact bU _ rfl)).Jh o.dst⟩
    ·rename_i hb
     obtain ⟨E,hE⟩:=hr
     have hy:=o5 hE hg hb
     rw [if_neg (by simp [Region.wanted,hgd,hy])]
     exact ih _ hd' h _ _ ⟨E,hE.Jh o.dst⟩
    ·exact h.elim
def Ji (n:Nat):List Oper→Bool
 | []=>true
 |o::r=>(match o.dst with|some d=>decide (d<n)|none=>true)&&Ji n r
theorem mU {n:Nat} :∀ {l:List Oper},Ji n l=true→∀o∈l,∀d,o.dst=some d→d<n
 | [],_,o,ho,_,_=>by cases ho
 |q::r,h,o,ho,d,hd=>by
  simp only [Ji,Bool.and_eq_true] at h
  rcases List.mem_cons.1 ho with rfl|ho
  ·have:=h.1;rw [hd] at this;simpa using this
  ·exact mU h.2 o ho d hd
def uV (n:Nat):Code→Bool
 | .region _ ops _=>Ji n ops.toList
 | .seq x y=>uV n x&&uV n y
 | .cond _ x y=>uV n x&&uV n y
 | .block _ x=>uV n x
 | .loop x=>uV n x
 | .skip=>true
 | .exit _=>true
 | .ret=>true
 |_=>false
def lift (X:Ctx) (Q:Exit→ASt→Prop):Exit→Act→World→Prop:=fun e a w=>∃s,Q e s∧Rel X s a w
structure cD (X:Ctx) (c:Code) (Q:Exit→ASt→Prop) (s:ASt):Prop where
 run:uV X.n c=true→∀a w,Rel X s a w→c.wp X.P (lift X Q) a w
def athen (K:ASt→Prop) (Q:Exit→ASt→Prop):Exit→ASt→Prop
 | .normal,s=>K s
 |e,s=>Q e s
def ablock (id:Nat) (Q:Exit→ASt→Prop):Exit→ASt→Prop
 | .exit id',s=>if id'=id then Q .normal s else Q (.exit id') s
 |e,s=>Q e s
section
variable {X:Ctx} {Q:Exit→ASt→Prop} {s:ASt}
theorem qm (hX:X.Ok) {id:Nat} {l:List Oper} (h:cC X X.C l l s (fun s'=>Q .normal s')):cD X (.region id l.toArray false) Q s:=by
 refine ⟨fun hc a w hr=> ?_⟩
 refine wp_region_list ?_
 exact o6 hX (K:=fun s'=>Q .normal s') (Q:=lift X Q) (fun s a w hs hr=>⟨s,hs,hr⟩) l s (mU (by simpa [uV] using hc)) h a w hr
theorem BS {c:Code} {Q':Exit→ASt→Prop} (h:cD X c Q s) (hq:∀e s,Q e s→Q' e s):cD X c Q' s:=
 ⟨fun hc a w hr=>wp_mono (h.run hc a w hr) fun e a w ⟨s,h1,h2⟩=>⟨s,hq e s h1,h2⟩⟩
theorem wG {x y:Code} (h:cD X x (athen (fun s'=>cD X y Q s') Q) s):cD X (.seq x y) Q s:=by
 refine ⟨fun hc a w hr=> ?_⟩
 simp only [uV,Bool.and_eq_true] at hc
 refine wp_seq (wp_mono (h.run hc.1 a w hr) ?_)
 rintro e a w ⟨s,h1,h2⟩
 cases e<;>first|exact h1.run hc.2 a w h2|exact ⟨s,h1,h2⟩
theorem wI (h:Q .normal s):cD X .skip Q s:=⟨fun _ a w hr=>wp_skip ⟨s,h,hr⟩⟩
theorem wJ {id:Nat} (h:Q (.exit id) s):cD X (.exit id) Q s:=⟨fun _ a w hr=>wp_exit ⟨s,h,hr⟩⟩
theorem wK (h:Q .ret s):cD X .ret Q s:=⟨fun _ a w hr=>wp_ret ⟨s,h,hr⟩⟩
theorem wM {c:Nat} {x y:Code} {b:Bool} (hc:get s.t c= .d (.sc (.bool b))) (h1:b=true→cD X x Q s) (h2:b=false→cD X y Q s):cD X (.cond (.tmp c) x y) Q s:=by
 refine ⟨fun hk a w ⟨E,hE⟩=> ?_⟩
 simp only [uV,Bool.and_eq_true] at hk
 have hv:=hE.slot c
 rw [hc] at hv
 have hv:=cU hv
 cases b with
 |true=>exact wp_cond_true (by simpa [Act.eval] using hv) ((h1 rfl).run hk.1 a w ⟨E,hE⟩)
 |false=>exact wp_cond_false (by simpa [Act.eval] using hv) ((h2 rfl).run hk.2 a w ⟨E,hE⟩)
theorem wL {c:Nat} {x y:Code} {p:Prop} (hc:get s.t c= .fu p) (h1:p→cD X x Q s) (h2:cD X y Q s):cD X (.cond (.tmp c) x y) Q s:=by
 refine ⟨fun hk a w ⟨E,hE⟩=> ?_⟩
 simp only [uV,Bool.and_eq_true] at hk
 have hv:=hE.slot c
 rw [hc] at hv
 obtain ⟨b,hv,hp⟩:=hv
 cases b with
 |true=>exact wp_cond_true (by simpa [Act.eval] using hv) ((h1 (hp rfl)).run hk.1 a w ⟨E,hE⟩)
 |false=>exact wp_cond_false (by simpa [Act.eval] using hv) (h2.run hk.2 a w ⟨E,hE⟩)
theorem wH {id:Nat} {x:Code} (h:cD X x (ablock id Q) s):cD X (.block id x) Q s:=by
 refine ⟨fun hk a w hr=> ?_⟩
 refine wp_block (wp_mono (h.run hk a w hr) ?_)
 rintro e a w ⟨s,h1,h2⟩
 cases e with
 |exit id'=>
  simp only [Exit.inBlock,ablock] at h1 ⊢
  split
  ·rename_i hid;simp only [hid,if_true] at h1;exact ⟨s,h1,h2⟩
  ·rename_i hid;simp only [hid,if_false] at h1;exact ⟨s,h1,h2⟩
 |_=>exact ⟨s,h1,h2⟩
structure Le (s s':ASt):Prop where
 t:∀k,get s'.t k= .fL∨get s.t k=get s'.t k
 m:∀l o,look s'.m l=some o→look s.m l=some o
theorem Le.bz {s s':ASt} (h:Le s s') {l:Nat} {o:AObj} (hl:bz s'.m l=some o):bz s.m l=some o:=by
 unfold Ab.bz at hl ⊢
 split at hl
 ·exact h.m l o hl
 ·rename_i b i _
  cases hq:look s'.m b with
  |none=>rw [hq] at hl;simp [inner] at hl
  |some q=>rw [h.m b q hq];rw [hq] at hl;exact hl
theorem Rel.le {s s':ASt} (h:Le s s') {a:Act} {w:World} (hr:Rel X s a w):Rel X s' a w:=by
 obtain ⟨E,hE⟩:=hr
 refine ⟨E,hE.defers,hE.size,⟨fun l hl=> ?_,fun l l' b hl hl'=> ?_,fun l o hl=>hE.good.ir l o (h.bz hl),hE.good.fresh⟩,hE.kg,fun l o b hl=>hE.mine l o b (h.bz hl),fun k=> ?_⟩
 ·obtain ⟨o,ho⟩:=Option.ne_none_iff_exists'.1 hl
  exact hE.good.low l (by simp [h.m l o ho])
 ·obtain ⟨o,ho⟩:=Option.ne_none_iff_exists'.1 hl
  obtain ⟨o',ho'⟩:=Option.ne_none_iff_exists'.1 hl'
  exact hE.good.inj l l' b (by simp [h.bz ho]) (by simp [h.bz ho'])
 ·rcases h.t k with hk|hk
  ·rw [hk];trivial
  ·rw [← hk];exact hE.slot k
theorem BT {x:Code} {ι:Type} (I:ι→ASt) (μ:ι→Nat) (i0:ι) (h0:Le s (I i0)) (h:∀i,cD X x (athen (fun s'=>∃j,Le s' (I j)∧μ j<μ i) Q) (I i)):cD X (.loop x) Q s:=by
 refine ⟨fun hk a w hr=> ?_⟩
 simp only [uV] at hk
 intro b k cs
 have key:∀(n:Nat) (i:ι) (a:Act) (w:World),μ i=n→Rel X (I i) a w→
  ∃e a' w',lift X Q e a' w'∧Arrives X.P (lone (b.at a (.code x:: .inLoop x::k)) cs w) b k cs e a' w':=by
  intro n
  induction n using Nat.strongRecOn with
  |_ n ih=>
   intro i a w hn hI
   obtain ⟨e,a₁,w₁,⟨s1,hq,sK⟩,vl⟩:=(h i).run hk a w hI b (.inLoop x::k) cs
   cases e with
   |normal=>
    obtain ⟨j,hj,hlt⟩:=hq
    obtain ⟨e₂,a₂,w₂,M7,Hv⟩:=ih (μ j) (hn ▸ hlt) j a₁ w₁ rfl (sK.le hj)
    exact ⟨e₂,a₂,w₂,M7, .of_steps (Steps.trans vl (.one step_inLoop)) Hv⟩
   |exit id=>exact ⟨_,a₁,w₁,⟨s1,hq,sK⟩, .pass (x:= .inLoop x) rfl (fun _ _=> .inl (by simp)) vl⟩
   |goto l=>exact ⟨_,a₁,w₁,⟨s1,hq,sK⟩, .pass (x:= .inLoop x) rfl (fun _ _=> .inl (by simp)) vl⟩
   |ret=>exact ⟨_,a₁,w₁,⟨s1,hq,sK⟩, .pass (x:= .inLoop x) rfl (fun _ _=> .inl (by simp)) vl⟩
   |panic ch=>exact ⟨_,a₁,w₁,⟨s1,hq,sK⟩, .pass (x:= .inLoop x) rfl (fun _ _=> .inl (by simp)) vl⟩
   |outgrown=>exact ⟨_,a₁,w₁,⟨s1,hq,sK⟩, .pass (x:= .inLoop x) rfl (fun _ _=> .inl (by simp)) vl⟩
 obtain ⟨e,a',w',hq,vl⟩:=key _ i0 a w rfl (hr.le h0)
 exact ⟨e,a',w',hq, .of_steps (.one step_loop) vl⟩
end
end Go.Ab
end
section
namespace Go.Ab
mutual
def AV.ren (π:Nat→Nat):AV→AV
 | .ref l=> .ref (π l)
 | .ptr l o=> .ptr (π l) o
 | .ep l sz i o=> .ep (π l) sz i o
 | .agg vs=> .agg (AV.rens π vs)
 | .tup vs=> .tup (AV.rens π vs)
 | .fn f us vs=> .fn f (AV.rens π us) (AV.rens π vs)
 | .fL=> .fL
 | .nil e=> .nil e
 | .d x=> .d x
 | .fu p=> .fu p
 | .mref l=> .mref (π l)
 | .emp e=> .emp e
def AV.rens (π:Nat→Nat):List AV→List AV
 | []=> []
 |a::as=>AV.ren π a::AV.rens π as
end
def AObj.ren (π:Nat→Nat):AObj→AObj
 | .box cells=> .box (AV.rens π cells)
 | .rob cells=> .rob (AV.rens π cells)
 | .own e sz rows=> .own e sz rows
 | .tip e sz rows=> .tip e sz rows
 | .mp n au=> .mp n au
 | .part e sz rows=> .part e sz rows
 | .nest e' e sz rows h=> .nest e' e sz rows h
 | .nils e' e sz n=> .nils e' e sz n
 | .orh e rows i g=> .orh e rows i (g.map π)
def Env.pre (E:Env) (π:Nat→Nat):Env:=⟨fun l=>E.ρ (π l),fun l=>E.σ (π l),E.z⟩
mutual
theorem pR {w:World} {E:Env} {π:Nat→Nat} :∀ {a:AV} {v:Value},bT w (E.pre π) a v↔bT w E (a.ren π) v
 | .fL,_=>Iff.rfl
 | .nil _,_=>Iff.rfl
 | .emp _,_=>Iff.rfl
 | .d _,_=>Iff.rfl
 | .fu _,_=>Iff.rfl
 | .mref _,_=>Iff.rfl
 | .ref _,_=>Iff.rfl
 | .ptr _ _,_=>Iff.rfl
 | .ep _ _ _ _,_=>Iff.rfl
 | .agg vs,v=>⟨fun ⟨us,h1,h2⟩=>⟨us,h1,bY.1 h2⟩,fun ⟨us,h1,h2⟩=>⟨us,h1,bY.2 h2⟩⟩
 | .tup vs,v=>⟨fun ⟨us,h1,h2⟩=>⟨us,h1,bY.1 h2⟩,fun ⟨us,h1,h2⟩=>⟨us,h1,bY.2 h2⟩⟩
 | .fn f as bs,v=>⟨fun ⟨us,vs,h1,h2,h3⟩=>⟨us,vs,h1,bY.1 h2,bY.1 h3⟩,fun ⟨us,vs,h1,h2,h3⟩=>⟨us,vs,h1,bY.2 h2,bY.2 h3⟩⟩
theorem bY {w:World} {E:Env} {π:Nat→Nat} :∀ {as:List AV} {us:List Value},AVrs w (E.pre π) as us↔AVrs w E (AV.rens π as) us
 | [],_=>Iff.rfl
 |a::as,us=>⟨fun ⟨u,us',h1,h2,h3⟩=>⟨u,us',h1,pR.1 h2,bY.1 h3⟩,fun ⟨u,us',h1,h2,h3⟩=>⟨u,us',h1,pR.2 h2,bY.2 h3⟩⟩
end
theorem mV {w:World} {E:Env} {π:Nat→Nat} {l:Nat} {o:AObj} (hn:o.isNest=false):aX w (E.pre π) l o↔aX w E (π l) (o.ren π):=by
 cases o with
 |box cells=>exact ⟨fun ⟨b,vs,e,h1,h2,h3,h4,h5⟩=>⟨b,vs,e,h1,h2,h3,bY.1 h4,h5⟩,fun ⟨b,vs,e,h1,h2,h3,h4,h5⟩=>⟨b,vs,e,h1,h2,h3,bY.2 h4,h5⟩⟩
 |rob cells=>exact ⟨fun ⟨b,vs,e,h1,h2,h3,h4,h5⟩=>⟨b,vs,e,h1,h2,h3,bY.1 h4,h5⟩,fun ⟨b,vs,e,h1,h2,h3,h4,h5⟩=>⟨b,vs,e,h1,h2,h3,bY.2 h4,h5⟩⟩
 |own e sz rows=>exact Iff.rfl
 |tip e sz rows=>exact Iff.rfl
 |mp n au=>exact Iff.rfl
 |part e sz rows=>exact Iff.rfl
 |nils e' e sz n=>exact Iff.rfl
 |orh e rows i g=>
  cases g with
  |none=>exact ⟨fun ⟨k1,k2,b,cur,cap,h1,h2,h3,h4,h5,h6,h7,h8,_⟩=>⟨k1,k2,b,cur,cap,h1,h2,h3,h4,h5,h6,h7,h8,fun _ e=>by cases e⟩,fun ⟨k1,k2,b,cur,cap,h1,h2,h3,h4,h5,h6,h7,h8,_⟩=>⟨k1,k2,b,cur,cap,h1,h2,h3,h4,h5,h6,h7,h8,fun _ e=>by cases e⟩⟩
  |some g=>exact ⟨fun ⟨k1,k2,b,cur,cap,h1,h2,h3,h4,h5,h6,h7,h8,h9⟩=>⟨k1,k2,b,cur,cap,h1,h2,h3,h4,h5,h6,h7,h8,fun _ e=>by cases e;exact h9 g rfl⟩,fun ⟨k1,k2,b,cur,cap,h1,h2,h3,h4,h5,h6,h7,h8,h9⟩=>⟨k1,k2,b,cur,cap,h1,h2,h3,h4,h5,h6,h7,h8,fun _ e=>by cases e;exact h9 (π g) rfl⟩⟩
 |nest e' e sz rows h=>simp [AObj.isNest] at hn
theorem AObj.BU (π:Nat→Nat) (o:AObj):(o.ren π).ro=o.ro:=by cases o<;>rfl
theorem aX.congr {w:World} {E E':Env} {live:Nat→Prop} (hz:E'.z=E.z) (hρ:∀l,live l→E'.ρ l=E.ρ l) (hσ:∀l,live l→E'.σ l=E.σ l) {l:Nat} {o:AObj} (hn:o.isNest=false) (hl:live l) (hi:∀k∈o.ids,live k) (h:aX w E l o):aX w E' l o:=by
 have hk:p7 w E w E' live:=⟨by rw [hz];exact aH.refl _ _,hρ,hσ⟩
 cases o with
 |box cells=>
  obtain ⟨b,vs,e,h1,h2,h3,h4,h5⟩:=h
  exact ⟨b,vs,e,by rw [hρ l hl];exact h1,h2,by rw [hz];exact h3,AVrs.mono hk hi h4,h5⟩
 |rob cells=>
  obtain ⟨b,vs,e,h1,h2,h3,h4,h5⟩:=h
  exact ⟨b,vs,e,by rw [hρ l hl];exact h1,h2,by rw [hz];exact h3,AVrs.mono hk hi h4,h5⟩
 |own e sz rows=>simp only [aX] at h ⊢;rw [hρ l hl,hσ l hl,hz];exact h
 |tip e sz rows=>simp only [aX] at h ⊢;rw [hρ l hl,hσ l hl,hz];exact h
 |mp n au=>simp only [aX] at h ⊢;rw [hρ l hl,hz];exact h
 |part e sz rows=>simp only [aX] at h ⊢;rw [hρ l hl,hσ l hl,hz];exact h
 |nils e' e sz n=>simp only [aX] at h ⊢;rw [hρ l hl,hσ l hl,hz];exact h
 |orh e rows i g=>
  obtain ⟨k1,k2,b,cur,cap,h1,h2,h3,h4,h5,h6,h7,h8,h9⟩:=h
  refine ⟨k1,k2,b,cur,cap,by rw [hρ l hl];exact h1,h2,by rw [hσ l hl];exact h3,h4,h5,h6,by rw [hz];exact h7,by rw [hz];exact h8,fun g' e=> ?_⟩
  subst e
  rw [hσ g' (hi g' (by simp [AObj.ids]))]
  exact h9 g' rfl
 |nest e' e sz rows h=>simp [AObj.isNest] at hn
theorem AObj.qn (π:Nat→Nat) (o:AObj):(o.ren π).isNest=o.isNest:=by cases o<;>rfl
mutual
theorem AV.kE:∀a:AV,a.ren id=a
 | .fL=>rfl
 | .nil _=>rfl
 | .emp _=>rfl
 | .d _=>rfl
 | .ref _=>rfl
 | .ptr _ _=>rfl
 | .ep _ _ _ _=>rfl
 | .fu _=>rfl
 | .mref _=>rfl
 | .agg vs=>by simp only [AV.ren,AV.lB vs]
 | .tup vs=>by simp only [AV.ren,AV.lB vs]
 | .fn f us vs=>by simp only [AV.ren,AV.lB us,AV.lB vs]
theorem AV.lB:∀as:List AV,AV.rens id as=as
 | []=>rfl
 |a::as=>by simp only [AV.rens,AV.kE a,AV.lB as]
end
theorem AObj.kE (o:AObj):o.ren id=o:=by cases o<;>simp [AObj.ren,AV.lB]
def asN:List (Nat × Nat)→Nat→Nat
 | [],l=>l
 |(i,j)::r,l=>if i=l then j else asN r l
def renA (rn:List (Nat × Nat)) (a:AV):AV:=match rn with| []=>a|_=>a.ren (asN rn)
def renO (rn:List (Nat × Nat)) (o:AObj):AObj:=match rn with| []=>o|_=>o.ren (asN rn)
theorem yS:asN []=id:=rfl
theorem D6 (rn:List (Nat × Nat)) (a:AV):renA rn a=a.ren (asN rn):=by
 cases rn with
 |nil=>rw [yS,AV.kE];rfl
 |cons=>rfl
theorem D7 (rn:List (Nat × Nat)) (o:AObj):renO rn o=o.ren (asN rn):=by
 cases rn with
 |nil=>rw [yS,AObj.kE];rfl
 |cons=>rfl
def D8 (P:Program) (f:Nat):Prop:=∃fn c,P.funcs[f]? =some fn∧(fn.name== "runtime.NumGoroutine")=false∧fn.body=some c
def Post (m:List (Nat × AObj)) (E:Env) (w:World) (res:AV) (m':List (Nat × AObj)):Ending→World→Prop:=fun e w'=>∃v E',e= .returned v∧DM m E w E' w'∧Good m' E' w'∧
 (∀l o b,bz m' l=some o→o.ro=false→E'.ρ l=some b→w.heap.size≤b∨Dy m E b)∧bT w' E' res v
structure Spec (P:Program) (f:Nat) (A:Env→World→List Value→Prop) (m:List (Nat × AObj)) (res:AV) (m':List (Nat × AObj)):Prop where
 can:D8 P f
 calls:∀E w vals,Good m E w→A E w vals→Calls P f vals.toArray w (Post m E w res m')
def Args (as:List AV):Env→World→List Value→Prop:=fun E w vals=>AVrs w E as vals
def cvtD (s:ASt) (a:AV) (x:D):Prop:=
 match a with
 | .ref l=>match look s.m l with|some (.tip _ sz rows)=>x= .sl sz rows|_=>False
 | .nil _=>match x with| .sl _ rows=>rows= []|_=>False
 | .emp _=>match x with| .sl _ rows=>rows= []|_=>False
 | .d y=>y=x
 |_=>False
def allSome:List (Option D)→Option (List D)
 | []=>some []
 |some x::r=>match allSome r with|some xs=>some (x::xs)|none=>none
 |none::_=>none
def rdX (C:Cfg) (bad:Nat→Bool) (iu:Bool) (m:List (Nat × AObj)):Nat→AV→Option D
 |_, .d x=>some x
 |_, .nil e=>some (.sl (C.sz e) [])
 |_, .emp e=>some (.sl (C.sz e) [])
 |_, .ref l=>match look m l with
  |some (.tip _ sz rows)=>some (.sl sz rows)
  |some (.own _ sz rows)=>if bad l=true then none else some (.sl sz rows)
  |some (.part _ sz rows)=>if bad l=true then none else some (.sl sz rows)
  |some (.nest _ _ sz rows none)=>if bad l=true then none else some (.sl 1 (rows.map fun r=> [.sl sz r]))
  |some (.nils _ _ sz n)=>if bad l=true then none else some (.sl 1 (List.replicate n [.sl sz []]))
  |_=>none
 |n+1, .ptr l o=>match look m l with
  |some (.box cells)=>if bad l=true then none else match allSome (cells.map fun a=>rdX C bad iu m n a) with|some ds=>if o≤ds.length then some (.pt (ds.drop o)) else none|none=>none
  |some (.rob cells)=>if iu=true then match allSome (cells.map fun a=>rdX C bad iu m n a) with|some ds=>if o≤ds.length then some (.pt (ds.drop o)) else none|none=>none else none
  |_=>none
 |_,_=>none
mutual
def cvt (rd:AV→D→Prop) (a:AV):AV→Prop
 | .fL=>True
 | .d x=>rd a x
 | .agg bs=>match a with| .agg as=>cvts rd as bs|_=>False
 | .tup bs=>match a with| .tup as=>cvts rd as bs|_=>False
 | .nil e=>a= .nil e
 | .ref l=>a= .ref l
 | .ptr l o=>a= .ptr l o
 | .ep l sz i o=>a= .ep l sz i o
 | .fn f us vs=>a= .fn f us vs
 | .fu p=>a= .fu p
 | .mref l=>a= .mref l
 | .emp e=>a= .emp e∨a= .nil e
def cvts (rd:AV→D→Prop) (as:List AV):List AV→Prop
 | []=>as= []
 |b::bs=>match as with|a::as=>cvt rd a b∧cvts rd as bs| []=>False
end
section
variable {rd:AV→D→Prop} {E E':Env} {w:World}
mutual
theorem yT (hk:p7 w E w E' fun _=>True) (hrd:∀a x v,rd a x→bT w E a v→Rd w E'.z v x):∀ {b a:AV} {v:Value},cvt rd a b→bT w E a v→bT w E' b v
 | .fL,_,_,_,_=>trivial
 | .d x,a,v,h,hr=>by unfold cvt at h;exact hrd a x v h hr
 | .agg bs,a,v,h,hr=>by
   unfold cvt at h
   split at h
   ·obtain ⟨us,rfl,hr⟩:=hr
    exact ⟨us,rfl,iX hk hrd h hr⟩
   ·exact h.elim
 | .tup bs,a,v,h,hr=>by
   unfold cvt at h
   split at h
   ·obtain ⟨us,rfl,hr⟩:=hr
    exact ⟨us,rfl,iX hk hrd h hr⟩
   ·exact h.elim
 | .nil e,a,v,h,hr=>by simp only [cvt] at h;subst h;exact hr
 | .ref l,a,v,h,hr=>by simp only [cvt] at h;subst h;exact bT.mono hk (fun _ _=>trivial) hr
 | .ptr l o,a,v,h,hr=>by simp only [cvt] at h;subst h;exact bT.mono hk (fun _ _=>trivial) hr
 | .ep l sz i o,a,v,h,hr=>by simp only [cvt] at h;subst h;exact bT.mono hk (fun _ _=>trivial) hr
 | .fn f us vs,a,v,h,hr=>by simp only [cvt] at h;subst h;exact bT.mono hk (fun _ _=>trivial) hr
 | .fu p,a,v,h,hr=>by simp only [cvt] at h;subst h;exact hr
 | .mref l,a,v,h,hr=>by simp only [cvt] at h;subst h;exact bT.mono hk (fun _ _=>trivial) hr
 | .emp e,a,v,h,hr=>by
   simp only [cvt] at h
   rcases h with rfl|rfl
   ·exact hr
   ·exact ⟨none,hr⟩
theorem iX (hk:p7 w E w E' fun _=>True) (hrd:∀a x v,rd a x→bT w E a v→Rd w E'.z v x):∀ {bs as:List AV} {vs:List Value},cvts rd as bs→AVrs w E as vs→AVrs w E' bs vs
 | [],as,vs,h,hr=>by simp only [cvts] at h;subst h;exact hr
 |b::bs,as,vs,h,hr=>by
  unfold cvts at h
  split at h
  ·obtain ⟨u,us,rfl,h1,h2⟩:=hr
   exact ⟨u,us,rfl,yT hk hrd h.1 h1,iX hk hrd h.2 h2⟩
  ·exact h.elim
end
end
theorem BW {s:ASt} {E:Env} {w:World} (hm:∀l o,look s.m l=some o→aX w E l o) (a:AV) (x:D) (v:Value) (h:cvtD s a x) (hr:bT w E a v):Rd w E.z v x:=by
 simp only [cvtD] at h
 split at h
 ·split at h
  ·rename_i e sz rows hl
   subst h
   simp only [bT] at hr
   rw [hr.1];exact kz (hm _ _ hl)
  ·exact h.elim
 ·split at h
  ·subst h
   simp only [bT] at hr
   subst hr
   exact .nil _ _
  ·exact h.elim
 ·split at h
  ·subst h
   obtain ⟨p,rfl⟩:=hr
   exact .nil _ _
  ·exact h.elim
 ·subst h;exact hr
 ·exact h.elim
def dg (w:World) (b:Nat):Nat:=match w.heap[b]? with|some (.cells cs _ _)=>cs.size|_=>0
theorem mW:∀ {l:List (Option D)} {ds:List D},allSome l=some ds→l=ds.map some
 | [],ds,h=>by simp [allSome] at h;subst h;rfl
 |none::r,ds,h=>by simp [allSome] at h
 |some x::r,ds,h=>by
  simp only [allSome] at h
  cases hr:allSome r with
  |none=>simp [hr] at h
  |some xs=>
   simp [hr] at h
   subst h
   rw [mW hr];rfl
theorem pS {C:Cfg} {bad:Nat→Bool} {iu:Bool} {m:List (Nat × AObj)} {E:Env} {w:World} {z:Nat→Nat} (hg:Good m E w) (hst:aH w E.z w z)
 (xD:∀l o b,look m l=some o→(o.ro=false∨iu=true)→(o.ro=false→bad l=false)→E.ρ l=some b→dg w b≤z b):∀ {n:Nat} {a:AV} {x:D} {v:Value},rdX C bad iu m n a=some x→bT w E a v→Rd w z v x:=by
 have flat:∀ {a:AV} {x:D} {v:Value} (n:Nat),(∀l o,a≠ .ptr l o)→rdX C bad iu m n a=some x→bT w E a v→Rd w z v x:=by
  intro a x v n hne h hr
  unfold rdX at h
  split at h
  ·cases h;exact Rd.mono hst hr
  ·cases h;simp only [bT] at hr;subst hr;exact .nil _ _
  ·cases h;obtain ⟨p,rfl⟩:=hr;exact .nil _ _
  ·rename_i l
   have hv:=hr.1
   subst hv
   split at h
   ·rename_i e sz rows hl
    cases h
    exact Rd.mono hst (kz (hg.obj _ _ hl))
   ·rename_i e sz rows hl
    split at h
    ·cases h
    ·rename_i hb
     cases h
     obtain ⟨g1,g2,⟨h1,h2,p,h3⟩|⟨b,cur,cap,h1,h2,h3,h4,h5,h6,h7,h8⟩⟩:=hg.obj _ _ hl
     ·rw [h3,h2];exact .nil p sz
     ·have hz:=xD _ _ b hl (.inl rfl) (fun _=>by simpa using hb) h1
      simp only [dg,h2] at hz
      rw [h3]
      have hle:rows.length*sz≤cap*sz:=Nat.mul_le_mul_right sz h4
      refine .sl b 0 rows.length cap sz rows (fun k=>cur.getD k undef) rfl g1 (by omega) h4 (fun k hk=> ?_) (fun i j r x hi hj=> ?_)
      ·have:k<cur.size:=by omega
       simp [World.cell?,h2,Array.getElem?_eq_getElem this]
      ·obtain ⟨v,hv,hx⟩:=h8 i j r x hi hj
       have:cur.getD (i*sz+j) undef=v:=by simp [hv]
       rw [this];exact hx.mono hst
   ·rename_i e sz rows hl
    split at h
    ·cases h
    ·rename_i hb
     cases h
     obtain ⟨g1,g2,⟨h1,h2,p,h3⟩|⟨b,off,cur,cap,h1,h2,h3,h4,h5,h6,h7,h8⟩⟩:=hg.obj _ _ hl
     ·rw [h3,h2];exact .nil p sz
     ·have hz:=xD _ _ b hl (.inl rfl) (fun _=>by simpa using hb) h1
      simp only [dg,h2] at hz
      rw [h3]
      have hle:rows.length*sz≤cap*sz:=Nat.mul_le_mul_right sz h4
      refine .sl b off rows.length cap sz rows (fun k=>cur.getD (off+k) undef) rfl g1 (by omega) h4 (fun k hk=> ?_) (fun i j r x hi hj=> ?_)
      ·have:off+k<cur.size:=by omega
       simp [World.cell?,h2,Array.getElem?_eq_getElem this]
      ·obtain ⟨v,hv,hx⟩:=h8 i j r x hi hj
       have:cur.getD (off+(i*sz+j)) undef=v:=by simp [hv]
       rw [this];exact hx.mono hst
   ·rename_i e' e sz rows hl
    split at h
    ·cases h
    ·rename_i hb
     cases h
     obtain ⟨b,cur,cap,h1,h2,h3,h4,h5,h6,h7,h8⟩:=hg.obj _ _ hl
     have hz:=xD _ _ b hl (.inl rfl) (fun _=>by simpa using hb) h1
     simp only [dg,h2] at hz
     have jG:=hg.low _ (by rw [hl];simp)
     rw [h3]
     refine .sl b 0 _ cap 1 _ (fun k=>cur.getD k undef) (by simp) (by simp) (by omega) h4 (fun k hk=> ?_) (fun i j r x hi hj=> ?_)
     ·have:k<cur.size:=by omega
      simp [World.cell?,h2,Array.getElem?_eq_getElem this]
     ·rw [List.getElem?_map] at hi
      obtain ⟨rr,Je,rfl⟩:=Option.map_eq_some_iff.1 hi
      have hil:i<rows.length:=(List.getElem?_eq_some_iff.1 Je).1
      obtain ⟨c1,c2⟩:=h8 i hil (by simp)
      have hs:bz m (nn l i)=some (.tip e sz rr):=by rw [mc jG,hl];simp [inner,Je]
      cases j with
      |succ j=>simp at hj
      |zero=>
       simp at hj
       subst hj
       have:cur.getD (i*1+0) undef=E.σ (nn l i):=by simp [c1]
       rw [this]
       exact Rd.mono hst (kz (hg.ir _ _ hs))
   ·rename_i e' e sz k hl
    split at h
    ·cases h
    ·rename_i hb
     cases h
     obtain ⟨b,cur,cap,h1,h2,h3,h4,h5,h6,h7,h8,h9⟩:=hg.obj _ _ hl
     have hz:=xD _ _ b hl (.inl rfl) (fun _=>by simpa using hb) h1
     simp only [dg,h2] at hz
     rw [h3]
     refine .sl b 0 k cap 1 _ (fun k=>cur.getD k undef) (by simp) (fun r hr=>by rw [(List.mem_replicate.1 hr).2];rfl) (by omega) h4 (fun j hj=> ?_) (fun i j r x hi hj=> ?_)
     ·have:j<cur.size:=by omega
      simp [World.cell?,h2,Array.getElem?_eq_getElem this]
     ·rw [List.getElem?_replicate] at hi
      split at hi
      ·rename_i hik
       cases hi
       cases j with
       |succ j=>simp at hj
       |zero=>
        simp at hj
        subst hj
        have:cur.getD (i*1+0) undef= .slice none 0 0:=by simp [h9 i hik]
        rw [this]
        exact .nil _ _
      ·cases hi
   ·cases h
  ·exact absurd rfl (hne _ _)
  ·cases h
 intro n
 induction n with
 |zero=>
  intro a x v h hr
  cases a with
  |ptr l o=>simp [rdX] at h
  |_=>exact flat 0 (fun _ _ e=>by cases e) h hr
 |succ n ih=>
  intro a x v h hr
  have key:∀(l o b:Nat) (vs:List Value) (e:Nat) (cells:List AV),E.ρ l=some b→w.heap[b]? =some (.cells vs.toArray e (0,0))→AVrs w E cells vs→dg w b≤z b→v= .pointer (some ⟨b,o,none⟩)→
   (match allSome (cells.map fun a=>rdX C bad iu m n a) with|some ds=>if o≤ds.length then some (D.pt (ds.drop o)) else none|none=>none)=some x→Rd w z v x:=by
   intro l o b vs e cells h1 h2 h3 hz hv h
   cases hs:allSome (cells.map fun a=>rdX C bad iu m n a) with
   |none=>rw [hs] at h;cases h
   |some ds=>
    rw [hs] at h
    simp only at h
    split at h
    ·rename_i ho
     cases h
     subst hv
     have hd:=mW hs
     have hlen:cells.length=ds.length:=by have:=congrArg List.length hd;simpa using this
     have hvl:=h3.length
     simp only [dg,h2,List.size_toArray] at hz
     refine .pt b o _ (fun k=>vs.getD (o+k) undef) (by simp;omega) (fun k hk=> ?_) (fun j x hj=> ?_)
     ·simp only [List.length_drop] at hk
      have:o+k<vs.length:=by omega
      simp [World.cell?,h2,List.getD_eq_getElem?_getD,List.getElem?_eq_getElem this]
     ·rw [List.getElem?_drop] at hj
      have hjl:o+j<cells.length:=by rw [hlen];exact (List.getElem?_eq_some_iff.1 hj).1
      have hrd:rdX C bad iu m n cells[o+j]=some x:=by
       have:=congrArg (·[o+j]?) hd
       simp only [List.getElem?_map,List.getElem?_eq_getElem hjl,Option.map_some,hj,Option.some.injEq] at this
       exact this
      obtain ⟨u,hu,G3⟩:=h3.get (List.getElem?_eq_getElem hjl)
      have:vs.getD (o+j) undef=u:=by rw [List.getD_eq_getElem?_getD,hu];rfl
      rw [this]
      exact ih hrd G3
    ·cases h
  cases a with
  |ptr l o=>
   obtain ⟨b,hb,hv⟩:=hr
   unfold rdX at h
   split at h
   ·rename_i cells hl
    split at h
    ·cases h
    ·rename_i mo
     obtain ⟨b',vs,e,h1,h2,h3,h4,h5⟩:=hg.obj _ _ hl
     rw [h1] at hb;cases hb
     exact key l o b vs e cells h1 h2 h4 (xD _ _ b hl (.inl rfl) (fun _=>by simpa using mo) h1) hv h
   ·rename_i cells hl
    split at h
    ·rename_i hle
     obtain ⟨b',vs,e,h1,h2,h3,h4,h5⟩:=hg.obj _ _ hl
     rw [h1] at hb;cases hb
     exact key l o b vs e cells h1 h2 h4 (xD _ _ b hl (.inr hle) (fun h=>by simp [AObj.ro] at h) h1) hv h
    ·cases h
   ·cases h
  |_=>exact flat _ (fun _ _ e=>by cases e) h hr
inductive RV where
 |t (n:Nat)
 |c (a ty:Nat)
def RV.rv:RV→ResultVar
 | .t n=> .tmp n
 | .c a ty=> .cell a ty
def resK (C:Cfg) (s:ASt) (rs:List RV) (K:List AV→Prop):Prop:=
 match rs with
 | []=>K []
 | .t n::rs=>resK C s rs fun vs=>K (get s.t n::vs)
 | .c a ty::rs=>match get s.t a with
   | .ptr l q=>match look s.m l with
     |some (.box cells)=>vcLoad (C.T ty) cells q fun v=>resK C s rs fun vs=>K (v::vs)
     |_=>False
   |_=>False
def tupOf:List AV→AV
 | [r]=>r
 |rs=> .tup rs
def leR (m:List (Nat × AObj)) (rn:List (Nat × Nat)):List (Nat × AObj)→Prop
 | []=>True
 |(l,o)::r=>look m (asN rn l)=some (renO rn o)∧leR m rn r
def Fin (C:Cfg) (rs:List RV) (rn:List (Nat × Nat)) (res:AV) (m':List (Nat × AObj)) (e:Exit) (s:ASt):Prop:=
 match e with
 | .ret| .normal=>resK C s rs fun vs=>cvt (fun a x=>rdX C (fun l=>m'.any fun p=>asN rn p.1==l) false s.m 4 a=some x) (tupOf vs) (renA rn res)∧leR s.m rn m'
 |_=>False
def params:Nat→List AV→List (Nat × AV)
 |_, []=> []
 |k,a::as=>(k,a)::params (k+1) as
theorem qo:∀(as:List AV) (k i:Nat),get (params k as) (k+i)=(as[i]?).getD .fL
 | [],k,i=>by simp [params,get]
 |a::as,k,0=>by simp [params,get]
 |a::as,k,i+1=>by
  simp only [params,get,List.getElem?_cons_succ]
  rw [if_neg (by omega),show k+(i+1)=k+1+i from by omega]
  exact qo as (k+1) i
def tQ:List Value→Value
 | [r]=>r
 |rs=> .tuple rs.toArray
def qp (tmps:Array Value):ResultVar→Sem Value
 | .tmp t=>pure (tmps.getD t undef)
 | .cell a t=>do loadVar t (← asAddr (tmps.getD a undef))
theorem mq {X:Ctx} (hX:X.Ok) {E:Env} {s:ASt} {a:Act} {w:World} (h:bu X E s a w):∀ {rs:List RV} {K:List AV→Prop},resK X.C s rs K→
 ∃vs us,K vs∧AVrs w E vs us∧((rs.map RV.rv).mapM (qp a.tmps)).run X.P w= .ok us w
 | [],K,hK=>⟨[], [],hK,rfl,by simp⟩
 | .t n::rs,K,hK=>by
   simp only [resK] at hK
   obtain ⟨vs,us,h1,h2,h3⟩:=mq hX h hK
   refine ⟨_,_::us,h1,⟨_,_,rfl,h.slot n,h2⟩, ?_⟩
   rw [List.map_cons,List.mapM_cons]
   simp only [Sem.run_bind,RV.rv,qp,Sem.run_pure,Result.andThen_ok,h3]
 | .c n ty::rs,K,hK=>by
   unfold resK at hK
   split at hK
   ·rename_i l q hg
    split at hK
    ·rename_i cells hl
     obtain ⟨av,hK,hr⟩:=lg (P:=X.P) (t:=ty) (fun ti oW=>hX.C.T ty ti oW) hK
     obtain ⟨vs,us,h1,h2,h3⟩:=mq hX h hK
     obtain ⟨b,cs,g1,g2,g3⟩:=qa (h.good.obj l _ hl)
     have zV:=h.slot n
     rw [hg] at zV
     obtain ⟨b',hb',zV⟩:=zV
     rw [g1] at hb';cases hb'
     obtain ⟨v,hv,u5⟩:=hr w E b 0 cs g2 (fun j u hu=>by rw [Nat.zero_add];exact g3 j u hu)
     rw [Nat.zero_add] at hv
     refine ⟨_,v::us,h1,⟨_,_,rfl,u5,h2⟩, ?_⟩
     have Hl:(loadVar ty ⟨b,q,none⟩).run X.P w= .ok v w:=by simpa [Instr.loadAt,Instr.sureAddr] using hv
     rw [List.map_cons,List.mapM_cons]
     simp only [Sem.run_bind,RV.rv,qp,zV,asAddr,Sem.run_pure,Result.andThen_ok,Hl,h3]
    ·exact hK.elim
   ·exact hK.elim
theorem vm {P:Program} {fn:Func} {rs:List RV} (h:fn.results=(rs.map RV.rv).toArray) {tmps:Array Value} {w:World} {us:List Value} (hr:((rs.map RV.rv).mapM (qp tmps)).run P w= .ok us w):
 (results fn tmps).run P w= .ok (tQ us) w:=by
 have e:results fn tmps=(do
  let vs ← fn.results.mapM (qp tmps)
  pure (if h:vs.size=1 then vs[0] else .tuple vs)):=by
  rfl
 rw [e]
 simp only [h,Array.mapM_eq_mapM_toList,Sem.run_bind,Sem.run_map,hr,Result.andThen_ok,Sem.run_pure]
 match us with
 | []=>simp [tQ]
 | [r]=>simp [tQ]
 |r::q::rs=>simp [tQ]
theorem aW:∀ {m:List (Nat × AObj)} {l:Nat} {o:AObj},look m l=some o→(l,o)∈m
 | [],l,o,h=>by simp [look] at h
 |(i,q)::m,l,o,h=>by
  simp only [look] at h
  split at h
  ·rename_i hi;subst hi;cases h;exact List.mem_cons_self
  ·exact List.mem_cons_of_mem _ (aW h)
theorem gv {m:List (Nat × AObj)} (hm:∀p∈m,p.2.isNest=false) {l:Nat} {o:AObj} (h:bz m l=some o):look m l=some o∧nd l=none:=by
 unfold bz at h
 cases eW:nd l with
 |none=>rw [eW] at h;exact ⟨h,rfl⟩
 |some p=>
  obtain ⟨b,i⟩:=p
  rw [eW] at h
  exfalso
  simp only at h
  cases hq:look m b with
  |none=>rw [hq] at h;simp [inner] at h
  |some q=>
   have:=hm _ (aW hq)
   rw [hq] at h
   cases q<;>simp [inner] at h<;>simp [AObj.isNest] at this
theorem vn {m:List (Nat × AObj)} {rn:List (Nat × Nat)} :∀ {m':List (Nat × AObj)},leR m rn m'→∀ {l o},look m' l=some o→look m (asN rn l)=some (o.ren (asN rn))
 | [],_,l,o,h=>by simp [look] at h
 |(i,q)::m',hr,l,o,h=>by
  simp only [look] at h
  split at h
  ·rename_i hi;subst hi;cases h;rw [← D7];exact hr.1
  ·exact vn hr.2 h
theorem Spec.BX {P:Program} {C:Cfg} {f:Nat} {fn:Func} {c:Code} {n:Nat} {rs:List RV} (rn:List (Nat × Nat)) {A:Env→World→List Value→Prop} {m:List (Nat × AObj)} {res:AV} {m':List (Nat × AObj)}
 (hC:C.Ok P) (hf:P.funcs[f]? =some fn) (hb:fn.body=some c) (hname:(fn.name== "runtime.NumGoroutine")=false) (hn:fn.ntmps=n) (xe:fn.results=(rs.map RV.rv).toArray)
 (tR:∀p∈m,10000≤p.1∧p.2.isNest=false) (hm':∀p∈m',p.1<20000∧p.2.isNest=false) (JY:∀l,look m l≠none→asN rn l=l) (hinj:∀p∈m',∀q∈m',asN rn p.1=asN rn q.1→p.1=q.1) (hk:uV n c=true)
 (h:∀X:Ctx,X.Ok→X.P=P→X.C=C→X.n=n→X.m0=m→∀vals,A X.E0 X.w0 vals→∃args,args.length≤n∧AVrs X.w0 X.E0 args vals∧cD X c (Fin C rs rn res m') ⟨params 0 args,m⟩):Spec P f A m res m':=by
 refine ⟨⟨fn,c,hf,hname,hb⟩,fun E w vals hg hA=> ?_⟩
 have hplain:∀ {l o},bz m l=some o→look m l=some o:=fun hl=>(gv (fun p hp=>(tR p hp).2) hl).1
 have hX:Ctx.Ok ⟨P,C,n,m,E,w⟩:=⟨hC,fun l hl=>by
  obtain ⟨o,ho⟩:=Option.ne_none_iff_exists'.1 hl
  exact (tR _ (aW (hplain ho))).1⟩
 obtain ⟨args,hlen,hargs,hwp⟩:=h ⟨P,C,n,m,E,w⟩ hX rfl rfl rfl rfl vals hA
 have hvl:=hargs.length
 have hsz:(vals.toArray++Array.replicate (fn.ntmps - vals.toArray.size) undef).size=n:=by simp [hn];omega
 refine calls_of_wp hf hb (wp_mono (hwp.run hk _ _ ⟨E,rfl,hsz,hg,DM.refl _ _ _,fun l o b hl hro hb'=> .inr ⟨l,o,hl,hro,hb'⟩,fun k=> ?_⟩) ?_)
 ·have L7:=qo args 0 k
  rw [Nat.zero_add] at L7
  rw [L7]
  cases ha:args[k]? with
  |none=>trivial
  |some av=>
   obtain ⟨u,hu,hr⟩:=hargs.get ha
   have:(vals.toArray++Array.replicate (fn.ntmps - vals.toArray.size) undef).getD k undef=u:=by
    have b8:k<vals.length:=(List.getElem?_eq_some_iff.1 hu).1
    rw [Array.getD_eq_getD_getElem?,Array.getElem?_append_left (by simpa using b8)]
    simp [hu]
   rw [this];exact hr
 ·rintro e a' w' ⟨s,hq,E',hE⟩
  have fin:Fin C rs rn res m' .ret s→a'.defers= []∧∃v,(results fn a'.tmps).run P w'= .ok v w'∧Post m E w res m' (.returned v) w':=by
   intro hf
   obtain ⟨vs,us,⟨h1,h2⟩,h3,h4⟩:=mq hX hE hf
   have iW:∀ {l o},bz m' l=some o→bz s.m (asN rn l)=some (o.ren (asN rn))∧(o.ren (asN rn)).isNest=false∧(l,o)∈m':=fun hl=>by
    have hl':=(gv (fun p hp=>(hm' p hp).2) hl).1
    exact ⟨hE.good.bz (vn h2 hl'),by rw [AObj.qn];exact (hm' _ (aW hl')).2,aW hl'⟩
   obtain ⟨z,hz⟩:∃z:Nat→Nat,∀b,((∃l o,bz s.m l=some o∧(∃p∈m',asN rn p.1=l)∧E'.ρ l=some b)∨(b<w.heap.size∧¬Dy m E b)→z b=E'.z b)∧
    (¬((∃l o,bz s.m l=some o∧(∃p∈m',asN rn p.1=l)∧E'.ρ l=some b)∨(b<w.heap.size∧¬Dy m E b))→z b=max (E'.z b) (dg w' b)):=by
    classical
    exact ⟨fun b=>if ((∃l o,bz s.m l=some o∧(∃p∈m',asN rn p.1=l)∧E'.ρ l=some b)∨(b<w.heap.size∧¬Dy m E b)) then E'.z b else max (E'.z b) (dg w' b),fun b=>⟨fun h=>by simp only [if_pos h],fun h=>by simp only [if_neg h]⟩⟩
   have D4:∀b,E'.z b≤z b:=fun b=>by
    by_cases h:(∃l o,bz s.m l=some o∧(∃p∈m',asN rn p.1=l)∧E'.ρ l=some b)∨(b<w.heap.size∧¬Dy m E b)
    ·rw [(hz b).1 h];exact Nat.le_refl _
    ·rw [(hz b).2 h];exact Nat.le_max_left _ _
   have hst:aH w' E'.z w' z:=fun b=>⟨D4 b,fun _ _=>rfl⟩
   have hkeep:p7 w' E' w' ⟨E'.ρ,E'.σ,z⟩ fun _=>True:=⟨hst,fun _ _=>rfl,fun _ _=>rfl⟩
   have xD:∀l o b,look s.m l=some o→(o.ro=false∨false=true)→(o.ro=false→(m'.any fun p=>asN rn p.1==l)=false)→E'.ρ l=some b→dg w' b≤z b:=by
    intro l o b hl hro mo hb
    have hro:o.ro=false:=hro.resolve_right (by simp)
    have mo:=mo hro
    rw [(hz b).2 ?_]
    ·exact Nat.le_max_right _ _
    ·rintro (⟨l',o',h1,⟨p,hp,ij⟩,h2⟩|⟨h1,h2⟩)
     ·have:=hE.good.inj l l' b (by rw [hE.good.bz hl];simp) (by rw [h1];simp) hb h2
      subst this
      rw [List.any_eq_false] at mo
      exact mo p hp (by simp [ij])
     ·rcases hE.mine l o b (hE.good.bz hl) hro hb with h3|h3
      ·simp only at h3;omega
      ·exact h2 h3
   refine ⟨hE.defers,_,vm xe h4,_,(⟨E'.ρ,E'.σ,z⟩:Env).pre (asN rn),rfl,⟨hE.kg.os,hE.kg.tape,hE.kg.output,hE.kg.size,hE.kg.st.trans hst,fun b hb hnm=> ?_,fun l hl=> ?_⟩,⟨fun l hl=> ?_,fun l l' b hl hl' hb hb'=> ?_,fun l o hl=> ?_,fun b hb=> ?_⟩,fun l o b hl hro hb'=> ?_, ?_⟩
   ·have:=hE.kg.frame b hb hnm
    exact ⟨this.1,((hz b).1 (.inr ⟨hb,hnm⟩)).trans this.2⟩
   ·obtain ⟨o,ho⟩:=Option.ne_none_iff_exists'.1 hl
    have:=JY l (by rw [hplain ho];simp)
    simp only [Env.pre,this]
    exact hE.kg.Fo l hl
   ·obtain ⟨o,ho⟩:=Option.ne_none_iff_exists'.1 hl
    exact (hm' _ (aW ho)).1
   ·obtain ⟨o,ho⟩:=Option.ne_none_iff_exists'.1 hl
    obtain ⟨o',ho'⟩:=Option.ne_none_iff_exists'.1 hl'
    obtain ⟨g1,_,g2⟩:=iW ho
    obtain ⟨Jj,_,M8⟩:=iW ho'
    exact hinj _ g2 _ M8 (hE.good.inj (asN rn l) (asN rn l') b (by simp [g1]) (by simp [Jj]) hb hb')
   ·obtain ⟨g1,g3,g2⟩:=iW hl
    refine (mV (by rw [AObj.qn] at g3;exact g3)).2 ?_
    have:=aX.keep (k:= []) (E':=⟨E'.ρ,E'.σ,z⟩) hst (fun _ _=>⟨rfl,rfl⟩) (fun l x hl=>by simp [kl] at hl) rfl (fun _ _=>rfl) (fun b hb=>⟨rfl,(hz b).1 (.inl ⟨_,_,g1,⟨_,g2,rfl⟩,hb⟩)⟩) (hE.good.ir _ _ g1)
    rwa [AObj.k9] at this
   ·by_cases h:(∃l o,bz s.m l=some o∧(∃p∈m',asN rn p.1=l)∧E'.ρ l=some b)∨(b<w.heap.size∧¬Dy m E b)
    ·exact ((hz b).1 h).trans (hE.good.fresh b hb)
    ·refine ((hz b).2 h).trans ?_
     rw [hE.good.fresh b hb]
     simp [dg,Array.getElem?_eq_none hb]
   ·obtain ⟨g1,_,_⟩:=iW hl
    exact hE.mine _ _ b g1 (by rw [AObj.BU];exact hro) hb'
   ·refine pR.2 ?_
    rw [← D6]
    refine yT hkeep (fun a x v GM hr=>pS hE.good hst xD GM hr) h1 ?_
    match vs,us,h3 with
    | [],us,h3=>simp only [AVrs] at h3;subst h3;exact ⟨[],rfl,rfl⟩
    | [v],us,h3=>obtain ⟨u,us',rfl,g1,g2⟩:=h3;simp only [AVrs] at g2;subst g2;exact g1
    |v::v'::vs,us,h3=>
     obtain ⟨u,us',rfl,g1,u',FI,rfl,g2⟩:=h3
     exact ⟨u::u'::FI,rfl,⟨u,_,rfl,g1,u',_,rfl,g2⟩⟩
  cases e with
  |ret=>exact fin hq
  |normal=>exact fin hq
  |_=>exact hq.elim
theorem Spec.intro {P:Program} {C:Cfg} {f:Nat} {fn:Func} {c:Code} {n:Nat} {rs:List RV} {A:Env→World→List Value→Prop} {m:List (Nat × AObj)} {res:AV} {m':List (Nat × AObj)}
 (hC:C.Ok P) (hf:P.funcs[f]? =some fn) (hb:fn.body=some c) (hname:(fn.name== "runtime.NumGoroutine")=false) (hn:fn.ntmps=n) (xe:fn.results=(rs.map RV.rv).toArray)
 (tR:∀p∈m,10000≤p.1∧p.2.isNest=false) (hm':∀p∈m',p.1<20000∧p.2.isNest=false) (hk:uV n c=true)
 (h:∀X:Ctx,X.Ok→X.P=P→X.C=C→X.n=n→X.m0=m→∀vals,A X.E0 X.w0 vals→∃args,args.length≤n∧AVrs X.w0 X.E0 args vals∧cD X c (Fin C rs [] res m') ⟨params 0 args,m⟩):Spec P f A m res m':=
 Spec.BX [] hC hf hb hname hn xe tR hm' (fun _ _=>rfl) (fun p _ q _ h=>h) hk h
end Go.Ab
end
section
namespace Go.Ab
def renM (π:Nat→Nat):List (Nat × AObj)→List (Nat × AObj)
 | []=> []
 |(l,o)::r=>match o with
  | .rob _=>renM π r
  |o=>(π l,o.ren π)::renM π r
def killM (π:Nat→Nat) (m':List (Nat × AObj)):List (Nat × AObj)→List (Nat × Option D)
 | []=> []
 |(l,_)::r=>match look m' l with
  |none=>(π l,none)::killM π m' r
  |some _=>killM π m' r
theorem mX {π:Nat→Nat} {m':List (Nat × AObj)} :∀ {m:List (Nat × AObj)} {k:Nat},kl (killM π m' m) k≠none→∃l,look m l≠none∧look m' l=none∧π l=k
 | [],k,h=>absurd rfl h
 |(l,o)::r,k,h=>by
  simp only [killM] at h
  split at h
  ·rename_i hl
   simp only [kl] at h
   split at h
   ·rename_i hk;exact ⟨l,by simp [look],hl,hk⟩
   ·obtain ⟨l',h1,h2,h3⟩:=mX h
    exact ⟨l',by simp only [look];split<;>simp_all,h2,h3⟩
  ·obtain ⟨l',h1,h2,h3⟩:=mX h
   exact ⟨l',by simp only [look];split<;>simp_all,h2,h3⟩
theorem qq {π:Nat→Nat} {m':List (Nat × AObj)} :∀ {m:List (Nat × AObj)} {l:Nat},look m l≠none→look m' l=none→kl (killM π m' m) (π l)≠none
 | [],l,h,_=>absurd rfl h
 |(i,o)::r,l,h,h'=>by
  simp only [look] at h
  simp only [killM]
  by_cases hil:i=l
  ·subst hil
   simp [h',kl]
  ·simp only [hil,if_false] at h
   have ih:=qq (π:=π) h h'
   split
   ·simp only [kl];split
    ·simp
    ·exact ih
   ·exact ih
theorem mu {π:Nat→Nat} {m':List (Nat × AObj)} :∀ {m:List (Nat × AObj)} {k:Nat} {x:D},kl (killM π m' m) k≠some (some x)
 | [],k,x=>by simp [killM,kl]
 |(i,o)::r,k,x=>by
  simp only [killM]
  have ih:=mu (π:=π) (m':=m') (m:=r) (k:=k) (x:=x)
  split
  ·simp only [kl];split
   ·simp
   ·exact ih
  ·exact ih
theorem iY:∀(a b:List (Nat × Option D)) (k:Nat),kl (a++b) k=match kl a k with|some x=>some x|none=>kl b k
 | [],b,k=>rfl
 |(i,x)::a,b,k=>by
  simp only [List.cons_append,kl]
  split
  ·rfl
  ·exact iY a b k
theorem gw {π:Nat→Nat} :∀ {m:List (Nat × AObj)} {k:Nat} {o':AObj},look (renM π m) k=some o'→∃p∈m,p.2.ro=false∧π p.1=k∧o'=p.2.ren π
 | [],k,o',h=>by simp [renM,look] at h
 |(l,o)::r,k,o',h=>by
  have step:look (renM π r) k=some o'→∃p∈(l,o)::r,p.2.ro=false∧π p.1=k∧o'=p.2.ren π:=fun h=>by
   obtain ⟨p,h1,h2⟩:=gw h
   exact ⟨p,by simp [h1],h2⟩
  cases o<;>simp only [renM] at h
  case rob cells=>exact step h
  all_goals
   simp only [look] at h
   split at h
   ·rename_i hk;cases h;exact ⟨_,List.mem_cons_self,rfl,hk,rfl⟩
   ·exact step h
theorem sN {π:Nat→Nat} :∀ {m:List (Nat × AObj)} {p:Nat × AObj},p∈m→p.2.ro=false→look (renM π m) (π p.1)≠none
 | [],p,h,_=>by cases h
 |(l,o)::r,p,h,hro=>by
  rcases List.mem_cons.1 h with rfl|h
  ·cases o<;>simp only [renM]<;>first|(simp [AObj.ro] at hro;done)|simp [look]
  ·have ih:=sN (π:=π) h hro
   cases o<;>simp only [renM]<;>first|exact ih|(simp only [look];split<;>first|(simp;done)|exact ih)
def nodupM:List (Nat × AObj)→Prop
 | []=>True
 |(l,_)::r=>look r l=none∧nodupM r
theorem az:∀ {m:List (Nat × AObj)},nodupM m→∀ {p:Nat × AObj},p∈m→look m p.1=some p.2
 | [],_,p,h=>by cases h
 |(i,q)::m,hn,p,h=>by
  rcases List.mem_cons.1 h with rfl|h
  ·simp [look]
  ·have ih:=az hn.2 h
   simp only [look]
   split
   ·rename_i hi;subst hi;rw [hn.1] at ih;cases ih
   ·exact ih
theorem mY {X:Ctx} {E:Env} {s s':ASt} {a:Act} {w:World} (hE:bu X E s' a w):∀(xs:List Operand) (ts:List Nat),(∀p∈rsOf s xs,get s'.t p.1=p.2)→AVrs w E (evA X.C s xs ts) (xs.map a.eval)
 | [],ts,_=>by cases ts<;>rfl
 |x::xs,ts,h=>by
  have hx:∀ty,bT w E (aev X.C ty s x) (a.eval x):=fun ty=>hE.evs h _ _ (by simp)
  have ht:∀p∈rsOf s xs,get s'.t p.1=p.2:=fun p hp=>h p (by cases x<;>simp [rsOf,hp])
  cases ts with
  |nil=>exact ⟨_,_,rfl,hx 0,mY hE xs [] ht⟩
  |cons t ts=>exact ⟨_,_,rfl,hx t,mY hE xs ts ht⟩
theorem dW {P:Program} {f:FuncId} {fn:Func} {c:Code} (hf:P.funcs[f]? =some fn) (hname:(fn.name== "runtime.NumGoroutine")=false) (hb:fn.body=some c) (args:Array Value) (w:World):
 (callFunc f args).run P w= .ok (.enter f args) w:=by
 have h1:fn.name≠ "runtime.NumGoroutine" :=by simpa using hname
 simp [callFunc,hf,h1,hb]
section
variable {X:Ctx} {o:Oper} {s:ASt} {K:LA→Prop}
theorem vo (hX:X.Ok) {c:Call} {fo:Operand} {f:Nat} {first caps as:List AV} (π:Nat→Nat) {A:Env→World→List Value→Prop} {m:List (Nat × AObj)} {res:AV} {m':List (Nat × AObj)} (mm:List (Nat × AObj))
 (hs:Spec X.P f A m res m') (ho:o.op= .call c) (hc:c.callee= .value fo) (hf:aev X.C 0 s fo= .fn f first caps) (has:evA X.C s c.args.toList c.argTypes.toList=as)
 (hmm:∀p∈mm,look s.m p.1=some p.2)
 (hm:∀p∈m,(π p.1,p.2.ren π)∈mm∨∃cells,p.2= .rob cells∧(π p.1, .box (AV.rens π cells))∈mm)
 (hnm:nodupM m) (xH:nodupM m') (ij:∀p∈m,p.1<20000∧p.2.isNest=false) (sj:∀p∈m',p.1<20000∧p.2.isNest=false)
 (hinj:∀l l',(look m l≠none∨look m' l≠none)→(look m l'≠none∨look m' l'≠none)→π l=π l'→l=l')
 (hnew:∀p∈m',look m p.1=none→π p.1<10000)
 (hro:∀p∈m',p.2.ro=true→look m p.1=some p.2) (Hw:∀p∈m,p.2.ro=true→look m' p.1=some p.2)
 (FJ:∀l∈res.ids,look m' l≠none) (BY:∀p∈m',∀l∈p.2.ids,look m' l≠none)
 (hA:∀s' E a w,(∀p∈mm,look s'.m p.1=some p.2)→bu X E s' a w→∀vals,AVrs w E (first++as++caps) vals→A (E.pre π) w vals)
 (hK:K ⟨rsOf s (fo::c.args.toList),mm,killM π m m'++killM π m' m,renM π m',o.dst,res.ren π⟩):∃la,aD X o la∧Sat la s∧K la:=by
 refine ⟨_,⟨rfl, ?_⟩,⟨aB s _,hmm⟩,hK⟩
 rintro s' a w hdn gI ⟨E,hE⟩
 have hfo:=hE.evs gI.1 X.C 0 (x:=fo) (by simp)
 rw [hf] at hfo
 obtain ⟨us,vs,hfo,sK,EW⟩:=hfo
 have hargs:=mY (s:=s) hE c.args.toList c.argTypes.toList (fun p hp=>gI.1 p (by cases fo<;>simp [rsOf,hp]))
 rw [has] at hargs
 have vp:AVrs w E (first++as++caps) (us++c.args.toList.map a.eval++vs):=(sK.append hargs).append EW
 obtain ⟨fn,cd,hfn,hname,hbody⟩:=hs.can
 have hrun:(execOp a.eval o).run X.P w= .ok (.enter f (us++c.args.toList.map a.eval++vs).toArray) w:=by
  have h1:us.toArray++c.args.map a.eval++vs.toArray=(us++c.args.toList.map a.eval++vs).toArray:=by
   apply Array.toList_inj.1;simp
  have h2:=dW (P:=X.P) hfn hname hbody (us.toArray++c.args.map a.eval++vs.toArray) w
  rw [h1] at h2
  simp only [execOp,ho,resolve,hc,hfo,Deferred.ofValue,Sem.run_bind,Sem.run_pure,Result.andThen_ok,invoke]
  rw [h1];exact h2
 have pl:∀ {l o},bz m l=some o→look m l=some o:=fun hl=>(gv (fun p hp=>(ij p hp).2) hl).1
 have O3:∀ {l o},bz m' l=some o→look m' l=some o:=fun hl=>(gv (fun p hp=>(sj p hp).2) hl).1
 have up:∀ {l o},look m l=some o→bz m l=some o:=fun hl=>by rw [bD (by have:=(ij _ (aW hl)).1;omega)];exact hl
 have up':∀ {l o},look m' l=some o→bz m' l=some o:=fun hl=>by rw [bD (by have:=(sj _ (aW hl)).1;omega)];exact hl
 have BZ:∀l q,look m l=some q→∃q',look s'.m (π l)=some q'∧(q.ro=false→q'=q.ren π)∧aX w (E.pre π) l q:=by
  intro l q hl
  rcases hm _ (aW hl) with h|⟨cells,h1,h2⟩
  ·have:=gI.2 _ h
   exact ⟨_,this,fun _=>rfl,(mV (ij _ (aW hl)).2).2 (hE.good.obj _ _ this)⟩
  ·simp only at h1
   subst h1
   have:=gI.2 _ h2
   exact ⟨_,this,fun h=>by simp [AObj.ro] at h,(mV rfl).2 (show aX w E (π l) (.box (AV.rens π cells)) from hE.good.obj _ _ this)⟩
 have vq:Good m (E.pre π) w:=by
  refine ⟨fun l hl=> ?_,fun l l' b hl hl' hb hb'=> ?_,fun l q hl=> ?_,hE.good.fresh⟩
  ·obtain ⟨q,hq⟩:=Option.ne_none_iff_exists'.1 hl
   exact (ij _ (aW hq)).1
  ·obtain ⟨q,hq⟩:=Option.ne_none_iff_exists'.1 hl
   obtain ⟨q',kq⟩:=Option.ne_none_iff_exists'.1 hl'
   have hq:=pl hq
   have kq:=pl kq
   obtain ⟨r,h1,_⟩:=BZ l q hq
   obtain ⟨r',xx,_⟩:=BZ l' q' kq
   exact hinj l l' (.inl (by simp [hq])) (.inl (by simp [kq])) (hE.good.inj _ _ b (by simp [hE.good.bz h1]) (by simp [hE.good.bz xx]) hb hb')
  ·obtain ⟨q',_,_,h⟩:=BZ l q (pl hl);exact h
 unfold Oper.wp
 rw [hrun]
 refine (hs.calls (E.pre π) w _ vq (hA s' E a w gI.2 hE _ vp)).mono ?_
 rintro e w' ⟨v,E',rfl,hst,hg',yU,hres⟩
 have Hx:∃pick:Nat→Option Nat,(∀k,look m' k≠none→pick (π k)=some k)∧∀l k,pick l=some k→look m' k≠none∧π k=l:=by
  classical
  refine ⟨fun l=>if h:∃k,look m' k≠none∧π k=l then some h.choose else none,fun k hk=> ?_,fun l k hl=> ?_⟩
  ·have h:∃k',look m' k'≠none∧π k'=π k:=⟨k,hk,rfl⟩
   simp only [h,dif_pos,Option.some.injEq]
   have:=h.choose_spec
   exact hinj _ _ (.inr this.1) (.inr hk) this.2
  ·simp only at hl
   split at hl
   ·rename_i h;cases hl;exact h.choose_spec
   ·cases hl
 obtain ⟨pick,hp1,hp2⟩:=Hx
 let E2:Env:=⟨fun l=>match pick l with|some k=>E'.ρ k|none=>E.ρ l,fun l=>match pick l with|some k=>E'.σ k|none=>E.σ l,E'.z⟩
 have e1:∀k,look m' k≠none→E2.ρ (π k)=E'.ρ k∧E2.σ (π k)=E'.σ k:=fun k hk=>by simp [E2,hp1 k hk]
 have yV:∀l,look m' l≠none→(E2.pre π).ρ l=E'.ρ l∧(E2.pre π).σ l=E'.σ l:=fun l hl=>e1 l hl
 have z1:∀l,kl (killM π m m'++killM π m' m) l=none→kl (killM π m m') l=none∧kl (killM π m' m) l=none:=by
  intro l hl
  rw [iY] at hl
  split at hl
  ·cases hl
  ·exact ⟨by assumption,hl⟩
 have B3:∀b,Dy m (E.pre π) b→∃l0 q0,bz s'.m l0=some q0∧q0.ro=false∧E.ρ l0=some b∧(kl (killM π m m'++killM π m' m) l0≠none∨look (renM π m') l0≠none):=by
  rintro b ⟨l,q,hl,D9,hb⟩
  have hl:=pl hl
  obtain ⟨q',h1,h2,_⟩:=BZ l q hl
  refine ⟨π l,q',hE.good.bz h1,by rw [h2 D9,AObj.BU];exact D9,hb, ?_⟩
  cases hq:look m' l with
  |none=>
   left
   rw [iY]
   split
   ·simp
   ·exact qq (by simp [hl]) hq
  |some r=>
   right
   have JZ:r.ro=false:=by
    cases hr:r.ro with
    |false=>rfl
    |true=>
     have:=hro _ (aW hq) hr
     simp only at this
     rw [hl] at this;cases this
     rw [hr] at D9;cases D9
   exact sN (p:=(l,r)) (aW hq) JZ
 have J1:∀k,look m k≠none∨look m' k≠none→π k<20000:=by
  intro k hk
  by_cases hkm:look m k=none
  ·obtain ⟨q,hq⟩:=Option.ne_none_iff_exists'.1 (hk.resolve_left (by simp [hkm]))
   have:=hnew _ (aW hq) hkm
   simp only at this;omega
  ·obtain ⟨q,hq⟩:=Option.ne_none_iff_exists'.1 hkm
   obtain ⟨q',h1,_⟩:=BZ k q hq
   exact hE.good.low _ (by simp [h1])
 have Ea:∀l,kl (killM π m m'++killM π m' m) l≠none→l<20000:=by
  intro l hl
  rw [iY] at hl
  split at hl
  ·rename_i y hy
   obtain ⟨k,h1,h2,h3⟩:=mX (k:=l) (by rw [hy];simp)
   rw [← h3];exact J1 k (.inr h1)
  ·obtain ⟨k,h1,h2,h3⟩:=mX hl
   rw [← h3];exact J1 k (.inl h1)
 refine ⟨E2,hE.app' ⟨rsOf s (fo::c.args.toList),mm,killM π m m'++killM π m' m,renM π m',o.dst,res.ren π⟩ E2 w' v hst.st hst.os hst.tape hst.output hst.size (fun l hl=> ?_) (fun l x hl=> ?_) (fun l hl=> ?_) Ea (fun l q hl=> ?_) (fun b hb=> ?_) (fun l q hl=> ?_) (fun l l' b hl hl' hb hb'=> ?_) (fun l b hl hb=> ?_) hg'.fresh ?_ hdn⟩
 ·
  obtain ⟨k1,k2⟩:=z1 l hl
  simp only [E2]
  cases hpk:pick l with
  |none=>exact ⟨rfl,rfl⟩
  |some k=>
   obtain ⟨h1,h2⟩:=hp2 l k hpk
   subst h2
   have hkm:look m k≠none:=by
    intro hkm
    exact qq (π:=π) h1 hkm k1
   obtain ⟨q,hq⟩:=Option.ne_none_iff_exists'.1 hkm
   exact hst.Fo k (by simp [up hq])
 ·rw [iY] at hl
  split at hl
  ·rename_i y hy;cases hl;exact absurd hy mu
  ·exact absurd hl mu
 ·
  have tR:=hX.low l hl
  simp only [E2]
  cases hpk:pick l with
  |none=>exact ⟨rfl,rfl⟩
  |some k=>
   obtain ⟨h1,h2⟩:=hp2 l k hpk
   subst h2
   by_cases hkm:look m k=none
   ·obtain ⟨q,hq⟩:=Option.ne_none_iff_exists'.1 h1
    have:=hnew _ (aW hq) hkm
    simp only at this;omega
   ·obtain ⟨q,hq⟩:=Option.ne_none_iff_exists'.1 hkm
    exact hst.Fo k (by simp [up hq])
 ·obtain ⟨p,h1,h2,h3,rfl⟩:=gw hl
  subst h3
  have hl':=az xH h1
  exact ⟨J1 _ (.inr (by simp [hl'])),by rw [AObj.qn];exact (sj p h1).2⟩
 ·by_cases Hy:Dy m (E.pre π) b
  ·exact .inr (B3 b Hy)
  ·exact .inl (hst.frame b hb Hy)
 ·obtain ⟨p,h1,h2,h3,rfl⟩:=gw hl
  subst h3
  have hl':=az xH h1
  have hn:=(sj p h1).2
  refine (mV hn).1 (aX.congr (live:=fun l=>look m' l≠none) (E:=E') (E':=E2.pre π) rfl (fun l hl=>(yV l hl).1) (fun l hl=>(yV l hl).2) hn (by simp [hl']) (BY p h1) (hg'.obj _ _ hl'))
 ·obtain ⟨q,hq⟩:=Option.ne_none_iff_exists'.1 hl
  obtain ⟨q',kq⟩:=Option.ne_none_iff_exists'.1 hl'
  obtain ⟨p,h1,h2,h3,_⟩:=gw hq
  obtain ⟨p',xx,D2,D3,_⟩:=gw kq
  subst h3;subst D3
  have g1:=az xH h1
  have Jj:=az xH xx
  rw [(e1 _ (by simp [g1])).1] at hb
  rw [(e1 _ (by simp [Jj])).1] at hb'
  rw [hg'.inj _ _ b (by simp [up' g1]) (by simp [up' Jj]) hb hb']
 ·obtain ⟨q,hq⟩:=Option.ne_none_iff_exists'.1 hl
  obtain ⟨p,h1,h2,h3,_⟩:=gw hq
  subst h3
  have g1:=az xH h1
  rw [(e1 _ (by simp [g1])).1] at hb
  rcases yU _ _ b (up' g1) h2 hb with h|h
  ·exact .inl h
  ·exact .inr (B3 b h)
 ·refine pR.1 (bT.mono (live:=fun l=>look m' l≠none) (E:=E') (E':=E2.pre π) ⟨aH.refl _ _,fun l hl=>(yV l hl).1,fun l hl=>(yV l hl).2⟩ FJ hres)
end
end Go.Ab
end
section
namespace Go.Ab
inductive Key where
 |slot (t:Nat)
 |obj (l:Nat)
 |cell (l q:Nat)
 deriving DecidableEq
inductive KV where
 |av (a:AV)
 |ob (o:Option AObj)
def eX (o:Option AObj) (q:Nat):KV:=match o with
 |some (.box cells)|some (.rob cells)=>match cells[q]? with|some v=> .av v|none=> .ob none
 |_=> .ob none
def aM (s:ASt):Key→KV
 | .slot t=> .av (get s.t t)
 | .obj l=> .ob (look s.m l)
 | .cell l q=>if q<16 then eX (look s.m l) q else .ob none
def KV.sub (k:List (Nat × Option D)):KV→KV
 | .av a=> .av (a.sub k)
 | .ob o=> .ob (o.map (AObj.sub k))
def KV.ids:KV→List Nat
 | .av a=>a.ids
 | .ob (some o)=>o.ids
 | .ob none=> []
structure Rec where
 la:LA
 hs:List (Nat × AV)
 hm:List (Nat × AObj)
 cs:List (Nat × Nat × AV)
def Rec.rs (r:Rec):List (Key × KV):=(r.la.rs++r.hs).map (fun p=>(.slot p.1, .av p.2))++(r.la.ms++r.hm).map (fun p=>(.obj p.1, .ob (some p.2)))++r.cs.map (fun p=>(.cell p.1 p.2.1, .av p.2.2))
def Rec.nS (r:Rec):List Key:=(match r.la.dst with|some d=> [Key.slot d]|none=> [])++r.hs.map (fun p=> .slot p.1)++r.la.er.map (fun p=> .obj p.1)++r.la.kill.map (fun p=> .obj p.1)++r.hm.map (fun p=> .obj p.1)
def Rec.cW (r:Rec):List Nat:=r.la.kill.map (·.1)
def meets (a b:List Nat):Bool:=a.any fun x=>b.contains x
def Rec.FK (r:Rec):List Key:=(r.la.er.map (·.1)++r.cW).flatMap (fun l=>(List.range 16).map (Key.cell l))++r.hm.flatMap (fun p=>((List.range 16).filter fun q=>meets (eX (some p.2) q).ids r.cW).map (Key.cell p.1))
def Rec.wr (r:Rec):List Key:=r.nS++r.FK
def Rec.names (r:Rec):List Nat:=(r.rs.flatMap fun p=>p.2.ids)++r.la.v.ids++(r.la.er.flatMap fun p=>p.2.ids)
def qt (a b:List Key):Bool:=a.any fun x=>b.contains x
def Rec.EX (r:Rec):Key→Bool
 | .cell l q=>(r.la.er.any fun p=>p.1==l)||r.cW.contains l||r.hm.any fun p=>p.1==l&&meets (eX (some p.2) q).ids r.cW
 |k=>r.nS.contains k
def gb (i j:Rec):Bool:=
 (j.rs.any fun p=>i.EX p.1)||qt i.nS j.nS||(i.rs.any fun p=>j.EX p.1)||meets i.cW j.names||meets j.cW i.names
def iQ (o:Oper) (j:Nat):Bool:=o.after.toList.any fun e=>Region.binds .any e&&e.on==j
def z6 (l:List Oper):Nat→Oper→Nat→Bool
 |0,o,j=>iQ o j
 |n+1,o,j=>iQ o j||o.after.toList.any fun e=>Region.binds .any e&&decide (j<e.on)&&match l[e.on]? with|some o'=>z6 l n o' j|none=>false
def lC (l:List Oper) (log:List Rec):List (Nat × Oper × Rec)→Bool
 | []=>true
 |(j,o,r)::rest=>(log.zipIdx.all fun p=>decide (j≤p.2)||z6 l 4 o p.2|| !(gb p.1 r)||z6 l 9 o p.2)&&(o.after.toList.all fun e=> !(Region.binds .any e)||decide (e.on<j))&&lC l log rest
def qj (l:List Oper) (log:List Rec):Bool:=log.length==l.length&&lC l log ((l.zip log).zipIdx.map fun p=>(p.2,p.1.1,p.1.2))
inductive mZ:List Rec→ASt→ASt→Prop
 |nil (s):mZ [] s s
 |cons {r rs s s' e} (gI:∀p∈r.rs,aM s p.1=p.2) (hs:∀k,aM s' k=aM (r.la.app s) k) (hw:∀k,k∉r.wr→aM s' k=aM s k∧∀x∈(aM s k).ids,x∉r.cW) (h:mZ rs s' e):mZ (r::rs) s e
mutual
theorem AV.iA {k:List (Nat × Option D)} :∀ {a:AV},(∀x∈a.ids,kl k x=none)→a.sub k=a
 | .fL,_=>rfl
 | .nil _,_=>rfl
 | .emp _,_=>rfl
 | .d _,_=>rfl
 | .fu _,_=>rfl
 | .mref l,h=>by simp only [AV.sub,h l (by simp [AV.ids])]
 | .ref l,h=>by simp only [AV.sub,h l (by simp [AV.ids])]
 | .ptr l o,h=>by simp only [AV.sub,h l (by simp [AV.ids])]
 | .ep l sz i o,h=>by simp only [AV.sub,h l (by simp [AV.ids])]
 | .agg vs,h=>by simp only [AV.sub,AV.iZ (fun x hx=>h x (by simpa [AV.ids] using hx))]
 | .tup vs,h=>by simp only [AV.sub,AV.iZ (fun x hx=>h x (by simpa [AV.ids] using hx))]
 | .fn f us vs,h=>by simp only [AV.sub,AV.iZ (as:=us) (fun x hx=>h x (by simp [AV.ids,hx])),AV.iZ (as:=vs) (fun x hx=>h x (by simp [AV.ids,hx]))]
theorem AV.iZ {k:List (Nat × Option D)} :∀ {as:List AV},(∀x∈AV.idss as,kl k x=none)→AV.subs k as=as
 | [],_=>rfl
 |a::as,h=>by simp only [AV.subs,AV.iA (a:=a) (fun x hx=>h x (by simp [AV.idss,hx])),AV.iZ (as:=as) (fun x hx=>h x (by simp [AV.idss,hx]))]
end
mutual
theorem AV.jK {k:List (Nat × Option D)} :∀ {a:AV} {x:Nat},x∈(a.sub k).ids→x∈a.ids
 | .fL,_,h=>h
 | .nil _,_,h=>h
 | .emp _,_,h=>h
 | .d _,_,h=>h
 | .fu _,_,h=>h
 | .mref l,x,h=>by
   simp only [AV.sub] at h
   split at h<;>first|exact h|simp [AV.ids] at h
 | .ref l,x,h=>by
   simp only [AV.sub] at h
   split at h<;>first|exact h|simp [AV.ids] at h
 | .ptr l o,x,h=>by
   simp only [AV.sub] at h
   split at h<;>first|exact h|simp [AV.ids] at h
 | .ep l sz i o,x,h=>by
   simp only [AV.sub] at h
   split at h<;>first|exact h|simp [AV.ids] at h
 | .agg vs,x,h=>by simp only [AV.sub,AV.ids] at h ⊢;exact AV.ja h
 | .tup vs,x,h=>by simp only [AV.sub,AV.ids] at h ⊢;exact AV.ja h
 | .fn f us vs,x,h=>by
   simp only [AV.sub,AV.ids,List.mem_append] at h ⊢
   exact h.imp AV.ja AV.ja
theorem AV.ja {k:List (Nat × Option D)} :∀ {as:List AV} {x:Nat},x∈AV.idss (AV.subs k as)→x∈AV.idss as
 | [],_,h=>h
 |a::as,x,h=>by
  simp only [AV.subs,AV.idss,List.mem_append] at h ⊢
  exact h.imp AV.jK AV.ja
end
theorem AObj.iA {k:List (Nat × Option D)} {o:AObj} (h:∀x∈o.ids,kl k x=none):o.sub k=o:=by
 cases o<;>first|(simp only [AObj.sub];done)|(simp only [AObj.sub];rw [AV.iZ];exact h)|skip
 rename_i e rows i g
 cases g with
 |none=>rfl
 |some g=>simp only [AObj.sub,h g (by simp [AObj.ids])]
theorem AObj.jK {k:List (Nat × Option D)} {o:AObj} {x:Nat} (h:x∈(o.sub k).ids):x∈o.ids:=by
 cases o<;>first|(simp only [AObj.sub,AObj.ids] at h ⊢;first|exact AV.ja h|exact h)|skip
 rename_i e rows i g
 cases g with
 |none=>exact h
 |some g=>
  simp only [AObj.sub] at h
  split at h<;>first|exact h|simp [AObj.ids] at h
theorem jL {k:List (Nat × Option D)} :∀ {x:Nat},x∉k.map (·.1)→kl k x=none:=by
 induction k with
 |nil=>intro x _;rfl
 |cons p k ih=>
  intro x h
  obtain ⟨i,y⟩:=p
  simp only [List.map_cons,List.mem_cons,not_or] at h
  simp only [kl]
  rw [if_neg (fun e=>h.1 e.symm)]
  exact ih h.2
theorem KV.iA {k:List (Nat × Option D)} {v:KV} (h:∀x∈v.ids,x∉k.map (·.1)):v.sub k=v:=by
 cases v with
 |av a=>simp only [KV.sub,AV.iA (fun x hx=>jL (h x hx))]
 |ob o=>
  cases o with
  |none=>rfl
  |some o=>simp only [KV.sub,Option.map_some,AObj.iA (fun x hx=>jL (h x hx))]
theorem KV.jK {k:List (Nat × Option D)} {v:KV} {x:Nat} (h:x∈(v.sub k).ids):x∈v.ids:=by
 cases v with
 |av a=>exact AV.jK h
 |ob o=>cases o with
  |none=>exact h
  |some o=>exact AObj.jK h
theorem jM:∀ {m:List (Nat × AObj)} {l:Nat},l∉m.map (·.1)→look m l=none
 | [],l,_=>rfl
 |(i,o)::m,l,h=>by
  simp only [List.map_cons,List.mem_cons,not_or] at h
  simp only [look]
  rw [if_neg (fun e=>h.1 e.symm)]
  exact jM h.2
theorem gJ {a b:List Nat} {x:Nat} (ha:x∈a) (hb:x∈b):meets a b=true:=by
 unfold meets;rw [List.any_eq_true];exact ⟨x,ha,by simpa using hb⟩
theorem qu {r:Rec} {k:Key} (h:k∈r.FK):∃l q,k= .cell l q∧q<16∧Key.obj l∈r.nS:=by
 simp only [Rec.FK,List.mem_append,List.mem_flatMap,List.mem_map,List.mem_range,List.mem_filter] at h
 rcases h with ⟨l,hl,q,hq,rfl⟩|⟨p,hp,q,⟨hq,_⟩,rfl⟩
 ·refine ⟨l,q,rfl,hq, ?_⟩
  simp only [Rec.nS,List.mem_append,List.mem_map]
  rcases hl with ⟨p,hp,rfl⟩|hl
  ·exact .inl (.inl (.inr ⟨p,hp,rfl⟩))
  ·obtain ⟨p,hp,rfl⟩:=List.mem_map.1 hl
   exact .inl (.inr ⟨p,hp,rfl⟩)
 ·refine ⟨p.1,q,rfl,hq, ?_⟩
  simp only [Rec.nS,List.mem_append,List.mem_map]
  exact .inr ⟨p,hp,rfl⟩
theorem nc {r:Rec} {t:Nat} (h:Key.slot t∈r.wr):Key.slot t∈r.nS:=by
 rcases List.mem_append.1 h with h|h
 ·exact h
 ·obtain ⟨l,q,e,_⟩:=qu h;cases e
theorem qv {r:Rec} {l:Nat} (h:Key.obj l∈r.wr):Key.obj l∈r.nS:=by
 rcases List.mem_append.1 h with h|h
 ·exact h
 ·obtain ⟨l',q,e,_⟩:=qu h;cases e
theorem pT {r:Rec} {l q:Nat} (h:Key.cell l q∈r.wr):Key.obj l∈r.nS:=by
 rcases List.mem_append.1 h with h|h
 ·simp only [Rec.nS,List.mem_append,List.mem_map] at h
  rcases h with (((h|⟨p,_,e⟩)|⟨p,_,e⟩)|⟨p,_,e⟩)|⟨p,_,e⟩
  ·split at h<;>simp at h
  ·cases e
  ·cases e
  ·cases e
  ·cases e
 ·obtain ⟨l',q',e,_,h2⟩:=qu h;cases e;exact h2
theorem Hz {r:Rec} {k:Key} (h:k∈r.wr):r.EX k=true:=by
 cases k with
 |slot t=>simpa [Rec.EX] using nc h
 |obj l=>simpa [Rec.EX] using qv h
 |cell l q=>
  rcases List.mem_append.1 h with h|h
  ·exfalso
   simp only [Rec.nS,List.mem_append,List.mem_map] at h
   rcases h with (((h|⟨p,_,e⟩)|⟨p,_,e⟩)|⟨p,_,e⟩)|⟨p,_,e⟩
   ·split at h<;>simp at h
   ·cases e
   ·cases e
   ·cases e
   ·cases e
  ·simp only [Rec.FK,List.mem_append,List.mem_flatMap,List.mem_map,List.mem_range,List.mem_filter] at h
   simp only [Rec.EX,Bool.or_eq_true,List.any_eq_true]
   rcases h with ⟨l',hl,q',hq,e⟩|⟨p,hp,q',⟨hq,hm⟩,e⟩
   ·cases e
    rcases hl with ⟨p,hp,rfl⟩|hl
    ·exact .inl (.inl ⟨p,hp,by simp⟩)
    ·exact .inl (.inr (by simpa using hl))
   ·cases e
    exact .inr ⟨p,hp,by simp [hm]⟩
theorem vr {a b:List Key} {x:Key} (ha:x∈a) (hb:x∈b):qt a b=true:=by
 unfold qt;rw [List.any_eq_true];exact ⟨x,ha,by simpa using hb⟩
theorem B4 {i j:Rec} {k:Key} {v:KV} (h:k∈i.wr) (h2:(k,v)∈j.rs):gb i j=true:=by
 simp only [gb,Bool.or_eq_true,List.any_eq_true]
 exact .inl (.inl (.inl (.inl ⟨_,h2,Hz h⟩)))
theorem B5 {i j:Rec} {k:Key} {v:KV} (h:(k,v)∈i.rs) (h2:k∈j.wr):gb i j=true:=by
 simp only [gb,Bool.or_eq_true,List.any_eq_true]
 exact .inl (.inl (.inr ⟨_,h,Hz h2⟩))
theorem B6 {i j:Rec} {k:Key} (h:k∈i.wr) (h2:k∈j.wr):gb i j=true:=by
 have:∃k,k∈i.nS∧k∈j.nS:=by
  cases k with
  |slot t=>exact ⟨_,nc h,nc h2⟩
  |obj l=>exact ⟨_,qv h,qv h2⟩
  |cell l q=>exact ⟨_,pT h,pT h2⟩
 obtain ⟨k,g1,g2⟩:=this
 simp only [gb,Bool.or_eq_true]
 exact .inl (.inl (.inl (.inr (vr g1 g2))))
theorem B7 {i j:Rec} {x:Nat} (h:x∈i.cW) (h2:x∈j.names):gb i j=true:=by
 simp only [gb,Bool.or_eq_true]
 exact .inl (.inr (gJ h h2))
theorem B8 {i j:Rec} {x:Nat} (h:x∈j.cW) (h2:x∈i.names):gb i j=true:=by
 simp only [gb,Bool.or_eq_true]
 exact .inr (gJ h h2)
theorem AV.qw {k:List (Nat × Option D)} :∀ {as:List AV} {q:Nat},(AV.subs k as)[q]? =(as[q]?).map (AV.sub k)
 | [],q=>by simp [AV.subs]
 |a::as,0=>by simp [AV.subs]
 |a::as,q+1=>by simp [AV.subs,AV.qw (as:=as)]
theorem xI {k:List (Nat × Option D)} {o:Option AObj} {q:Nat} :eX (o.map (AObj.sub k)) q=(eX o q).sub k:=by
 cases o with
 |none=>rfl
 |some o=>
  cases o with
  |box cells=>simp only [Option.map_some,AObj.sub,eX,AV.qw];cases cells[q]? <;>rfl
  |rob cells=>simp only [Option.map_some,AObj.sub,eX,AV.qw];cases cells[q]? <;>rfl
  |orh e rows i g=>
   cases g with
   |none=>rfl
   |some g'=>simp only [Option.map_some,AObj.sub];split<;>rfl
  |_=>rfl
theorem AV.vt {as:List AV} {q x:Nat} {v:AV} (h:as[q]? =some v) (hx:x∈v.ids):x∈AV.idss as:=by
 induction as generalizing q with
 |nil=>simp at h
 |cons a as ih=>
  simp only [AV.idss,List.mem_append]
  cases q with
  |zero=>simp at h;subst h;exact .inl hx
  |succ q=>exact .inr (ih (by simpa using h))
theorem qx {o:Option AObj} {q x:Nat} (h:x∈(eX o q).ids):∃o',o=some o'∧x∈o'.ids:=by
 cases o with
 |none=>simp [eX,KV.ids] at h
 |some o=>
  refine ⟨o,rfl, ?_⟩
  unfold eX at h
  split at h
  ·rename_i cells e
   cases e
   split at h
   ·rename_i v hv;exact AV.vt hv h
   ·simp [KV.ids] at h
  ·rename_i cells e
   cases e
   split at h
   ·rename_i v hv;exact AV.vt hv h
   ·simp [KV.ids] at h
  ·simp [KV.ids] at h
theorem qy {r:Rec} {s:ASt} {k:Key} (h:k∉r.wr):aM (r.la.app s) k=(aM s k).sub r.la.kill:=by
 have hm:(r.la.app s).m=putM r.la.er (s.kill r.la.kill).m:=by unfold LA.app ASt.put;split<;>rfl
 have hw:=h
 have h:k∉r.nS:=fun h'=>h (List.mem_append.2 (.inl h'))
 simp only [Rec.nS,List.mem_append,List.mem_map,not_or,not_exists,not_and] at h
 obtain ⟨⟨⟨⟨h1,_⟩,h3⟩,h4⟩,_⟩:=h
 cases k with
 |cell l q=>
  simp only [aM]
  by_cases hq:q<16
  ·rw [if_pos hq,if_pos hq]
   have hnot:l∉r.la.er.map (·.1)∧l∉r.la.kill.map (·.1):=by
    constructor
    ·intro hl
     refine hw (List.mem_append.2 (.inr ?_))
     simp only [Rec.FK,List.mem_append,List.mem_flatMap,List.mem_map,List.mem_range]
     exact .inl ⟨l, .inl (by simpa using hl),q,hq,rfl⟩
    ·intro hl
     refine hw (List.mem_append.2 (.inr ?_))
     simp only [Rec.FK,List.mem_append,List.mem_flatMap,List.mem_map,List.mem_range]
     exact .inl ⟨l, .inr hl,q,hq,rfl⟩
   rw [hm,cT,jM hnot.1,dO,jL hnot.2]
   simp only [if_true]
   exact xI
  ·rw [if_neg hq,if_neg hq];rfl
 |slot t=>
  simp only [aM,KV.sub]
  congr 1
  unfold LA.app ASt.put
  split
  ·rename_i d hd
   simp only [hd,List.mem_singleton,Key.slot.injEq] at h1
   simp only [get]
   rw [if_neg (fun e=>h1 e.symm),dD]
  ·exact dD _ _ _
 |obj l=>
  simp only [aM,KV.sub]
  congr 1
  rw [hm,cT,jM (fun hm=>by obtain ⟨p,hp,ij⟩:=List.mem_map.1 hm;exact h3 p hp (by rw [ij])),dO,jL (fun hm=>by obtain ⟨p,hp,ij⟩:=List.mem_map.1 hm;exact h4 p hp (by rw [ij]))]
  simp
theorem jN {r:Rec} {s s':ASt} (h:∀p∈r.rs,aM s p.1=p.2) (h':∀p∈r.rs,aM s' p.1=p.2) {k:Key} (hk:k∈r.nS):aM (r.la.app s) k=aM (r.la.app s') k:=by
 have hm:∀s:ASt,(r.la.app s).m=putM r.la.er (s.kill r.la.kill).m:=fun s=>by unfold LA.app ASt.put;split<;>rfl
 have same:∀p∈r.rs,aM s p.1=aM s' p.1:=fun p hp=>(h p hp).trans (h' p hp).symm
 cases k with
 |cell l q=>
  exfalso
  simp only [Rec.nS,List.mem_append,List.mem_map] at hk
  rcases hk with (((hk|⟨p,_,e⟩)|⟨p,_,e⟩)|⟨p,_,e⟩)|⟨p,_,e⟩
  ·split at hk<;>simp at hk
  ·cases e
  ·cases e
  ·cases e
  ·cases e
 |slot t=>
  simp only [aM]
  congr 1
  by_cases hd:r.la.dst=some t
  ·unfold LA.app ASt.put
   simp [hd,get]
  ·have hin:∃v,(Key.slot t,KV.av v)∈r.rs:=by
    simp only [Rec.nS,List.mem_append,List.mem_map] at hk
    rcases hk with (((hk|⟨p,hp,hpt⟩)|⟨p,hp,hpt⟩)|⟨p,hp,hpt⟩)|⟨p,hp,hpt⟩
    ·split at hk
     ·rename_i d hd'
      simp only [List.mem_singleton,Key.slot.injEq] at hk
      subst hk;exact absurd hd' hd
     ·simp at hk
    ·simp only [Key.slot.injEq] at hpt
     refine ⟨p.2, ?_⟩
     simp only [Rec.rs,List.mem_append,List.mem_map]
     exact .inl (.inl ⟨p, .inr hp,by rw [hpt]⟩)
    ·cases hpt
    ·cases hpt
    ·cases hpt
   obtain ⟨v,hv⟩:=hin
   have hsame:=same _ hv
   simp only [aM,KV.av.injEq] at hsame
   unfold LA.app ASt.put
   cases hq:r.la.dst with
   |none=>simp only [dD,hsame]
   |some d=>
    have hdt:d≠t:=fun e=>hd (by rw [hq,e])
    simp only [get,hdt,if_false,dD,hsame]
 |obj l=>
  simp only [aM]
  congr 1
  rw [hm,hm,cT,cT]
  cases hu:look r.la.er l with
  |some o=>rfl
  |none=>
   simp only [dO]
   by_cases b8:kl r.la.kill l=none
   ·simp only [b8,if_true]
    have hin:∃v,(Key.obj l,v)∈r.rs:=by
     simp only [Rec.nS,List.mem_append,List.mem_map] at hk
     rcases hk with (((hk|⟨p,hp,hpt⟩)|⟨p,hp,hpt⟩)|⟨p,hp,hpt⟩)|⟨p,hp,hpt⟩
     ·split at hk
      ·simp at hk
      ·simp at hk
     ·cases hpt
     ·exfalso
      simp only [Key.obj.injEq] at hpt
      have:∀(m:List (Nat × AObj)),p∈m→look m p.1≠none:=by
       intro m
       induction m with
       |nil=>intro h;cases h
       |cons q m ih=>
        intro h
        obtain ⟨i,o⟩:=q
        simp only [look]
        rcases List.mem_cons.1 h with rfl|h
        ·simp
        ·split
         ·simp
         ·exact ih h
      exact this _ hp (by rw [hpt];exact hu)
     ·exfalso
      simp only [Key.obj.injEq] at hpt
      have:∀(m:List (Nat × Option D)),p∈m→kl m p.1≠none:=by
       intro m
       induction m with
       |nil=>intro h;cases h
       |cons q m ih=>
        intro h
        obtain ⟨i,o⟩:=q
        simp only [kl]
        rcases List.mem_cons.1 h with rfl|h
        ·simp
        ·split
         ·simp
         ·exact ih h
      exact this _ hp (by rw [hpt];exact b8)
     ·simp only [Key.obj.injEq] at hpt
      refine ⟨.ob (some p.2), ?_⟩
      simp only [Rec.rs,List.mem_append,List.mem_map]
      exact .inl (.inr ⟨p, .inr hp,by rw [hpt]⟩)
    obtain ⟨v,hv⟩:=hin
    have hsame:=same _ hv
    simp only [aM,KV.ob.injEq] at hsame
    rw [hsame]
   ·simp only [b8,if_false]
theorem vu {r:Rec} {s s':ASt} (h:∀p∈r.rs,aM s p.1=p.2) (h':∀p∈r.rs,aM s' p.1=p.2) {k:Key} (hk:k∈r.wr):aM (r.la.app s) k=aM (r.la.app s') k:=by
 cases k with
 |slot t=>exact jN h h' (nc hk)
 |obj l=>exact jN h h' (qv hk)
 |cell l q=>
  have:=jN h h' (pT hk)
  simp only [aM,KV.ob.injEq] at this ⊢
  rw [this]
end Go.Ab
end
section
namespace Go.Ab
theorem ng {l:List Oper} {log:List Rec} :∀ {q:List (Nat × Oper × Rec)},lC l log q=true→∀t∈q,
 (∀i r,log[i]? =some r→i<t.1→gb r t.2.2=true→∃n,z6 l n t.2.1 i=true)∧∀e∈t.2.1.after.toList,Region.binds .any e=true→e.on<t.1
 | [],_,t,ht=>by cases ht
 |(j,o,r)::rest,h,t,ht=>by
  simp only [lC,Bool.and_eq_true] at h
  obtain ⟨⟨h1,h2⟩,h3⟩:=h
  rcases List.mem_cons.1 ht with rfl|ht
  ·refine ⟨fun i q hq hi hc=> ?_,fun e he hb=> ?_⟩
   ·rw [List.all_eq_true] at h1
    have:=h1 (q,i) (by
     rw [List.mem_iff_getElem?]
     exact ⟨i,by simp [List.getElem?_zipIdx,hq]⟩)
    simp only [Bool.or_eq_true,decide_eq_true_eq,Bool.not_eq_true'] at this
    rcases this with ((h|h)|h)|h
    ·simp only at hi;omega
    ·exact ⟨4,h⟩
    ·rw [hc] at h;cases h
    ·exact ⟨9,h⟩
   ·rw [List.all_eq_true] at h2
    have:=h2 e he
    simp only [hb,Bool.not_true,Bool.false_or,decide_eq_true_eq] at this
    exact this
  ·exact ng h3 t ht
theorem vv {l:List Oper} {log:List Rec} (h:qj l log=true):log.length=l.length∧
 (∀(i j:Nat) ri rj o,log[i]? =some ri→log[j]? =some rj→l[j]? =some o→i<j→gb ri rj=true→∃n,z6 l n o i=true)∧
 ∀(j:Nat) o,l[j]? =some o→∀e∈o.after.toList,Region.binds .any e=true→e.on<j:=by
 simp only [qj,Bool.and_eq_true,beq_iff_eq] at h
 obtain ⟨h1,h2⟩:=h
 have hs:=ng h2
 have mem:∀(j:Nat) o r,l[j]? =some o→log[j]? =some r→(j,o,r)∈((l.zip log).zipIdx.map fun p=>(p.2,p.1.1,p.1.2)):=by
  intro j o r ho hr
  rw [List.mem_map]
  refine ⟨((o,r),j), ?_,rfl⟩
  rw [List.mem_iff_getElem?]
  exact ⟨j,by simp [List.getElem?_zipIdx,List.getElem?_zip_eq_some,ho,hr]⟩
 refine ⟨h1,fun i j ri rj o hi hj ho hij hc=>(hs _ (mem j o rj ho hj)).1 i ri hi hij hc,fun j o ho e he hb=> ?_⟩
 have hjl:j<log.length:=by rw [h1];exact (List.getElem?_eq_some_iff.1 ho).1
 exact (hs _ (mem j o log[j] ho (List.getElem?_eq_getElem hjl))).2 e he hb
theorem mZ.states:∀ {log:List Rec} {s e:ASt},mZ log s e→∃st:Nat→ASt,st 0=s∧st log.length=e∧∀i r,log[i]? =some r→
 (∀p∈r.rs,aM (st i) p.1=p.2)∧(∀k,aM (st (i+1)) k=aM (r.la.app (st i)) k)∧∀k,k∉r.wr→aM (st (i+1)) k=aM (st i) k∧∀x∈(aM (st i) k).ids,x∉r.cW
 | [],s,e,h=>by cases h;exact ⟨fun _=>s,rfl,rfl,fun i r h=>by simp at h⟩
 |r::log,s,e,h=>by
  cases h with
  |cons gI hs hw h=>
   rename_i s'
   obtain ⟨st,h0,h1,h2⟩:=h.states
   refine ⟨fun i=>match i with|0=>s|i+1=>st i,rfl,h1,fun i q hq=> ?_⟩
   cases i with
   |zero=>
    simp only [List.getElem?_cons_zero,Option.some.injEq] at hq
    subst hq
    simp only [h0]
    exact ⟨gI,hs,hw⟩
   |succ i=>exact h2 i q (by simpa using hq)
theorem tS {r:Rec} {s:ASt} (h:∀p∈r.rs,aM s p.1=p.2) {k:Key} (hk:k∈r.nS) {x:Nat} (hx:x∈(aM (r.la.app s) k).ids):x∈r.names:=by
 have HA:∀p∈r.rs,∀x∈p.2.ids,x∈r.names:=by
  intro p hp x hx
  simp only [Rec.names,List.mem_append,List.mem_flatMap]
  exact .inl (.inl ⟨p,hp,hx⟩)
 cases k with
 |cell l q=>
  exfalso
  simp only [Rec.nS,List.mem_append,List.mem_map] at hk
  rcases hk with (((hk|⟨p,_,e⟩)|⟨p,_,e⟩)|⟨p,_,e⟩)|⟨p,_,e⟩
  ·split at hk<;>simp at hk
  ·cases e
  ·cases e
  ·cases e
  ·cases e
 |slot t=>
  by_cases hd:r.la.dst=some t
  ·have:aM (r.la.app s) (.slot t)= .av r.la.v:=by
    simp only [aM]
    unfold LA.app ASt.put
    simp [hd,get]
   rw [this] at hx
   simp only [Rec.names,List.mem_append]
   exact .inl (.inr hx)
  ·have hin:∃v,(Key.slot t,KV.av v)∈r.rs:=by
    simp only [Rec.nS,List.mem_append,List.mem_map] at hk
    rcases hk with (((hk|⟨p,hp,hpt⟩)|⟨p,hp,hpt⟩)|⟨p,hp,hpt⟩)|⟨p,hp,hpt⟩
    ·split at hk
     ·rename_i d hd'
      simp only [List.mem_singleton,Key.slot.injEq] at hk
      subst hk;exact absurd hd' hd
     ·simp at hk
    ·simp only [Key.slot.injEq] at hpt
     refine ⟨p.2, ?_⟩
     simp only [Rec.rs,List.mem_append,List.mem_map]
     exact .inl (.inl ⟨p, .inr hp,by rw [hpt]⟩)
    ·cases hpt
    ·cases hpt
    ·cases hpt
   obtain ⟨v,hv⟩:=hin
   refine HA _ hv x ?_
   have hsame:=h _ hv
   simp only [aM,KV.av.injEq] at hsame
   have:aM (r.la.app s) (.slot t)= .av ((get s.t t).sub r.la.kill):=by
    simp only [aM]
    unfold LA.app ASt.put
    cases hq:r.la.dst with
    |none=>simp only [dD]
    |some d=>
     have hdt:d≠t:=fun e=>hd (by rw [hq,e])
     simp only [get,hdt,if_false,dD]
   rw [this,hsame] at hx
   exact AV.jK hx
 |obj l=>
  have hm:(r.la.app s).m=putM r.la.er (s.kill r.la.kill).m:=by unfold LA.app ASt.put;split<;>rfl
  have hval:aM (r.la.app s) (.obj l)= .ob (match look r.la.er l with|some o=>some o|none=>if kl r.la.kill l=none then (look s.m l).map (AObj.sub r.la.kill) else none):=by
   simp only [aM];rw [hm,cT,dO];cases look r.la.er l<;>rfl
  rw [hval] at hx
  cases hu:look r.la.er l with
  |some o=>
   simp only [hu,KV.ids] at hx
   simp only [Rec.names,List.mem_append,List.mem_flatMap]
   exact .inr ⟨(l,o),aW hu,hx⟩
  |none=>
   by_cases b8:kl r.la.kill l=none
   ·simp only [hu,b8,if_true] at hx
    have hin:∃o,(Key.obj l,KV.ob (some o))∈r.rs:=by
     simp only [Rec.nS,List.mem_append,List.mem_map] at hk
     rcases hk with (((hk|⟨p,hp,hpt⟩)|⟨p,hp,hpt⟩)|⟨p,hp,hpt⟩)|⟨p,hp,hpt⟩
     ·split at hk<;>simp at hk
     ·cases hpt
     ·exfalso
      simp only [Key.obj.injEq] at hpt
      subst hpt
      have:∀(m:List (Nat × AObj)),p∈m→look m p.1≠none:=by
       intro m
       induction m with
       |nil=>intro h;cases h
       |cons q m ih=>
        intro h
        obtain ⟨i,o⟩:=q
        simp only [look]
        rcases List.mem_cons.1 h with rfl|h
        ·simp
        ·split
         ·simp
         ·exact ih h
      exact this _ hp hu
     ·exfalso
      simp only [Key.obj.injEq] at hpt
      subst hpt
      have:∀(m:List (Nat × Option D)),p∈m→kl m p.1≠none:=by
       intro m
       induction m with
       |nil=>intro h;cases h
       |cons q m ih=>
        intro h
        obtain ⟨i,o⟩:=q
        simp only [kl]
        rcases List.mem_cons.1 h with rfl|h
        ·simp
        ·split
         ·simp
         ·exact ih h
      exact this _ hp b8
     ·simp only [Key.obj.injEq] at hpt
      refine ⟨p.2, ?_⟩
      simp only [Rec.rs,List.mem_append,List.mem_map]
      exact .inl (.inr ⟨p, .inr hp,by rw [hpt]⟩)
    obtain ⟨o,ho⟩:=hin
    have hsame:=h _ ho
    simp only [aM,KV.ob.injEq] at hsame
    simp only [hsame,Option.map_some,KV.ids] at hx
    exact HA _ ho x (AObj.jK hx)
   ·simp [hu,b8,KV.ids] at hx
theorem FL {r:Rec} {s:ASt} (h:∀p∈r.rs,aM s p.1=p.2) {k:Key} (hk:k∈r.wr) {x:Nat} (hx:x∈(aM (r.la.app s) k).ids):x∈r.names:=by
 cases k with
 |slot t=>exact tS h (nc hk) hx
 |obj l=>exact tS h (qv hk) hx
 |cell l q=>
  refine tS h (pT hk) ?_
  simp only [aM] at hx ⊢
  split at hx
  ·obtain ⟨o,ho,z7⟩:=qx hx
   rw [ho];exact z7
  ·simp [KV.ids] at hx
section
variable {l:List Oper} {log:List Rec} {st:Nat→ASt}
def Inv (log:List Rec) (st:Nat→ASt) (done:Nat→Prop) (s:ASt):Prop:=∀k,k≤log.length→¬done k→∀(key:Key) (v:KV),
 ((∃r,log[k]? =some r∧(key,v)∈r.rs)∨(k=log.length∧v=aM (st k) key))→(∀j,j<k→¬done j→∀r,log[j]? =some r→key∉r.wr)→aM s key=v
theorem B9 {l:List Oper} {n:Nat} {o:Oper} {j:Nat} (h:iQ o j=true):z6 l n o j=true:=by
 cases n<;>simp [z6,h]
theorem qz {l:List Oper} {done:Nat→Prop} (hD:∀i j o,done j→l[j]? =some o→iQ o i=true→done i):∀ {n:Nat} {o:Oper} {j:Nat},z6 l n o j=true→(∀k,iQ o k=true→done k)→done j
 |0,o,j,h,hr=>hr j h
 |n+1,o,j,h,hr=>by
  simp only [z6,Bool.or_eq_true] at h
  rcases h with h|h
  ·exact hr j h
  ·obtain ⟨e,he,h⟩:=List.any_eq_true.1 h
   simp only [Bool.and_eq_true] at h
   obtain ⟨⟨hb,_⟩,h⟩:=h
   have hd:done e.on:=hr e.on (by unfold iQ;rw [List.any_eq_true];exact ⟨e,he,by simp [hb]⟩)
   cases ho:l[e.on]? with
   |none=>rw [ho] at h;cases h
   |some o'=>rw [ho] at h;exact qz hD h fun k hk=>hD k _ _ hd ho hk
theorem Ca (Eb:qj l log=true)
 (hst:∀i r,log[i]? =some r→(∀p∈r.rs,aM (st i) p.1=p.2)∧(∀k,aM (st (i+1)) k=aM (r.la.app (st i)) k)∧∀k,k∉r.wr→aM (st (i+1)) k=aM (st i) k∧∀x∈(aM (st i) k).ids,x∉r.cW)
 {done:Nat→Prop} {s:ASt} (hinv:Inv log st done s) (hD:∀i j o,done j→l[j]? =some o→iQ o i=true→done i) {i:Nat} {r:Rec} {o:Oper} (hi:log[i]? =some r) (ho:l[i]? =some o) (eW:¬done i)
 (gK:∀j,iQ o j=true→done j):(∀p∈r.rs,aM s p.1=p.2)∧Inv log st (fun k=>done k∨k=i) (r.la.app s):=by
 obtain ⟨hlen,xg,_⟩:=vv Eb
 have hD:∀i j o,done j→l[j]? =some o→(∃n,z6 l n o i=true)→done i:=fun i j o hj ho ⟨_,hp⟩=>qz hD hp fun k hk=>hD k j o hj ho hk
 have gK:∀j,(∃n,z6 l n o j=true)→done j:=fun j ⟨_,hp⟩=>qz (fun i j o h1 h2 h3=>hD i j o h1 h2 ⟨4,B9 h3⟩) hp gK
 have hil:i<log.length:=(List.getElem?_eq_some_iff.1 hi).1
 have oper:∀j,j<log.length→∃o,l[j]? =some o:=fun j hj=>⟨l[j]'(by omega),List.getElem?_eq_getElem (by omega)⟩
 have gI:∀p∈r.rs,aM s p.1=p.2:=by
  intro p hp
  refine hinv i (Nat.le_of_lt hil) eW p.1 p.2 (.inl ⟨r,hi,hp⟩) (fun j hj FM rj xh hw=>FM (gK j (xg j i rj r o xh hi ho hj (B4 hw hp))))
 refine ⟨gI, ?_⟩
 intro k hk HB key v o7 hC
 have Cb:¬done k:=fun h=>HB (.inl h)
 have hki:k≠i:=fun h=>HB (.inr h)
 have EY:v=aM (st k) key:=by
  rcases o7 with ⟨rk,HC,hin⟩|⟨_,hv⟩
  ·exact ((hst k rk HC).1 _ hin).symm
  ·exact hv
 have vA:∀j,i<j→j<k→∀rj,log[j]? =some rj→key∈rj.wr→gb r rj=true→False:=by
  intro j hij hjk rj xh hw hc
  obtain ⟨oj,L8⟩:=oper j (by omega)
  have HD:=xg i j r rj oj hi xh L8 hij hc
  by_cases hdj:done j
  ·exact eW (hD i j oj hdj L8 HD)
  ·exact hC j hjk (fun h=>by rcases h with h|h;exact hdj h;omega) rj xh hw
 by_cases hwi:key∈r.wr
 ·
  rcases Nat.lt_or_ge k i with hlt|hge
  ·exfalso
   rcases o7 with ⟨rk,HC,hin⟩|⟨hkn,_⟩
   ·exact Cb (gK k (xg k i rk r o HC hi ho hlt (B5 hin hwi)))
   ·omega
  ·have hik:i<k:=by omega
   rw [vu gI (hst i r hi).1 hwi, ← (hst i r hi).2.1 key,EY]
   have:∀d,i+1+d≤k→aM (st (i+1+d)) key=aM (st (i+1)) key:=by
    intro d
    induction d with
    |zero=>intro _;rfl
    |succ d ih=>
     intro hd
     rw [← ih (by omega)]
     have hjl:i+1+d<log.length:=by omega
     have xh:log[i+1+d]? =some log[i+1+d]:=List.getElem?_eq_getElem hjl
     have M9:key∉log[i+1+d].wr:=fun hw=>vA (i+1+d) (by omega) (by omega) _ xh hw (B6 hwi hw)
     exact ((hst _ _ xh).2.2 key M9).1
   have:=this (k - (i+1)) (by omega)
   rw [show i+1+(k - (i+1))=k from by omega] at this
   exact this.symm
 ·rw [qy hwi]
  have Na:aM s key=v:=hinv k hk Cb key v o7 (fun j hj FM rj xh=>by
   by_cases hji:j=i
   ·subst hji;rw [hi] at xh;cases xh;exact hwi
   ·exact hC j hj (fun h=>by rcases h with h|h;exact FM h;exact hji h) rj xh)
  rw [Na]
  refine KV.iA fun x hx hkx=> ?_
  rcases Nat.lt_or_ge k i with hlt|hge
  ·rcases o7 with ⟨rk,HC,hin⟩|⟨hkn,_⟩
   ·refine Cb (gK k (xg k i rk r o HC hi ho hlt (B8 hkx ?_)))
    simp only [Rec.names,List.mem_append,List.mem_flatMap]
    exact .inl (.inl ⟨_,hin,hx⟩)
   ·omega
  ·have hik:i<k:=by omega
   have:∀d,i+1+d≤k→∀x∈(aM (st (i+1+d)) key).ids,x∉r.cW:=by
    intro d
    induction d with
    |zero=>
     intro _ x hx
     rw [Nat.add_zero,((hst i r hi).2.2 key hwi).1] at hx
     exact ((hst i r hi).2.2 key hwi).2 x hx
    |succ d ih=>
     intro hd x hx
     have hjl:i+1+d<log.length:=by omega
     have xh:log[i+1+d]? =some log[i+1+d]:=List.getElem?_eq_getElem hjl
     by_cases hw:key∈log[i+1+d].wr
     ·intro hkx
      rw [show i+1+(d+1)=i+1+d+1 from by omega,(hst _ _ xh).2.1 key] at hx
      have hn:=FL (hst _ _ xh).1 hw hx
      exact vA (i+1+d) (by omega) (by omega) _ xh hw (B7 hkx hn)
     ·rw [show i+1+(d+1)=i+1+d+1 from by omega,((hst _ _ xh).2.2 key hw).1] at hx
      exact ih (by omega) x hx
   have:=this (k - (i+1)) (by omega)
   rw [show i+1+(k - (i+1))=k from by omega, ← EY] at this
   exact this x hx hkx
end
end Go.Ab
end
