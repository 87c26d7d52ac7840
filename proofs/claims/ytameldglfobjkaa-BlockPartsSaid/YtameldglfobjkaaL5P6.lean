/- A part of the proof. -/
import Derived.MapKept
import Derived.Test.YtameldglfobjkaaL5P5
set_option linter.unusedSimpArgs false
set_option linter.unusedVariables false
section
namespace Go.Ab
theorem jU {w:World} {E:Env} :∀ {as:List AV} {key:List Int} {us:List Value},intsOf as=some key→AVrs w E as us→us=key.map (Value.int .i64)
 | [],key,us,h,hr=>by simp only [intsOf,Option.some.injEq] at h;simp only [AVrs] at hr;subst h;subst hr;rfl
 |a::as,key,us,h,hr=>by
  obtain ⟨u,us',rfl,h1,h2⟩:=hr
  unfold intsOf at h
  split at h
  ·rename_i heq;cases heq
  ·rename_i b r heq
   cases heq
   split at h
   ·rename_i q hq
    cases h
    rw [aC h1,jU hq h2];rfl
   ·cases h
  ·cases h
theorem gE:∀(xs:List Int),((xs.map (Value.int .i64)).zip (xs.map (Value.int .i64))).all (fun p=>Instr.sameBits 9999 p.1 p.2)=true
 | []=>rfl
 |x::xs=>by
  simp only [List.map_cons,List.zip_cons_cons,List.all_cons,gE xs,Bool.and_true]
  simp [Instr.sameBits]
theorem fF {P:Program} (w:World) (xs:List Int):(Instr.keyThatStays (.agg (xs.map (Value.int .i64)).toArray) (.agg (xs.map (Value.int .i64)).toArray)).run P w= .ok (.agg (xs.map (Value.int .i64)).toArray) w:=by
 have:Instr.sameBits 10000 (.agg (xs.map (Value.int .i64)).toArray) (.agg (xs.map (Value.int .i64)).toArray)=true:=by
  have h:=gE xs
  simp only [Instr.sameBits,beq_self_eq_true,Bool.true_and]
  exact h
 simp [Instr.keyThatStays,this]
theorem dm {P:Program} (w:World) {kt n:Nat} (he:jm P kt n) {key:List Int} (hk:key.length=n):∀(aa:List (List Int × Int)) (es:List MapEntry) (i:Nat),es.length=aa.length→(∀p∈aa,p.1.length=n)→
 (∀(j:Nat) p,aa[j]? =some p→∃b,es[j]? =some ⟨.agg (p.1.map (Value.int .i64)).toArray, .int .i64 p.2,b⟩)→
 (Instr.findAsking kt (.agg (key.map (Value.int .i64)).toArray) es i).run P w= .ok ((bB aa key).map fun j=>(i+j, .int .i64 ((aa[j]?.map (·.2)).getD 0))) w
 | [],es,i,hl,_,_=>by
   have:es= []:=List.eq_nil_of_length_eq_zero hl
   subst this
   simp [Instr.findAsking,bB]
 |p::aa, [],i,hl,_,_=>by simp at hl
 |p::aa,e::es,i,hl,hn,h=>by
  obtain ⟨b,hb⟩:=h 0 p rfl
  simp only [List.getElem?_cons_zero,Option.some.injEq] at hb
  subst hb
  have ih:=dm w he hk aa es (i+1) (by simpa using hl) (fun q hq=>hn q (by simp [hq])) (fun j q hq=>by have:=h (j+1) q (by simpa using hq);simpa using this)
  have heq:=(he.2 w key p.1 hk (hn p (by simp))).1
  have heq':(Op.equal kt (.agg (key.map (Value.int .i64)).toArray) (.agg (p.1.map (Value.int .i64)).toArray)).run P w= .ok (decide (key=p.1)) w:=heq
  by_cases hkp:key=p.1
  ·subst hkp
   simp [Instr.findAsking,heq',bB,List.findIdx?_cons]
  ·have BB:=ih
   simp only [bB] at BB
   simp [Instr.findAsking,heq',hkp,bB,List.findIdx?_cons,BB]
   congr 1
   funext j
   simp only [Function.comp,List.getElem?_cons_succ,Prod.mk.injEq,and_true]
   omega
theorem jV {aa:List (List Int × Int)} {k:List Int} {i:Nat} (h:bB aa k=some i):∃p,aa[i]? =some p∧p.1=k:=by
 unfold bB at h
 rw [List.findIdx?_eq_some_iff_getElem] at h
 obtain ⟨hi,hp,_⟩:=h
 exact ⟨aa[i],List.getElem?_eq_getElem hi,by simpa using (of_decide_eq_true hp).symm⟩
theorem pG {aa:List (List Int × Int)} {k:List Int} (h:bB aa k=none):∀p∈aa,p.1≠k:=by
 unfold bB at h
 rw [List.findIdx?_eq_none_iff] at h
 intro p hp e
 have:=h p hp
 simp [e] at this
structure qu (P:Program) (kt n:Nat):Prop where
 jh:∀(w:World) em (key:List Int),key.length=kW n→(Instr.checkKey em 10000 kt (kV n key)).run P w= .ok () w
 find:∀(w:World) (key:List Int) aa es,key.length=kW n→er n aa es→(Instr.findKey kt (kV n key) es.toList).run P w= .ok ((bB aa key).map fun j=>(j, .int .i64 ((aa[j]?.map (·.2)).getD 0))) w
 stay:∀(w:World) (key:List Int),(Instr.keyThatStays (kV n key) (kV n key)).run P w= .ok (kV n key) w
theorem qv (n:Nat) (key:List Int):kV (n+1) key= .agg (key.map (Value.int .i64)).toArray:=rfl
theorem qw (k:Int):kV 0 [k]= .int .i64 k:=rfl
theorem mg {P:Program} {kt n:Nat} (he:jm P kt (n+1)) (hu:∃fs,P.underlying kt=some (.struct fs)):qu P kt (n+1):=by
 refine ⟨fun w em key hk=>(he.2 w key key hk hk).2 em,fun w key aa es hk pH=> ?_,fun w key=>fF w key⟩
 obtain ⟨fs,hu⟩:=hu
 have ha:=dm w he hk aa es.toList 0 (by simpa using pH.size) pH.len (fun j p hp=>⟨j,by simpa [qv] using pH.vm j p hp⟩)
 simp only [Nat.zero_add] at ha
 rw [qv]
 cases hq:es.toList with
 |nil=>
  have:aa= []:=by
   have:=pH.size
   apply List.eq_nil_of_length_eq_zero
   rw [← this]
   simpa using congrArg List.length hq
  subst this
  simp [Instr.findKey,run_underlying hu,Instr.findNow,bB]
 |cons e l=>
  have hf:Instr.findNow (.struct fs) (.agg (key.map (Value.int .i64)).toArray) (e::l) 0=none:=by
   simp [Instr.findNow,Instr.sameNow]
  rw [hq] at ha
  simp only [Instr.findKey,Sem.run_bind,run_underlying hu,Result.andThen_ok,hf]
  exact ha
theorem ia {k:Int} :∀(aa:List (List Int × Int)) (es:List MapEntry) (i:Nat),es.length=aa.length→(∀p∈aa,p.1.length=1)→
 (∀(j:Nat) p,aa[j]? =some p→∃b,es[j]? =some ⟨.int .i64 (p.1.getD 0 0), .int .i64 p.2,b⟩)→
 Instr.findNow (.int .i64) (.int .i64 k) es i=some ((bB aa [k]).map fun j=>(i+j, .int .i64 ((aa[j]?.map (·.2)).getD 0)))
 | [],es,i,hl,_,_=>by
   have:es= []:=List.eq_nil_of_length_eq_zero hl
   subst this
   simp [Instr.findNow,bB]
 |p::aa, [],i,hl,_,_=>by simp at hl
 |p::aa,e::es,i,hl,hn,h=>by
  obtain ⟨b,hb⟩:=h 0 p rfl
  simp only [List.getElem?_cons_zero,Option.some.injEq] at hb
  subst hb
  have ih:=ia (k:=k) aa es (i+1) (by simpa using hl) (fun q hq=>hn q (by simp [hq])) (fun j q hq=>by have:=h (j+1) q (by simpa using hq);simpa using this)
  obtain ⟨v,hv⟩:∃v,p.1= [v]:=by
   have:=hn p (by simp)
   match p.1,this with
   | [v],_=>exact ⟨v,rfl⟩
  by_cases hkp:k=v
  ·subst hkp
   simp [Instr.findNow,Instr.sameNow,hv,bB,List.findIdx?_cons]
  ·simp only [bB] at ih
   have Ci:(k==v)=false:=by simpa using hkp
   simp [Instr.findNow,Instr.sameNow,hv,hkp,Ci,bB,List.findIdx?_cons,ih]
   congr 1
   funext j
   simp only [Function.comp,List.getElem?_cons_succ,Prod.mk.injEq,and_true]
   omega
theorem qW {P:Program} {kt:Nat} (hu:P.underlying kt=some (.int .i64)):qu P kt 0:=by
 have one:∀key:List Int,key.length=1→∃k,key= [k]:=fun key h=>by
  match key,h with
  | [k],_=>exact ⟨k,rfl⟩
 refine ⟨fun w em key hk=> ?_,fun w key aa es hk pH=> ?_,fun w key=> ?_⟩
 ·obtain ⟨k,rfl⟩:=one key hk
  rw [qw]
  unfold Instr.checkKey
  simp [run_underlying hu]
 ·obtain ⟨k,rfl⟩:=one key hk
  have:=ia (k:=k) aa es.toList 0 (by simpa using pH.size) pH.len (fun j p hp=>⟨j,by simpa [kV] using pH.vm j p hp⟩)
  rw [qw]
  simp only [Instr.findKey,Sem.run_bind,run_underlying hu,Result.andThen_ok,this,Sem.run_pure,Nat.zero_add]
 ·show (Instr.keyThatStays (.int .i64 (key.getD 0 0)) (.int .i64 (key.getD 0 0))).run P w=_
  simp [Instr.keyThatStays,Instr.sameBits]
  rfl
theorem gn {C:Cfg} {P:Program} (hC:C.Ok P) {t n:Nat} (h:mpOk C t=some n):∃k e,P.underlying t=some (.map k e)∧qu P k n∧∀w,(zeroValue e).run P w= .ok (.int .i64 0) w:=by
 unfold mpOk at h
 split at h
 ·rename_i k e _ _ _ hT
  obtain ⟨h1,h3⟩:=(hC.T _ _ hT).2
  split at h
  ·rename_i hk
   cases h
   exact ⟨k,e,h1,qW (hC.T _ _ hk).2,h3⟩
  ·rename_i hk
   obtain ⟨fs,h2,_⟩:=(hC.T _ _ hk).2
   split at h
   ·rename_i m hm
    cases h
    exact ⟨k,e,h1,mg (hC.qj _ _ hm) ⟨_,h2⟩,h3⟩
   ·cases h
  ·cases h
 ·cases h
theorem er.w8 {n:Nat} {aa:List (List Int × Int)} {es:Array MapEntry} (h:er n aa es) {key:List Int} (hk:key.length=kW n) (hf:bB aa key=none):
 er n (dx aa key) (es.push ⟨kV n key, .int .i64 0,es.size⟩):=by
 have e:dx aa key=aa++ [(key,0)]:=by simp [dx,hf]
 rw [e]
 refine ⟨by simp [h.size],fun p hp=> ?_, ?_,fun i p hp=> ?_⟩
 ·rcases List.mem_append.1 hp with hp|hp
  ·exact h.len p hp
  ·simp at hp;subst hp;exact hk
 ·rw [List.map_append,List.nodup_append]
  refine ⟨h.apart,by simp,fun x hx y hy hxy=> ?_⟩
  simp at hy
  subst hy;subst hxy
  obtain ⟨p,hp,hpx⟩:=List.mem_map.1 hx
  exact pG hf p hp hpx
 ·by_cases hi:i<aa.length
  ·rw [List.getElem?_append_left hi] at hp
   rw [Array.getElem?_push_lt (by rw [h.size];exact hi), ← h.vm i p hp,Array.getElem?_eq_getElem]
  ·rw [List.getElem?_append_right (by omega)] at hp
   have:i=aa.length:=by
    have:=(List.getElem?_eq_some_iff.1 hp).1
    simp at this;omega
   subst this
   simp at hp;subst hp
   rw [← h.size];simp
theorem er.put {n:Nat} {aa:List (List Int × Int)} {es:Array MapEntry} (h:er n aa es) (i:Nat) (v:Int):er n (kQ aa i v) (es.modify i fun e=> {e with val:= .int .i64 v}):=by
 have hg:∀j,(kQ aa i v)[j]? =if i=j then (aa[j]?).map (fun p=>(p.1,v)) else aa[j]? :=fun j=>by
  unfold kQ;rw [List.getElem?_modify];split<;>simp
 have hm:(kQ aa i v).map (·.1)=aa.map (·.1):=by
  apply List.ext_getElem?
  intro j
  rw [List.getElem?_map,List.getElem?_map,hg]
  split
  ·cases aa[j]? <;>rfl
  ·rfl
 refine ⟨by simp [kQ,h.size],fun p hp=> ?_,by rw [hm];exact h.apart,fun j p hp=> ?_⟩
 ·have:p.1∈(kQ aa i v).map (·.1):=List.mem_map_of_mem hp
  rw [hm] at this
  obtain ⟨q,hq,e⟩:=List.mem_map.1 this
  rw [← e];exact h.len q hq
 ·rw [hg] at hp
  rw [Array.getElem?_modify]
  split at hp
  ·rename_i hij;subst hij
   simp only [Option.map_eq_some_iff] at hp
   obtain ⟨q,hq,rfl⟩:=hp
   simp [h.vm i q hq]
  ·rename_i hij
   simp [hij,h.vm j p hp]
section
variable {X:Ctx} {o:Oper} {s:ASt} {K:LA→Prop}
theorem fR {w:World} {E:Env} {l n:Nat} {aa:List (List Int × Int)} (h:az w E l (.mp n aa)) {v:Value} (hv:aN w E (.mref l) v):∃b es,v= .map (some b)∧E.ρ l=some b∧w.heap[b]? =some (.map es es.size)∧E.z b=0∧er n aa es:=by
 obtain ⟨b,es,h1,h2,h3,h4⟩:=h
 obtain ⟨b',hb',rfl⟩:=hv
 rw [h1] at hb';cases hb'
 exact ⟨b,es,rfl,h1,h2,h3,h4⟩
theorem th {w:World} {E:Env} {ks:List AV} {key:List Int} (h:intsOf ks=some key) {v:Value} (hv:aN w E (.agg ks) v):v= .agg (key.map (Value.int .i64)).toArray:=by
 obtain ⟨us,rfl,hu⟩:=hv
 rw [jU h hu]
theorem jA {w:World} {E:Env} {n:Nat} {a:AV} {key:List Int} (h:keyOf n a=some key) {v:Value} (hv:aN w E a v):v=kV n key:=by
 match n,a,h with
 |0, .d (.sc (.int .i64 k)),h=>cases h;exact aC hv
 |n+1, .agg ks,h=>exact th h hv
theorem pI (hX:X.Ok) {t:Nat} (ho:o.op= .makeMap t none) (h:vcOp X X.C o s K):∃la,ah X o la∧Sat la s∧K la:=by
 simp only [vcOp,ho] at h
 split at h
 ·rename_i d n aG hm
  obtain ⟨hd,hK⟩:=h
  refine ⟨_,ah.mk aG.symm fun s' E a w hdn hs hE=> ?_,⟨by simp,by simp⟩,hK⟩
  refine ⟨.map (some w.heap.size),w.alloc (.map #[] 0),aL E d w.heap.size (E.σ d) 0,by simp [execOp,ho,show (Instr.makeMap t none).run X.P w= .ok (.map (some w.heap.size)) (w.alloc (.map #[] 0)) from rfl], ?_⟩
  rw [aG]
  refine hE.create hX hd (kill:= [(d,none)]) (by simp [kl]) (fun l hl=>by have:=fO d l hl;unfold dlow at hd;omega) (by simp) (fun b hb=>heap_alloc_old w _ hb) rfl rfl rfl
   (fun l x hl=>absurd hl (aZ d l x)) ?_ ⟨w.heap.size,by simp [aL],rfl⟩ (fun k hk=>hdn k (by rw [aG];exact hk))
  exact ⟨w.heap.size, #[],by simp [aL],by rw [heap_alloc_new];rfl,by simp [aL],⟨rfl,by simp,by simp,by simp⟩⟩
 ·exact h.elim
theorem fB {P:Program} (w:World) {t k e n:Nat} (ht:P.underlying t=some (.map k e)) (he:qu P k n) (hz:∀w,(zeroValue e).run P w= .ok (.int .i64 0) w)
 {b:Nat} {es:Array MapEntry} {aa:List (List Int × Int)} (hb:w.heap[b]? =some (.map es es.size)) (hm:er n aa es) {key:List Int} (hk:key.length=kW n) (ok:Bool):
 (Instr.lookup t (.map (some b)) (kV n key) ok).run P w= .ok (if ok then .tuple #[.int .i64 (jo aa key), .bool (bB aa key).isSome] else .int .i64 (jo aa key)) w:=by
 have h1:=fun em=>he.jh w em key hk
 have h2:=he.find w key aa es hk hm
 simp only [Instr.lookup,Sem.run_bind,run_underlying ht,Result.andThen_ok,MapKept.run_getObj_map hb,Sem.run_pure,h1,h2]
 unfold jo
 cases hf:bB aa key with
 |none=>cases ok<;>simp [hz]
 |some i=>cases ok<;>simp
theorem qX (hX:X.Ok) {t:Nat} {x i:Operand} (ho:o.op= .lookup t x i false) (h:vcOp X X.C o s K):∃la,ah X o la∧Sat la s∧K la:=by
 simp only [vcOp,ho] at h
 split at h
 ·rename_i n' l hmp hx
  split at h
  ·rename_i n aa key hl hks
   obtain ⟨⟨rfl,bp⟩,hK⟩:=h
   obtain ⟨k,e,g1,g2,g4⟩:=gn hX.C hmp
   refine ⟨_,ah.val fun s' E a w hs hE=>⟨.int .i64 (jo aa key), ?_,aR _ rfl⟩,⟨ag s _,by simp [hl]⟩,hK⟩
   have ex:=hE.evs hs.1 X.C 0 (x:=x) (by simp)
   have ei:=hE.evs hs.1 X.C 0 (x:=i) (by simp)
   rw [hx] at ex
   obtain ⟨b,es,q1,q2,q3,q4,q5⟩:=fR (hE.good.obj l _ (hs.2 (l, .mp n aa) (by simp))) ex
   have hr:=fB w g1 g2 g4 q3 q5 bp false
   simp only [execOp,ho,q1,jA hks ei,Sem.run_bind,hr,Result.andThen_ok,Sem.run_pure]
   rfl
  ·exact h.elim
 ·exact h.elim
theorem pJ (hX:X.Ok) {t:Nat} {x i:Operand} (ho:o.op= .lookup t x i true) (h:vcOp X X.C o s K):∃la,ah X o la∧Sat la s∧K la:=by
 simp only [vcOp,ho] at h
 split at h
 ·rename_i n' l hmp hx
  split at h
  ·rename_i n aa key hl hks
   obtain ⟨⟨rfl,bp⟩,hK⟩:=h
   obtain ⟨k,e,g1,g2,g4⟩:=gn hX.C hmp
   refine ⟨_,ah.val fun s' E a w hs hE=>⟨.tuple #[.int .i64 (jo aa key), .bool (bB aa key).isSome], ?_, ?_⟩,⟨ag s _,by simp [hl]⟩,hK⟩
   rotate_left
   ·exact ⟨_,rfl,_,_,rfl,aR _ rfl,_,_,rfl, .sc _ rfl,rfl⟩
   have ex:=hE.evs hs.1 X.C 0 (x:=x) (by simp)
   have ei:=hE.evs hs.1 X.C 0 (x:=i) (by simp)
   rw [hx] at ex
   obtain ⟨b,es,q1,q2,q3,q4,q5⟩:=fR (hE.good.obj l _ (hs.2 (l, .mp n aa) (by simp))) ex
   have hr:=fB w g1 g2 g4 q3 q5 bp true
   simp only [execOp,ho,q1,jA hks ei,Sem.run_bind,hr,Result.andThen_ok,Sem.run_pure]
   rfl
  ·exact h.elim
 ·exact h.elim
theorem mh (hX:X.Ok) {t:Nat} {x i y:Operand} (ho:o.op= .mapUpdate t x i y) (h:vcOp X X.C o s K):∃la,ah X o la∧Sat la s∧K la:=by
 simp only [vcOp,ho] at h
 split at h
 ·rename_i n' l v hmp hx hy
  split at h
  ·rename_i n aa key hl hks
   obtain ⟨⟨rfl,bp⟩,hK⟩:=h
   obtain ⟨k,e,g1,g2,g4⟩:=gn hX.C hmp
   refine ⟨_,ah.skip rfl fun s' E a w hdn hs hE=> ?_,⟨ag s _,by simp [hl]⟩,hK⟩
   have ex:=hE.evs hs.1 X.C 0 (x:=x) (by simp)
   have ei:=hE.evs hs.1 X.C 0 (x:=i) (by simp)
   have ey:=hE.evs hs.1 X.C 0 (x:=y) (by simp)
   rw [hx] at ex;rw [hy] at ey
   have hl':=hs.2 (l, .mp n aa) (by simp)
   obtain ⟨b,es,q1,q2,q3,q4,q5⟩:=fR (hE.good.obj l _ hl') ex
   have h1:=fun em=>g2.jh w em key bp
   have h2:=g2.find w key aa es bp q5
   have fin:∀es':Array MapEntry,(Instr.mapUpdate t (.map (some b)) (kV n key) (.int .i64 v)).run X.P w= .ok () {w with heap:=w.heap.setIfInBounds b (.map es' es'.size)} →er n (o7 aa key v) es'→
    ∃w' E',(execOp a.eval o).run X.P w= .ok .skip w'∧aA X E' ((⟨rsOf s [x,i,y], [(l, .mp n aa)], [], [(l, .mp n (o7 aa key v))],o.dst, .cB⟩:LA).app s') (a.put o.dst undef) w':=by
    intro es' hrun Cj
    have bu:=MapKept.heap_set (o':= .map es' es'.size) q3
    refine ⟨{w with heap:=w.heap.setIfInBounds b (.map es' es'.size)},E,by simp only [execOp,ho,q1,jA hks ei,aC ey,Sem.run_bind,hrun,Result.andThen_ok,Sem.run_pure], ?_⟩
    exact hE.write hl' rfl q2 q4 (by simp) (fun k hk=>bu.2 k hk) rfl rfl rfl ⟨b,es',q2,bu.1,q4,Cj⟩ trivial hdn
   cases hf:bB aa key with
   |none=>
    have iO:=(q5.w8 bp hf).put aa.length v
    have e1:o7 aa key v=kQ (dx aa key) aa.length v:=by unfold o7 fM;rw [hf]
    rw [← e1] at iO
    have e2:((es.push ⟨kV n key, .int .i64 0,es.size⟩).modify aa.length fun e=> {e with val:= .int .i64 v})=es.push ⟨kV n key, .int .i64 v,es.size⟩:=by
     apply Array.ext_getElem?
     intro q
     rw [Array.getElem?_modify]
     split
     ·rename_i hq;subst hq
      rw [← q5.size];simp
     ·rename_i hq
      rw [Array.getElem?_push,Array.getElem?_push,q5.size]
      rw [if_neg (by omega),if_neg (by omega)]
    rw [e2] at iO
    refine fin _ ?_ iO
    simp only [hf,Option.map_none] at h2
    simp only [Instr.mapUpdate,Sem.run_bind,run_underlying g1,Result.andThen_ok,MapKept.run_getObj_map q3,h1,h2,MapKept.run_setObj_map _ q3,Array.size_push]
   |some j=>
    obtain ⟨p,hp,hpk⟩:=jV hf
    have zG:=q5.vm j p hp
    have iO:=q5.put j v
    have e1:o7 aa key v=kQ aa j v:=by unfold o7 fM dx;rw [hf]
    rw [← e1] at iO
    have e2:(es.modify j fun e=> {e with key:=kV n key,val:= .int .i64 v})=es.modify j fun e=> {e with val:= .int .i64 v} :=by
     apply Array.ext_getElem?
     intro q
     rw [Array.getElem?_modify,Array.getElem?_modify]
     split
     ·rename_i hjq;subst hjq
      rw [zG, ← hpk];rfl
     ·rfl
    rw [← e2] at iO
    refine fin _ ?_ iO
    simp only [hf,Option.map_some] at h2
    have hst:=g2.stay w key
    simp only [Instr.mapUpdate,Sem.run_bind,run_underlying g1,Result.andThen_ok,MapKept.run_getObj_map q3,h1,h2,zG,Option.map_some,Option.getD_some,hpk,hst,MapKept.run_setObj_map _ q3,Array.size_modify]
  ·exact h.elim
 ·exact h.elim
theorem nu (hX:X.Ok) {t:Nat} {x i:Operand} (ho:o.op= .mapEntry t x i) (h:vcOp X X.C o s K):∃la,ah X o la∧Sat la s∧K la:=by
 simp only [vcOp,ho] at h
 split at h
 ·rename_i n' l hmp hx
  split at h
  ·rename_i n aa key hl hks
   obtain ⟨⟨rfl,bp⟩,hK⟩:=h
   obtain ⟨k,e,g1,g2,g4⟩:=gn hX.C hmp
   refine ⟨_,ah.mk rfl fun s' E a w hdn hs hE=> ?_,⟨ag s _,by simp [hl]⟩,hK⟩
   have ex:=hE.evs hs.1 X.C 0 (x:=x) (by simp)
   have ei:=hE.evs hs.1 X.C 0 (x:=i) (by simp)
   rw [hx] at ex
   have hl':=hs.2 (l, .mp n aa) (by simp)
   obtain ⟨b,es,q1,q2,q3,q4,q5⟩:=fR (hE.good.obj l _ hl') ex
   have h1:=fun em=>g2.jh w em key bp
   have h2:=g2.find w key aa es bp q5
   have fin:∀(es':Array MapEntry) (v':Value),(Instr.mapEntry t (.map (some b)) (kV n key)).run X.P w= .ok v' {w with heap:=w.heap.setIfInBounds b (.map es' es'.size)} →er n (dx aa key) es'→
    v'= .tuple #[.int .i64 (jo aa key), .int .i64 (fM aa key:Nat)]→∃v' w' E',(execOp a.eval o).run X.P w= .ok (.value v') w'∧
    aA X E' ((⟨rsOf s [x,i], [(l, .mp n aa)], [], [(l, .mp n (dx aa key))],o.dst, .tup [.d (.sc (.int .i64 (jo aa key))), .d (.sc (.int .i64 (fM aa key:Nat)))]⟩:LA).app s') (a.put o.dst v') w':=by
    intro es' v' hrun Cj s9
    refine ⟨v', {w with heap:=w.heap.setIfInBounds b (.map es' es'.size)},E,by simp only [execOp,ho,q1,jA hks ei,Sem.run_bind,hrun,Result.andThen_ok,Sem.run_pure], ?_⟩
    have bu:=MapKept.heap_set (o':= .map es' es'.size) q3
    refine hE.write hl' rfl q2 q4 (by simp) (fun k hk=>bu.2 k hk) rfl rfl rfl ⟨b,es',q2,bu.1,q4,Cj⟩ ?_ hdn
    rw [s9]
    exact ⟨_,rfl,_,_,rfl,aR _ rfl,_,_,rfl,aR _ rfl,rfl⟩
   cases hf:bB aa key with
   |none=>
    refine fin _ (.tuple #[.int .i64 0, .int .i64 (aa.length:Nat)]) ?_ (q5.w8 bp hf) ?_
    rotate_left
    ·simp only [jo,fM,hf]
    ·simp only [hf,Option.map_none] at h2
     simp only [Instr.mapEntry,Sem.run_bind,run_underlying g1,Result.andThen_ok,MapKept.run_getObj_map q3,h1,h2,g4,MapKept.run_setObj_map _ q3,Sem.run_pure,goInt,q5.size,Array.size_push]
   |some j=>
    obtain ⟨p,hp,hpk⟩:=jV hf
    have zG:=q5.vm j p hp
    refine fin (es.modify j fun e=> {e with key:=kV n key}) (.tuple #[.int .i64 ((aa[j]?.map (·.2)).getD 0), .int .i64 (j:Nat)]) ?_ ?_ ?_
    ·simp only [hf,Option.map_some] at h2
     have hst:=g2.stay w key
     simp only [Instr.mapEntry,Sem.run_bind,run_underlying g1,Result.andThen_ok,MapKept.run_getObj_map q3,h1,h2,zG,Option.map_some,Option.getD_some,hpk,hst,MapKept.run_setObj_map _ q3,Sem.run_pure,goInt,Array.size_modify]
    ·have e1:dx aa key=aa:=by simp [dx,hf]
     rw [e1]
     have:(es.modify j fun e=> {e with key:=kV n key})=es:=by
      apply Array.ext_getElem?
      intro q
      rw [Array.getElem?_modify]
      split
      ·rename_i hjq;subst hjq
       rw [zG, ← hpk];rfl
      ·rfl
     rw [this];exact q5
    ·simp only [jo,fM,hf]
  ·exact h.elim
 ·exact h.elim
theorem mj {n:Nat} {aa:List (List Int × Int)} {es:Array MapEntry} (h:er n aa es) {i:Nat} (hi:i<aa.length):es.findIdx? (fun e=>(e.born:Int)==(i:Int))=some i:=by
 rw [Array.findIdx?_eq_some_iff_getElem]
 have zH:∀j (hj:j<es.size),es[j].born=j:=by
  intro j hj
  have:=h.vm j _ (List.getElem?_eq_getElem (by rw [← h.size];exact hj))
  rw [Array.getElem?_eq_getElem hj] at this
  simp only [Option.some.injEq] at this
  rw [this]
 refine ⟨by rw [h.size];exact hi, ?_,fun j hj=> ?_⟩
 ·rw [zH i (by rw [h.size];exact hi)];simp
 ·rw [zH j (by rw [h.size];omega)]
  have:¬((j:Int)==(i:Int))=true:=by simp;omega
  exact this
theorem kU {t:Nat} {x st y:Operand} (ho:o.op= .entryStore t x st y) (h:vcOp X X.C o s K):∃la,ah X o la∧Sat la s∧K la:=by
 simp only [vcOp,ho] at h
 split at h
 ·rename_i l i v hx hst hy
  split at h
  ·rename_i n aa hl
   obtain ⟨⟨h0,hlt⟩,hK⟩:=h
   refine ⟨_,ah.skip rfl fun s' E a w hdn hs hE=> ?_,⟨ag s _,by simp [hl]⟩,hK⟩
   have ex:=hE.evs hs.1 X.C 0 (x:=x) (by simp)
   have es':=hE.evs hs.1 X.C 0 (x:=st) (by simp)
   have ey:=hE.evs hs.1 X.C 0 (x:=y) (by simp)
   rw [hx] at ex;rw [hst] at es';rw [hy] at ey
   have hl':=hs.2 (l, .mp n aa) (by simp)
   obtain ⟨b,es,q1,q2,q3,q4,q5⟩:=fR (hE.good.obj l _ hl') ex
   have hf:=mj q5 (i:=i.toNat) (by omega)
   rw [Int.toNat_of_nonneg h0] at hf
   have bu:=MapKept.heap_set (o':= .map (es.modify i.toNat fun e=> {e with val:= .int .i64 v}) es.size) q3
   refine ⟨{w with heap:=w.heap.setIfInBounds b (.map (es.modify i.toNat fun e=> {e with val:= .int .i64 v}) es.size)},E, ?_, ?_⟩
   ·simp only [execOp,ho,q1,aC es',aC ey,Sem.run_bind,Instr.entryStore,MapKept.run_getObj_map q3,Result.andThen_ok,asInt,asIntOf,Sem.run_pure,hf,MapKept.run_setObj_map _ q3]
   ·refine hE.write hl' rfl q2 q4 (by simp) (fun k hk=>bu.2 k hk) rfl rfl rfl ⟨b,_,q2, ?_,q4,q5.put i.toNat v⟩ trivial hdn
    simp only [bu.1,Array.size_modify]
  ·exact h.elim
 ·exact h.elim
end
end Go.Ab
end
section
namespace Go.Ab
theorem e8 {X:Ctx} (hX:X.Ok) {o:Oper} {s:ASt} {K:LA→Prop} (h:vcOp X X.C o s K):∃la,ah X o la∧Sat la s∧K la:=by
 cases ho:o.op
 case move x=>exact qm (.inl ho) h
 case assign x=>exact qm (.inr ho) h
 case pick c x y=>exact vp ho h
 case alloc e=>exact s6 hX ho h
 case box e x=>exact xI hX ho h
 case build t ps=>exact sW hX ho h
 case buildSlice t n ps=>exact kR hX ho h
 case load t x=>exact vt hX ho h
 case store t x y=>exact s7 hX ho h
 case nilCheck x=>exact mZ ho h
 case unOp op t x=>exact vu ho h
 case convert t t' x=>exact pe hX ho h
 case fieldAddr st x f=>exact lY hX ho h
 case indexAddr t x i=>exact lZ hX ho h
 case field st x f=>exact sZ hX ho h
 case index t x i=>exact s4 hX ho h
 case makeSlice t x y=>exact l7 hX ho h
 case slice t x lo hi mx=>exact tg hX ho h
 case extract x i=>exact o9 ho h
 case makeMap t r=>
  cases r with
  |none=>exact pI hX ho h
  |some r=>simp only [vcOp,ho] at h
 case lookup t x i c=>
  cases c with
  |false=>exact qX hX ho h
  |true=>exact pJ hX ho h
 case mapUpdate t x i y=>exact mh hX ho h
 case mapEntry t x i=>exact nu hX ho h
 case entryStore t x st y=>exact kU ho h
 case makeFunc fn first captured=>
  cases fn with
  |func f=>exact ng ho h
  |_=>simp only [vcOp,ho] at h
 case binOp op xt x y yt=>
  have h0:=h
  simp only [vcOp,ho] at h
  split at h
  ·rename_i p q hp hq
   exact xD ho hp hq h
  ·rename_i p q hp hq
   exact B3 ho hp hq h
  ·rename_i p q hp hq
   exact zh ho hp hq h
  ·split at h
   ·exact wY (.inl ⟨rfl,rfl⟩) hX ho h
   ·exact wY (.inr ⟨rfl,rfl⟩) hX ho h
   ·exact h.elim
 case call c=>
  simp only [vcOp,ho] at h
  split at h
  ·rename_i b hc
   have h0:=h
   unfold vcBuiltin at h
   split at h
   ·rename_i x t ha ht
    rw [ha,ht] at h0
    exact xG hX ho hc ha ht h0
   ·rename_i x t ha ht
    rw [ha,ht] at h0
    exact xH hX ho hc ha ht h0
   ·rename_i x y t t' ha ht
    rw [ha,ht] at h0
    exact qU hX ho hc ha ht h0
   ·rename_i x y ts ha
    rw [ha] at h0
    exact lu (.inl rfl) ho hc ha h0
   ·rename_i x y ts ha
    rw [ha] at h0
    exact lu (.inr rfl) ho hc ha h0
   ·exact h.elim
  ·exact h.run
  ·exact h.elim
 all_goals (simp only [vcOp,ho] at h)
def gslot (l:List Oper) (j:Nat):Option Nat:=match l[j]? with|some o=>o.dst|none=>none
def aY (X:Ctx) (C:Cfg) (l:List Oper):List Oper→ASt→(ASt→Prop)→Prop
 | [],s,K=>K s
 |o::rest,s,K=>match o.guard with
  |none=>vcOp X C o s fun la=>aY X C l rest (la.app s) K
  |some (j,want)=>match gslot l j with
   |none=>False
   |some g=>match get s.t g with
    | .d (.sc (.bool b))=>
      (b=want→vcOp X C o (s.put (some g) (.d (.sc (.bool want)))) fun la=>aY X C l rest (la.app (s.put (some g) (.d (.sc (.bool want))))) K)∧
      (b=(!want)→aY X C l rest ((s.put (some g) (.d (.sc (.bool (!want))))).put o.dst (.tup [])) K)
    | .tup []=>aY X C l rest (s.put o.dst (.tup [])) K
    |_=>False
theorem Oper.mo {P:Program} {o:Oper} {a:Act} {w:World} {K K':Act→World→Prop} {Q:Exit→Act→World→Prop} (h:∀a w,K a w→K' a w) (hh:o.wp P a w K zf):o.wp P a w K' Q:=by
 unfold Oper.wp at*
 generalize (execOp a.eval o).run P w=r at*
 cases r with
 |ok n w'=>
  cases n<;>simp only [Oper.upon] at hh ⊢ <;>
   first
    |exact h _ _ hh
    |exact Calls.mono hh (fun e w'' he=>by
      cases e
      ·exact h _ _ he
      ·exact he.elim
      ·obtain ⟨a0,w0,h0⟩:=he;exact h0.elim)
    |exact Rows.mono hh (fun _ _ he=>h _ _ he)
 |halt x w'=>cases x<;>simp only [Oper.upon,zf] at hh
theorem aA.put {X:Ctx} {E:Env} {s:ASt} {a:Act} {w:World} (h:aA X E s a w) {g:Nat} {v:AV} (hv:aN w E v (a.tmps.getD g undef)):aA X E (s.put (some g) v) a w:=
 ⟨h.defers,h.size,h.good,h.dR,h.mine,fun k=>by
   simp only [ASt.put,get]
   split
   ·rename_i hk;subst hk;exact hv
   ·exact h.slot k⟩
theorem aA.cB {X:Ctx} {E:Env} {s:ASt} {a:Act} {w:World} (h:aA X E s a w) (dst:Option Nat) (u:Value):aA X E (s.put dst .cB) (a.put dst u) w:=by
 cases dst with
 |none=>exact h
 |some d=>
  refine ⟨h.defers,by simp [Act.put,h.size],h.good,h.dR,h.mine,fun k=> ?_⟩
  simp only [ASt.put,get,Act.put]
  split
  ·trivial
  ·rename_i hk
   have:(a.tmps.setIfInBounds d u).getD k undef=a.tmps.getD k undef:=by
    simp only [Array.getD_eq_getD_getElem?,Array.getElem?_setIfInBounds_ne hk]
   rw [this];exact h.slot k
theorem aA.BC {X:Ctx} {E:Env} {s:ASt} {a:Act} {w:World} (h:aA X E s a w) (dst:Option Nat):aA X E (s.put dst (.tup [])) (a.put dst undef) w:=by
 cases dst with
 |none=>exact h
 |some d=>
  refine ⟨h.defers,by simp [Act.put,h.size],h.good,h.dR,h.mine,fun k=> ?_⟩
  simp only [ASt.put,get,Act.put]
  split
  ·rename_i hk
   subst hk
   have:(a.tmps.setIfInBounds d undef).getD d undef=undef:=by
    simp only [Array.getD_eq_getD_getElem?,Array.getElem?_setIfInBounds]
    split
    ·split<;>rfl
    ·rename_i hne;exact absurd trivial hne
   rw [this]
   exact ⟨[],rfl,rfl⟩
  ·rename_i hk
   have:(a.tmps.setIfInBounds d undef).getD k undef=a.tmps.getD k undef:=by
    simp only [Array.getD_eq_getD_getElem?,Array.getElem?_setIfInBounds_ne hk]
   rw [this];exact h.slot k
theorem ji {X:Ctx} {E:Env} {s:ASt} {a:Act} {w:World} (h:aA X E s a w) {l:List Oper} {j g:Nat} (hg:gslot l j=some g) (hb:get s.t g= .tup []):
 yielded l.toArray a.tmps j=none:=by
 have hv:=h.slot g
 rw [hb] at hv
 obtain ⟨us,hv,h2⟩:=hv
 have h2:us= []:=h2
 subst h2
 unfold gslot at hg
 split at hg
 ·rename_i o ho
  unfold yielded
  have hq:a.tmps[g]? =none∨a.tmps[g]? =some (.tuple #[]):=by
   rw [Array.getD_eq_getD_getElem?] at hv
   cases hq:a.tmps[g]? with
   |none=>exact .inl rfl
   |some v=>rw [hq] at hv;simp at hv;rw [hv];exact .inr rfl
  rcases hq with hq|hq<;>simp [ho,hg,hq]
 ·cases hg
theorem jW {X:Ctx} {E:Env} {s:ASt} {a:Act} {w:World} (h:aA X E s a w) {l:List Oper} {j g:Nat} {b:Bool} (hg:gslot l j=some g) (hb:get s.t g= .d (.sc (.bool b))):
 yielded l.toArray a.tmps j=some b∧a.tmps.getD g undef= .bool b:=by
 have hv:=h.slot g
 rw [hb] at hv
 have hv:=bq hv
 refine ⟨?_,hv⟩
 unfold gslot at hg
 split at hg
 ·rename_i o ho
  unfold yielded
  have:a.tmps[g]? =some (.bool b):=by
   rw [Array.getD_eq_getD_getElem?] at hv
   cases hq:a.tmps[g]? with
   |none=>rw [hq] at hv;simp [undef] at hv
   |some v=>rw [hq] at hv;simp at hv;rw [hv]
  simp [ho,hg,this]
 ·cases hg
theorem jj {X:Ctx} (hX:X.Ok) {l:List Oper} {Q:Exit→Act→World→Prop} {K:ASt→Prop} (hK:∀s a w,K s→Rel X s a w→Q .normal a w):
 ∀(r:List Oper) (s:ASt),(∀o∈r,∀d,o.dst=some d→d<X.n)→aY X X.C l r s K→∀a w,Rel X s a w→wpList X.P l.toArray Q r a w
 | [],s,_,h,a,w,hr=>hK s a w h hr
 |o::r,s,hd,h,a,w,hr=>by
  have ih:=jj hX (l:=l) hK r
  have hd':∀o∈r,∀d,o.dst=some d→d<X.n:=fun o ho=>hd o (by simp [ho])
  have run:∀s,Rel X s a w→(vcOp X X.C o s fun la=>aY X X.C l r (la.app s) K)→o.wp X.P a w (wpList X.P l.toArray Q r) Q:=by
   intro s hr h
   obtain ⟨la,⟨_,h1⟩,h2,h3⟩:=e8 hX h
   exact Oper.mo (fun a' w' hr'=>ih (la.app s) hd' h3 a' w' hr') (h1 s a w (hd o (by simp)) h2 hr)
  unfold wpList
  unfold aY at h
  cases hgd:o.guard with
  |none=>
   simp only [hgd] at h
   rw [if_pos (by simp [Region.wanted,hgd])]
   exact .inl (run s hr h)
  |some p=>
   obtain ⟨j,want⟩:=p
   simp only [hgd] at h
   split at h
   ·exact h.elim
   ·rename_i g hg
    split at h
    ·rename_i b hb
     obtain ⟨E,hE⟩:=hr
     obtain ⟨hy,hv⟩:=jW hE hg hb
     by_cases zI:b=want
     ·subst zI
      rw [if_pos (by simp [Region.wanted,hgd,hy])]
      exact .inl (run _ ⟨E,hE.put (by rw [hv];exact aR _ rfl)⟩ (h.1 rfl))
     ·have zJ:b= !want:=by cases b<;>cases want<;>simp_all
      rw [if_neg (by simp [Region.wanted,hgd,hy,zI])]
      exact ih _ hd' (h.2 zJ) _ _ ⟨E,(hE.put (by rw [hv,zJ];exact aR _ rfl)).BC o.dst⟩
    ·rename_i hb
     obtain ⟨E,hE⟩:=hr
     have hy:=ji hE hg hb
     rw [if_neg (by simp [Region.wanted,hgd,hy])]
     exact ih _ hd' h _ _ ⟨E,hE.BC o.dst⟩
    ·exact h.elim
def BD (n:Nat):List Oper→Bool
 | []=>true
 |o::r=>(match o.dst with|some d=>decide (d<n)|none=>true)&&BD n r
theorem jX {n:Nat} :∀ {l:List Oper},BD n l=true→∀o∈l,∀d,o.dst=some d→d<n
 | [],_,o,ho,_,_=>by cases ho
 |q::r,h,o,ho,d,hd=>by
  simp only [BD,Bool.and_eq_true] at h
  rcases List.mem_cons.1 ho with rfl|ho
  ·have:=h.1;rw [hd] at this;simpa using this
  ·exact jX h.2 o ho d hd
def mq (n:Nat):Code→Bool
 | .region _ ops _=>BD n ops.toList
 | .seq x y=>mq n x&&mq n y
 | .cond _ x y=>mq n x&&mq n y
 | .block _ x=>mq n x
 | .loop x=>mq n x
 | .skip=>true
 | .exit _=>true
 | .ret=>true
 | .rangeFunc _ ps x y=>ps.toList.all (fun p=>decide (p<n))&&mq n x&&mq n y
 |_=>false
def lift (X:Ctx) (Q:Exit→ASt→Prop):Exit→Act→World→Prop:=fun e a w=>∃s,Q e s∧Rel X s a w
structure bA (X:Ctx) (c:Code) (Q:Exit→ASt→Prop) (s:ASt):Prop where
 run:mq X.n c=true→∀a w,Rel X s a w→c.wp X.P (lift X Q) a w
def athen (K:ASt→Prop) (Q:Exit→ASt→Prop):Exit→ASt→Prop
 | .normal,s=>K s
 |e,s=>Q e s
def ablock (id:Nat) (Q:Exit→ASt→Prop):Exit→ASt→Prop
 | .exit id',s=>if id'=id then Q .normal s else Q (.exit id') s
 |e,s=>Q e s
section
variable {X:Ctx} {Q:Exit→ASt→Prop} {s:ASt}
theorem jY (hX:X.Ok) {id:Nat} {l:List Oper} (h:aY X X.C l l s (fun s'=>Q .normal s')):bA X (.region id l.toArray false) Q s:=by
 refine ⟨fun hc a w hr=> ?_⟩
 refine wp_region_list ?_
 exact jj hX (K:=fun s'=>Q .normal s') (Q:=lift X Q) (fun s a w hs hr=>⟨s,hs,hr⟩) l s (jX (by simpa [mq] using hc)) h a w hr
theorem tj {c:Code} {Q':Exit→ASt→Prop} (h:bA X c Q s) (hq:∀e s,Q e s→Q' e s):bA X c Q' s:=
 ⟨fun hc a w hr=>wp_mono (h.run hc a w hr) fun e a w ⟨s,h1,h2⟩=>⟨s,hq e s h1,h2⟩⟩
theorem wG {x y:Code} (h:bA X x (athen (fun s'=>bA X y Q s') Q) s):bA X (.seq x y) Q s:=by
 refine ⟨fun hc a w hr=> ?_⟩
 simp only [mq,Bool.and_eq_true] at hc
 refine wp_seq (wp_mono (h.run hc.1 a w hr) ?_)
 rintro e a w ⟨s,h1,h2⟩
 cases e<;>first|exact h1.run hc.2 a w h2|exact ⟨s,h1,h2⟩
theorem wI (h:Q .normal s):bA X .skip Q s:=⟨fun _ a w hr=>wp_skip ⟨s,h,hr⟩⟩
theorem wJ {id:Nat} (h:Q (.exit id) s):bA X (.exit id) Q s:=⟨fun _ a w hr=>wp_exit ⟨s,h,hr⟩⟩
theorem wK (h:Q .ret s):bA X .ret Q s:=⟨fun _ a w hr=>wp_ret ⟨s,h,hr⟩⟩
theorem wM {c:Nat} {x y:Code} {b:Bool} (hc:get s.t c= .d (.sc (.bool b))) (h1:b=true→bA X x Q s) (h2:b=false→bA X y Q s):bA X (.cond (.tmp c) x y) Q s:=by
 refine ⟨fun hk a w ⟨E,hE⟩=> ?_⟩
 simp only [mq,Bool.and_eq_true] at hk
 have hv:=hE.slot c
 rw [hc] at hv
 have hv:=bq hv
 cases b with
 |true=>exact wp_cond_true (by simpa [Act.eval] using hv) ((h1 rfl).run hk.1 a w ⟨E,hE⟩)
 |false=>exact wp_cond_false (by simpa [Act.eval] using hv) ((h2 rfl).run hk.2 a w ⟨E,hE⟩)
theorem wL {c:Nat} {x y:Code} {p:Prop} (hc:get s.t c= .cM p) (h1:p→bA X x Q s) (h2:bA X y Q s):bA X (.cond (.tmp c) x y) Q s:=by
 refine ⟨fun hk a w ⟨E,hE⟩=> ?_⟩
 simp only [mq,Bool.and_eq_true] at hk
 have hv:=hE.slot c
 rw [hc] at hv
 obtain ⟨b,hv,hp⟩:=hv
 cases b with
 |true=>exact wp_cond_true (by simpa [Act.eval] using hv) ((h1 (hp rfl)).run hk.1 a w ⟨E,hE⟩)
 |false=>exact wp_cond_false (by simpa [Act.eval] using hv) (h2.run hk.2 a w ⟨E,hE⟩)
theorem wH {id:Nat} {x:Code} (h:bA X x (ablock id Q) s):bA X (.block id x) Q s:=by
 refine ⟨fun hk a w hr=> ?_⟩
 refine wp_block (wp_mono (h.run hk a w hr) ?_)
 rintro e a w ⟨s,h1,h2⟩
 cases e with
 |exit id'=>
  simp only [Exit.inBlock,ablock] at h1 ⊢
  split
  ·rename_i hid;simp only [hid,if_true] at h1;exact ⟨s,h1,h2⟩
  ·rename_i hid;simp only [hid,if_false] at h1;exact ⟨s,h1,h2⟩
 |_=>exact ⟨s,h1,h2⟩
structure Le (s s':ASt):Prop where
 t:∀k,get s'.t k= .cB∨get s.t k=get s'.t k
 m:∀l o,look s'.m l=some o→look s.m l=some o
theorem Le.aD {s s':ASt} (h:Le s s') {l:Nat} {o:AObj} (hl:aD s'.m l=some o):aD s.m l=some o:=by
 unfold Ab.aD at hl ⊢
 split at hl
 ·exact h.m l o hl
 ·rename_i b i _
  cases hq:look s'.m b with
  |none=>rw [hq] at hl;simp [inner] at hl
  |some q=>rw [h.m b q hq];rw [hq] at hl;exact hl
theorem Rel.le {s s':ASt} (h:Le s s') {a:Act} {w:World} (hr:Rel X s a w):Rel X s' a w:=by
 obtain ⟨E,hE⟩:=hr
 refine ⟨E,hE.defers,hE.size,⟨fun l hl=> ?_,fun l l' b hl hl'=> ?_,fun l o hl=>hE.good.dQ l o (h.aD hl),hE.good.fresh⟩,hE.dR,fun l o b hl=>hE.mine l o b (h.aD hl),fun k=> ?_⟩
 ·obtain ⟨o,ho⟩:=Option.ne_none_iff_exists'.1 hl
  exact hE.good.low l (by simp [h.m l o ho])
 ·obtain ⟨o,ho⟩:=Option.ne_none_iff_exists'.1 hl
  obtain ⟨o',ho'⟩:=Option.ne_none_iff_exists'.1 hl'
  exact hE.good.inj l l' b (by simp [h.aD ho]) (by simp [h.aD ho'])
 ·rcases h.t k with hk|hk
  ·rw [hk];trivial
  ·rw [← hk];exact hE.slot k
theorem tq {x:Code} {ι:Type} (I:ι→ASt) (μ:ι→Nat) (i0:ι) (h0:Le s (I i0)) (h:∀i,bA X x (athen (fun s'=>∃j,Le s' (I j)∧μ j<μ i) Q) (I i)):bA X (.loop x) Q s:=by
 refine ⟨fun hk a w hr=> ?_⟩
 simp only [mq] at hk
 intro b k cs
 have key:∀(n:Nat) (i:ι) (a:Act) (w:World),μ i=n→Rel X (I i) a w→
  ∃e a' w',lift X Q e a' w'∧Arrives X.P (lone (b.at a (.code x:: .inLoop x::k)) cs w) b k cs e a' w':=by
  intro n
  induction n using Nat.strongRecOn with
  |_ n ih=>
   intro i a w hn hI
   obtain ⟨e,a₁,w₁,⟨s1,hq,nh⟩,nv⟩:=(h i).run hk a w hI b (.inLoop x::k) cs
   cases e with
   |normal=>
    obtain ⟨j,hj,hlt⟩:=hq
    obtain ⟨e₂,a₂,w₂,Fq,zK⟩:=ih (μ j) (hn ▸ hlt) j a₁ w₁ rfl (nh.le hj)
    exact ⟨e₂,a₂,w₂,Fq, .of_steps (Steps.trans nv (.one step_inLoop)) zK⟩
   |exit id=>exact ⟨_,a₁,w₁,⟨s1,hq,nh⟩, .pass (x:= .inLoop x) rfl (fun _ _=> .inl (by simp)) nv⟩
   |goto l=>exact ⟨_,a₁,w₁,⟨s1,hq,nh⟩, .pass (x:= .inLoop x) rfl (fun _ _=> .inl (by simp)) nv⟩
   |ret=>exact ⟨_,a₁,w₁,⟨s1,hq,nh⟩, .pass (x:= .inLoop x) rfl (fun _ _=> .inl (by simp)) nv⟩
   |panic ch=>exact ⟨_,a₁,w₁,⟨s1,hq,nh⟩, .pass (x:= .inLoop x) rfl (fun _ _=> .inl (by simp)) nv⟩
   |outgrown=>exact ⟨_,a₁,w₁,⟨s1,hq,nh⟩, .pass (x:= .inLoop x) rfl (fun _ _=> .inl (by simp)) nv⟩
 obtain ⟨e,a',w',hq,nv⟩:=key _ i0 a w rfl (hr.le h0)
 exact ⟨e,a',w',hq, .of_steps (.one step_loop) nv⟩
end
end Go.Ab
end
