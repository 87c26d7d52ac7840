/- A part of the proof. -/
import Derived.MapKept
import Derived.Test.YtameldglfobjkaaL6P5
set_option linter.unusedSimpArgs false
set_option linter.unusedVariables false
section
namespace Go.Ab
theorem kM {w:World} {E:Env} :∀ {as:List AV} {key:List Int} {us:List Value},intsOf as=some key→AVrs w E as us→us=key.map (Value.int .i64)
 | [],key,us,h,hr=>by simp only [intsOf,Option.some.injEq] at h;simp only [AVrs] at hr;subst h;subst hr;rfl
 |a::as,key,us,h,hr=>by
  obtain ⟨u,us',rfl,h1,h2⟩:=hr
  unfold intsOf at h
  split at h
  ·rename_i heq;cases heq
  ·rename_i b r heq
   cases heq
   split at h
   ·rename_i q hq
    cases h
    rw [aI h1,kM hq h2];rfl
   ·cases h
  ·cases h
theorem hU:∀(xs:List Int),((xs.map (Value.int .i64)).zip (xs.map (Value.int .i64))).all (fun p=>Instr.sameBits 9999 p.1 p.2)=true
 | []=>rfl
 |x::xs=>by
  simp only [List.map_cons,List.zip_cons_cons,List.all_cons,hU xs,Bool.and_true]
  simp [Instr.sameBits]
theorem fS {P:Program} (w:World) (xs:List Int):(Instr.keyThatStays (.agg (xs.map (Value.int .i64)).toArray) (.agg (xs.map (Value.int .i64)).toArray)).run P w= .ok (.agg (xs.map (Value.int .i64)).toArray) w:=by
 have:Instr.sameBits 10000 (.agg (xs.map (Value.int .i64)).toArray) (.agg (xs.map (Value.int .i64)).toArray)=true:=by
  have h:=hU xs
  simp only [Instr.sameBits,beq_self_eq_true,Bool.true_and]
  exact h
 simp [Instr.keyThatStays,this]
theorem dz {P:Program} (w:World) {kt n:Nat} (he:gQ P kt (n+1)) {key:List Int} (hk:key.length=n+1):∀(ag:List (List Int × Int)) (es:List MapEntry) (i:Nat),es.length=ag.length→(∀p∈ag,p.1.length=n+1)→
 (∀(j:Nat) p,ag[j]? =some p→∃b,es[j]? =some ⟨.agg (p.1.map (Value.int .i64)).toArray, .int .i64 p.2,b⟩)→
 (Instr.findAsking kt (.agg (key.map (Value.int .i64)).toArray) es i).run P w= .ok ((bL ag key).map fun j=>(i+j, .int .i64 ((ag[j]?.map (·.2)).getD 0))) w
 | [],es,i,hl,_,_=>by
   have:es= []:=List.eq_nil_of_length_eq_zero hl
   subst this
   simp [Instr.findAsking,bL]
 |p::ag, [],i,hl,_,_=>by simp at hl
 |p::ag,e::es,i,hl,hn,h=>by
  obtain ⟨b,hb⟩:=h 0 p rfl
  simp only [List.getElem?_cons_zero,Option.some.injEq] at hb
  subst hb
  have ih:=dz w he hk ag es (i+1) (by simpa using hl) (fun q hq=>hn q (by simp [hq])) (fun j q hq=>by have:=h (j+1) q (by simpa using hq);simpa using this)
  have heq:=(he.2 w key p.1 hk (hn p (by simp))).1
  have heq':(Op.equal kt (.agg (key.map (Value.int .i64)).toArray) (.agg (p.1.map (Value.int .i64)).toArray)).run P w= .ok (decide (key=p.1)) w:=heq
  by_cases hkp:key=p.1
  ·subst hkp
   simp [Instr.findAsking,heq',bL,List.findIdx?_cons]
  ·have C1:=ih
   simp only [bL] at C1
   simp [Instr.findAsking,heq',hkp,bL,List.findIdx?_cons,C1]
   congr 1
   funext j
   simp only [Function.comp,List.getElem?_cons_succ,Prod.mk.injEq,and_true]
   omega
theorem kN {ag:List (List Int × Int)} {k:List Int} {i:Nat} (h:bL ag k=some i):∃p,ag[i]? =some p∧p.1=k:=by
 unfold bL at h
 rw [List.findIdx?_eq_some_iff_getElem] at h
 obtain ⟨hi,hp,_⟩:=h
 exact ⟨ag[i],List.getElem?_eq_getElem hi,by simpa using (of_decide_eq_true hp).symm⟩
theorem qq {ag:List (List Int × Int)} {k:List Int} (h:bL ag k=none):∀p∈ag,p.1≠k:=by
 unfold bL at h
 rw [List.findIdx?_eq_none_iff] at h
 intro p hp e
 have:=h p hp
 simp [e] at this
structure rL (P:Program) (kt n:Nat):Prop where
 jU:∀(w:World) em (key:List Int),key.length=kW n→(Instr.checkKey em 10000 kt (kV n key)).run P w= .ok () w
 find:∀(w:World) (key:List Int) ag es,key.length=kW n→eL n ag es→(Instr.findKey kt (kV n key) es.toList).run P w= .ok ((bL ag key).map fun j=>(j, .int .i64 ((ag[j]?.map (·.2)).getD 0))) w
 stay:∀(w:World) (key:List Int),(Instr.keyThatStays (kV n key) (kV n key)).run P w= .ok (kV n key) w
theorem rM (n:Nat) (key:List Int):kV (n+1) key= .agg (key.map (Value.int .i64)).toArray:=rfl
theorem rO (k:Int):kV 0 [k]= .int .i64 k:=rfl
theorem mY {P:Program} {kt n:Nat} (he:gQ P kt (n+1)) (hu:∃fs,P.underlying kt=some (.struct fs)):rL P kt (n+1):=by
 refine ⟨fun w em key hk=>(he.2 w key key hk hk).2 em,fun w key ag es hk uF=> ?_,fun w key=>fS w key⟩
 obtain ⟨fs,hu⟩:=hu
 have ha:=dz w he hk ag es.toList 0 (by simpa using uF.size) uF.len (fun j p hp=>⟨j,by simpa [rM] using uF.nV j p hp⟩)
 simp only [Nat.zero_add] at ha
 rw [rM]
 cases hq:es.toList with
 |nil=>
  have:ag= []:=by
   have:=uF.size
   apply List.eq_nil_of_length_eq_zero
   rw [← this]
   simpa using congrArg List.length hq
  subst this
  simp [Instr.findKey,run_underlying hu,Instr.findNow,bL]
 |cons e l=>
  have hf:Instr.findNow (.struct fs) (.agg (key.map (Value.int .i64)).toArray) (e::l) 0=none:=by
   simp [Instr.findNow,Instr.sameNow]
  rw [hq] at ha
  simp only [Instr.findKey,Sem.run_bind,run_underlying hu,Result.andThen_ok,hf]
  exact ha
theorem iO {k:Int} :∀(ag:List (List Int × Int)) (es:List MapEntry) (i:Nat),es.length=ag.length→(∀p∈ag,p.1.length=1)→
 (∀(j:Nat) p,ag[j]? =some p→∃b,es[j]? =some ⟨.int .i64 (p.1.getD 0 0), .int .i64 p.2,b⟩)→
 Instr.findNow (.int .i64) (.int .i64 k) es i=some ((bL ag [k]).map fun j=>(i+j, .int .i64 ((ag[j]?.map (·.2)).getD 0)))
 | [],es,i,hl,_,_=>by
   have:es= []:=List.eq_nil_of_length_eq_zero hl
   subst this
   simp [Instr.findNow,bL]
 |p::ag, [],i,hl,_,_=>by simp at hl
 |p::ag,e::es,i,hl,hn,h=>by
  obtain ⟨b,hb⟩:=h 0 p rfl
  simp only [List.getElem?_cons_zero,Option.some.injEq] at hb
  subst hb
  have ih:=iO (k:=k) ag es (i+1) (by simpa using hl) (fun q hq=>hn q (by simp [hq])) (fun j q hq=>by have:=h (j+1) q (by simpa using hq);simpa using this)
  obtain ⟨v,hv⟩:∃v,p.1= [v]:=by
   have:=hn p (by simp)
   match p.1,this with
   | [v],_=>exact ⟨v,rfl⟩
  by_cases hkp:k=v
  ·subst hkp
   simp [Instr.findNow,Instr.sameNow,hv,bL,List.findIdx?_cons]
  ·simp only [bL] at ih
   have DI:(k==v)=false:=by simpa using hkp
   simp [Instr.findNow,Instr.sameNow,hv,hkp,DI,bL,List.findIdx?_cons,ih]
   congr 1
   funext j
   simp only [Function.comp,List.getElem?_cons_succ,Prod.mk.injEq,and_true]
   omega
theorem sQ {P:Program} {kt:Nat} (hu:P.underlying kt=some (.int .i64)):rL P kt 0:=by
 have one:∀key:List Int,key.length=1→∃k,key= [k]:=fun key h=>by
  match key,h with
  | [k],_=>exact ⟨k,rfl⟩
 refine ⟨fun w em key hk=> ?_,fun w key ag es hk uF=> ?_,fun w key=> ?_⟩
 ·obtain ⟨k,rfl⟩:=one key hk
  rw [rO]
  unfold Instr.checkKey
  simp [run_underlying hu]
 ·obtain ⟨k,rfl⟩:=one key hk
  have:=iO (k:=k) ag es.toList 0 (by simpa using uF.size) uF.len (fun j p hp=>⟨j,by simpa [kV] using uF.nV j p hp⟩)
  rw [rO]
  simp only [Instr.findKey,Sem.run_bind,run_underlying hu,Result.andThen_ok,this,Sem.run_pure,Nat.zero_add]
 ·show (Instr.keyThatStays (.int .i64 (key.getD 0 0)) (.int .i64 (key.getD 0 0))).run P w=_
  simp [Instr.keyThatStays,Instr.sameBits]
  rfl
theorem gH {C:Cfg} {P:Program} (hC:C.Ok P) {t n:Nat} (h:mpOk C t=some n):∃k e,P.underlying t=some (.map k e)∧rL P k n∧∀w,(zeroValue e).run P w= .ok (.int .i64 0) w:=by
 unfold mpOk at h
 split at h
 ·rename_i k e _ _ _ hT
  obtain ⟨h1,h3⟩:=(hC.T _ _ hT).2
  split at h
  ·rename_i hk
   cases h
   exact ⟨k,e,h1,sQ (hC.T _ _ hk).2,h3⟩
  ·rename_i hk
   obtain ⟨fs,h2,_⟩:=(hC.T _ _ hk).2
   split at h
   ·rename_i m hm
    cases h
    exact ⟨k,e,h1,mY (hC.p8 _ _ hm) ⟨_,h2⟩,h3⟩
   ·cases h
  ·cases h
 ·cases h
theorem eL.yD {n:Nat} {ag:List (List Int × Int)} {es:Array MapEntry} (h:eL n ag es) {key:List Int} (hk:key.length=kW n) (hf:bL ag key=none):
 eL n (dD ag key) (es.push ⟨kV n key, .int .i64 0,es.size⟩):=by
 have e:dD ag key=ag++ [(key,0)]:=by simp [dD,hf]
 rw [e]
 refine ⟨by simp [h.size],fun p hp=> ?_, ?_,fun i p hp=> ?_⟩
 ·rcases List.mem_append.1 hp with hp|hp
  ·exact h.len p hp
  ·simp at hp;subst hp;exact hk
 ·rw [List.map_append,List.nodup_append]
  refine ⟨h.apart,by simp,fun x hx y hy hxy=> ?_⟩
  simp at hy
  subst hy;subst hxy
  obtain ⟨p,hp,hpx⟩:=List.mem_map.1 hx
  exact qq hf p hp hpx
 ·by_cases hi:i<ag.length
  ·rw [List.getElem?_append_left hi] at hp
   rw [Array.getElem?_push_lt (by rw [h.size];exact hi), ← h.nV i p hp,Array.getElem?_eq_getElem]
  ·rw [List.getElem?_append_right (by omega)] at hp
   have:i=ag.length:=by
    have:=(List.getElem?_eq_some_iff.1 hp).1
    simp at this;omega
   subst this
   simp at hp;subst hp
   rw [← h.size];simp
theorem eL.put {n:Nat} {ag:List (List Int × Int)} {es:Array MapEntry} (h:eL n ag es) (i:Nat) (v:Int):eL n (lW ag i v) (es.modify i fun e=> {e with val:= .int .i64 v}):=by
 have hg:∀j,(lW ag i v)[j]? =if i=j then (ag[j]?).map (fun p=>(p.1,v)) else ag[j]? :=fun j=>by
  unfold lW;rw [List.getElem?_modify];split<;>simp
 have hm:(lW ag i v).map (·.1)=ag.map (·.1):=by
  apply List.ext_getElem?
  intro j
  rw [List.getElem?_map,List.getElem?_map,hg]
  split
  ·cases ag[j]? <;>rfl
  ·rfl
 refine ⟨by simp [lW,h.size],fun p hp=> ?_,by rw [hm];exact h.apart,fun j p hp=> ?_⟩
 ·have:p.1∈(lW ag i v).map (·.1):=List.mem_map_of_mem hp
  rw [hm] at this
  obtain ⟨q,hq,e⟩:=List.mem_map.1 this
  rw [← e];exact h.len q hq
 ·rw [hg] at hp
  rw [Array.getElem?_modify]
  split at hp
  ·rename_i hij;subst hij
   simp only [Option.map_eq_some_iff] at hp
   obtain ⟨q,hq,rfl⟩:=hp
   simp [h.nV i q hq]
  ·rename_i hij
   simp [hij,h.nV j p hp]
section
variable {X:Ctx} {o:Oper} {s:ASt} {K:LA→Prop}
theorem gp {w:World} {E:Env} {l n:Nat} {ag:List (List Int × Int)} (h:aF w E l (.mp n ag)) {v:Value} (hv:aQ w E (.mref l) v):∃b es,v= .map (some b)∧E.ρ l=some b∧w.heap[b]? =some (.map es es.size)∧E.z b=0∧eL n ag es:=by
 obtain ⟨b,es,h1,h2,h3,h4⟩:=h
 obtain ⟨b',hb',rfl⟩:=hv
 rw [h1] at hb';cases hb'
 exact ⟨b,es,rfl,h1,h2,h3,h4⟩
theorem uG {w:World} {E:Env} {ks:List AV} {key:List Int} (h:intsOf ks=some key) {v:Value} (hv:aQ w E (.agg ks) v):v= .agg (key.map (Value.int .i64)).toArray:=by
 obtain ⟨us,rfl,hu⟩:=hv
 rw [kM h hu]
theorem ki {w:World} {E:Env} {n:Nat} {a:AV} {key:List Int} (h:keyOf n a=some key) {v:Value} (hv:aQ w E a v):v=kV n key:=by
 match n,a,h with
 |0, .d (.sc (.int .i64 k)),h=>cases h;exact aI hv
 |n+1, .agg ks,h=>exact uG h hv
theorem qs (hX:X.Ok) {t:Nat} (ho:o.op= .makeMap t none) (h:vcOp X X.C o s K):∃la,aj X o la∧Sat la s∧K la:=by
 simp only [vcOp,ho] at h
 split at h
 ·rename_i d n aK hm
  obtain ⟨hd,hK⟩:=h
  refine ⟨_,aj.mk aK.symm fun s' E a w hdn hs hE=> ?_,⟨by simp,by simp⟩,hK⟩
  refine ⟨.map (some w.heap.size),w.alloc (.map #[] 0),aP E d w.heap.size (E.σ d) 0,by simp [execOp,ho,show (Instr.makeMap t none).run X.P w= .ok (.map (some w.heap.size)) (w.alloc (.map #[] 0)) from rfl], ?_⟩
  rw [aK]
  refine hE.create hX hd (kill:= [(d,none)]) (by simp [kl]) (fun l hl=>by have:=gl d l hl;unfold dlow at hd;omega) (by simp) (fun b hb=>heap_alloc_old w _ hb) rfl rfl rfl
   (fun l x hl=>absurd hl (bA d l x)) ?_ ⟨w.heap.size,by simp [aP],rfl⟩ (fun k hk=>hdn k (by rw [aK];exact hk))
  exact ⟨w.heap.size, #[],by simp [aP],by rw [heap_alloc_new];rfl,by simp [aP],⟨rfl,by simp,by simp,by simp⟩⟩
 ·exact h.elim
theorem fM {P:Program} (w:World) {t k e n:Nat} (ht:P.underlying t=some (.map k e)) (he:rL P k n) (hz:∀w,(zeroValue e).run P w= .ok (.int .i64 0) w)
 {b:Nat} {es:Array MapEntry} {ag:List (List Int × Int)} (hb:w.heap[b]? =some (.map es es.size)) (hm:eL n ag es) {key:List Int} (hk:key.length=kW n) (ok:Bool):
 (Instr.lookup t (.map (some b)) (kV n key) ok).run P w= .ok (if ok then .tuple #[.int .i64 (j0 ag key), .bool (bL ag key).isSome] else .int .i64 (j0 ag key)) w:=by
 have h1:=fun em=>he.jU w em key hk
 have h2:=he.find w key ag es hk hm
 simp only [Instr.lookup,Sem.run_bind,run_underlying ht,Result.andThen_ok,MapKept.run_getObj_map hb,Sem.run_pure,h1,h2]
 unfold j0
 cases hf:bL ag key with
 |none=>cases ok<;>simp [hz]
 |some i=>cases ok<;>simp
theorem sR (hX:X.Ok) {t:Nat} {x i:Operand} (ho:o.op= .lookup t x i false) (h:vcOp X X.C o s K):∃la,aj X o la∧Sat la s∧K la:=by
 simp only [vcOp,ho] at h
 split at h
 ·rename_i n' l hmp hx
  split at h
  ·rename_i n ag key hl hks
   obtain ⟨⟨rfl,bp⟩,hK⟩:=h
   obtain ⟨k,e,g1,g2,g4⟩:=gH hX.C hmp
   refine ⟨_,aj.val fun s' E a w hs hE=>⟨.int .i64 (j0 ag key), ?_,aV _ rfl⟩,⟨ai s _,by simp [hl]⟩,hK⟩
   have ex:=hE.evs hs.1 X.C 0 (x:=x) (by simp)
   have ei:=hE.evs hs.1 X.C 0 (x:=i) (by simp)
   rw [hx] at ex
   obtain ⟨b,es,q1,q2,q3,q4,q5⟩:=gp (hE.good.obj l _ (hs.2 (l, .mp n ag) (by simp))) ex
   have hr:=fM w g1 g2 g4 q3 q5 bp false
   simp only [execOp,ho,q1,ki hks ei,Sem.run_bind,hr,Result.andThen_ok,Sem.run_pure]
   rfl
  ·exact h.elim
 ·exact h.elim
theorem qt (hX:X.Ok) {t:Nat} {x i:Operand} (ho:o.op= .lookup t x i true) (h:vcOp X X.C o s K):∃la,aj X o la∧Sat la s∧K la:=by
 simp only [vcOp,ho] at h
 split at h
 ·rename_i n' l hmp hx
  split at h
  ·rename_i n ag key hl hks
   obtain ⟨⟨rfl,bp⟩,hK⟩:=h
   obtain ⟨k,e,g1,g2,g4⟩:=gH hX.C hmp
   refine ⟨_,aj.val fun s' E a w hs hE=>⟨.tuple #[.int .i64 (j0 ag key), .bool (bL ag key).isSome], ?_, ?_⟩,⟨ai s _,by simp [hl]⟩,hK⟩
   rotate_left
   ·exact ⟨_,rfl,_,_,rfl,aV _ rfl,_,_,rfl, .sc _ rfl,rfl⟩
   have ex:=hE.evs hs.1 X.C 0 (x:=x) (by simp)
   have ei:=hE.evs hs.1 X.C 0 (x:=i) (by simp)
   rw [hx] at ex
   obtain ⟨b,es,q1,q2,q3,q4,q5⟩:=gp (hE.good.obj l _ (hs.2 (l, .mp n ag) (by simp))) ex
   have hr:=fM w g1 g2 g4 q3 q5 bp true
   simp only [execOp,ho,q1,ki hks ei,Sem.run_bind,hr,Result.andThen_ok,Sem.run_pure]
   rfl
  ·exact h.elim
 ·exact h.elim
theorem mZ (hX:X.Ok) {t:Nat} {x i y:Operand} (ho:o.op= .mapUpdate t x i y) (h:vcOp X X.C o s K):∃la,aj X o la∧Sat la s∧K la:=by
 simp only [vcOp,ho] at h
 split at h
 ·rename_i n' l v hmp hx hy
  split at h
  ·rename_i n ag key hl hks
   obtain ⟨⟨rfl,bp⟩,hK⟩:=h
   obtain ⟨k,e,g1,g2,g4⟩:=gH hX.C hmp
   refine ⟨_,aj.skip rfl fun s' E a w hdn hs hE=> ?_,⟨ai s _,by simp [hl]⟩,hK⟩
   have ex:=hE.evs hs.1 X.C 0 (x:=x) (by simp)
   have ei:=hE.evs hs.1 X.C 0 (x:=i) (by simp)
   have ey:=hE.evs hs.1 X.C 0 (x:=y) (by simp)
   rw [hx] at ex;rw [hy] at ey
   have hl':=hs.2 (l, .mp n ag) (by simp)
   obtain ⟨b,es,q1,q2,q3,q4,q5⟩:=gp (hE.good.obj l _ hl') ex
   have h1:=fun em=>g2.jU w em key bp
   have h2:=g2.find w key ag es bp q5
   have fin:∀es':Array MapEntry,(Instr.mapUpdate t (.map (some b)) (kV n key) (.int .i64 v)).run X.P w= .ok () {w with heap:=w.heap.setIfInBounds b (.map es' es'.size)} →eL n (qh ag key v) es'→
    ∃w' E',(execOp a.eval o).run X.P w= .ok .skip w'∧aG X E' ((⟨rsOf s [x,i,y], [(l, .mp n ag)], [], [(l, .mp n (qh ag key v))],o.dst, .cK⟩:LA).app s') (a.put o.dst undef) w':=by
    intro es' hrun DJ
    have bI:=MapKept.heap_set (o':= .map es' es'.size) q3
    refine ⟨{w with heap:=w.heap.setIfInBounds b (.map es' es'.size)},E,by simp only [execOp,ho,q1,ki hks ei,aI ey,Sem.run_bind,hrun,Result.andThen_ok,Sem.run_pure], ?_⟩
    exact hE.write hl' rfl q2 q4 (by simp) (fun k hk=>bI.2 k hk) rfl rfl rfl ⟨b,es',q2,bI.1,q4,DJ⟩ trivial hdn
   cases hf:bL ag key with
   |none=>
    have jt:=(q5.yD bp hf).put ag.length v
    have e1:qh ag key v=lW (dD ag key) ag.length v:=by unfold qh gh;rw [hf]
    rw [← e1] at jt
    have e2:((es.push ⟨kV n key, .int .i64 0,es.size⟩).modify ag.length fun e=> {e with val:= .int .i64 v})=es.push ⟨kV n key, .int .i64 v,es.size⟩:=by
     apply Array.ext_getElem?
     intro q
     rw [Array.getElem?_modify]
     split
     ·rename_i hq;subst hq
      rw [← q5.size];simp
     ·rename_i hq
      rw [Array.getElem?_push,Array.getElem?_push,q5.size]
      rw [if_neg (by omega),if_neg (by omega)]
    rw [e2] at jt
    refine fin _ ?_ jt
    simp only [hf,Option.map_none] at h2
    simp only [Instr.mapUpdate,Sem.run_bind,run_underlying g1,Result.andThen_ok,MapKept.run_getObj_map q3,h1,h2,MapKept.run_setObj_map _ q3,Array.size_push]
   |some j=>
    obtain ⟨p,hp,hpk⟩:=kN hf
    have Bh:=q5.nV j p hp
    have jt:=q5.put j v
    have e1:qh ag key v=lW ag j v:=by unfold qh gh dD;rw [hf]
    rw [← e1] at jt
    have e2:(es.modify j fun e=> {e with key:=kV n key,val:= .int .i64 v})=es.modify j fun e=> {e with val:= .int .i64 v} :=by
     apply Array.ext_getElem?
     intro q
     rw [Array.getElem?_modify,Array.getElem?_modify]
     split
     ·rename_i hjq;subst hjq
      rw [Bh, ← hpk];rfl
     ·rfl
    rw [← e2] at jt
    refine fin _ ?_ jt
    simp only [hf,Option.map_some] at h2
    have hst:=g2.stay w key
    simp only [Instr.mapUpdate,Sem.run_bind,run_underlying g1,Result.andThen_ok,MapKept.run_getObj_map q3,h1,h2,Bh,Option.map_some,Option.getD_some,hpk,hst,MapKept.run_setObj_map _ q3,Array.size_modify]
  ·exact h.elim
 ·exact h.elim
theorem ox (hX:X.Ok) {t:Nat} {x i:Operand} (ho:o.op= .mapEntry t x i) (h:vcOp X X.C o s K):∃la,aj X o la∧Sat la s∧K la:=by
 simp only [vcOp,ho] at h
 split at h
 ·rename_i n' l hmp hx
  split at h
  ·rename_i n ag key hl hks
   obtain ⟨⟨rfl,bp⟩,hK⟩:=h
   obtain ⟨k,e,g1,g2,g4⟩:=gH hX.C hmp
   refine ⟨_,aj.mk rfl fun s' E a w hdn hs hE=> ?_,⟨ai s _,by simp [hl]⟩,hK⟩
   have ex:=hE.evs hs.1 X.C 0 (x:=x) (by simp)
   have ei:=hE.evs hs.1 X.C 0 (x:=i) (by simp)
   rw [hx] at ex
   have hl':=hs.2 (l, .mp n ag) (by simp)
   obtain ⟨b,es,q1,q2,q3,q4,q5⟩:=gp (hE.good.obj l _ hl') ex
   have h1:=fun em=>g2.jU w em key bp
   have h2:=g2.find w key ag es bp q5
   have fin:∀(es':Array MapEntry) (v':Value),(Instr.mapEntry t (.map (some b)) (kV n key)).run X.P w= .ok v' {w with heap:=w.heap.setIfInBounds b (.map es' es'.size)} →eL n (dD ag key) es'→
    v'= .tuple #[.int .i64 (j0 ag key), .int .i64 (gh ag key:Nat)]→∃v' w' E',(execOp a.eval o).run X.P w= .ok (.value v') w'∧
    aG X E' ((⟨rsOf s [x,i], [(l, .mp n ag)], [], [(l, .mp n (dD ag key))],o.dst, .tup [.d (.sc (.int .i64 (j0 ag key))), .d (.sc (.int .i64 (gh ag key:Nat)))]⟩:LA).app s') (a.put o.dst v') w':=by
    intro es' v' hrun DJ iu
    refine ⟨v', {w with heap:=w.heap.setIfInBounds b (.map es' es'.size)},E,by simp only [execOp,ho,q1,ki hks ei,Sem.run_bind,hrun,Result.andThen_ok,Sem.run_pure], ?_⟩
    have bI:=MapKept.heap_set (o':= .map es' es'.size) q3
    refine hE.write hl' rfl q2 q4 (by simp) (fun k hk=>bI.2 k hk) rfl rfl rfl ⟨b,es',q2,bI.1,q4,DJ⟩ ?_ hdn
    rw [iu]
    exact ⟨_,rfl,_,_,rfl,aV _ rfl,_,_,rfl,aV _ rfl,rfl⟩
   cases hf:bL ag key with
   |none=>
    refine fin _ (.tuple #[.int .i64 0, .int .i64 (ag.length:Nat)]) ?_ (q5.yD bp hf) ?_
    rotate_left
    ·simp only [j0,gh,hf]
    ·simp only [hf,Option.map_none] at h2
     simp only [Instr.mapEntry,Sem.run_bind,run_underlying g1,Result.andThen_ok,MapKept.run_getObj_map q3,h1,h2,g4,MapKept.run_setObj_map _ q3,Sem.run_pure,goInt,q5.size,Array.size_push]
   |some j=>
    obtain ⟨p,hp,hpk⟩:=kN hf
    have Bh:=q5.nV j p hp
    refine fin (es.modify j fun e=> {e with key:=kV n key}) (.tuple #[.int .i64 ((ag[j]?.map (·.2)).getD 0), .int .i64 (j:Nat)]) ?_ ?_ ?_
    ·simp only [hf,Option.map_some] at h2
     have hst:=g2.stay w key
     simp only [Instr.mapEntry,Sem.run_bind,run_underlying g1,Result.andThen_ok,MapKept.run_getObj_map q3,h1,h2,Bh,Option.map_some,Option.getD_some,hpk,hst,MapKept.run_setObj_map _ q3,Sem.run_pure,goInt,Array.size_modify]
    ·have e1:dD ag key=ag:=by simp [dD,hf]
     rw [e1]
     have:(es.modify j fun e=> {e with key:=kV n key})=es:=by
      apply Array.ext_getElem?
      intro q
      rw [Array.getElem?_modify]
      split
      ·rename_i hjq;subst hjq
       rw [Bh, ← hpk];rfl
      ·rfl
     rw [this];exact q5
    ·simp only [j0,gh,hf]
  ·exact h.elim
 ·exact h.elim
theorem ng {n:Nat} {ag:List (List Int × Int)} {es:Array MapEntry} (h:eL n ag es) {i:Nat} (hi:i<ag.length):es.findIdx? (fun e=>(e.born:Int)==(i:Int))=some i:=by
 rw [Array.findIdx?_eq_some_iff_getElem]
 have Bi:∀j (hj:j<es.size),es[j].born=j:=by
  intro j hj
  have:=h.nV j _ (List.getElem?_eq_getElem (by rw [← h.size];exact hj))
  rw [Array.getElem?_eq_getElem hj] at this
  simp only [Option.some.injEq] at this
  rw [this]
 refine ⟨by rw [h.size];exact hi, ?_,fun j hj=> ?_⟩
 ·rw [Bi i (by rw [h.size];exact hi)];simp
 ·rw [Bi j (by rw [h.size];omega)]
  have:¬((j:Int)==(i:Int))=true:=by simp;omega
  exact this
theorem lZ {t:Nat} {x st y:Operand} (ho:o.op= .entryStore t x st y) (h:vcOp X X.C o s K):∃la,aj X o la∧Sat la s∧K la:=by
 simp only [vcOp,ho] at h
 split at h
 ·rename_i l i v hx hst hy
  split at h
  ·rename_i n ag hl
   obtain ⟨⟨h0,hlt⟩,hK⟩:=h
   refine ⟨_,aj.skip rfl fun s' E a w hdn hs hE=> ?_,⟨ai s _,by simp [hl]⟩,hK⟩
   have ex:=hE.evs hs.1 X.C 0 (x:=x) (by simp)
   have es':=hE.evs hs.1 X.C 0 (x:=st) (by simp)
   have ey:=hE.evs hs.1 X.C 0 (x:=y) (by simp)
   rw [hx] at ex;rw [hst] at es';rw [hy] at ey
   have hl':=hs.2 (l, .mp n ag) (by simp)
   obtain ⟨b,es,q1,q2,q3,q4,q5⟩:=gp (hE.good.obj l _ hl') ex
   have hf:=ng q5 (i:=i.toNat) (by omega)
   rw [Int.toNat_of_nonneg h0] at hf
   have bI:=MapKept.heap_set (o':= .map (es.modify i.toNat fun e=> {e with val:= .int .i64 v}) es.size) q3
   refine ⟨{w with heap:=w.heap.setIfInBounds b (.map (es.modify i.toNat fun e=> {e with val:= .int .i64 v}) es.size)},E, ?_, ?_⟩
   ·simp only [execOp,ho,q1,aI es',aI ey,Sem.run_bind,Instr.entryStore,MapKept.run_getObj_map q3,Result.andThen_ok,asInt,asIntOf,Sem.run_pure,hf,MapKept.run_setObj_map _ q3]
   ·refine hE.write hl' rfl q2 q4 (by simp) (fun k hk=>bI.2 k hk) rfl rfl rfl ⟨b,_,q2, ?_,q4,q5.put i.toNat v⟩ trivial hdn
    simp only [bI.1,Array.size_modify]
  ·exact h.elim
 ·exact h.elim
end
end Go.Ab
end
section
namespace Go.Ab
theorem fu {X:Ctx} (hX:X.Ok) {o:Oper} {s:ASt} {K:LA→Prop} (h:vcOp X X.C o s K):∃la,aj X o la∧Sat la s∧K la:=by
 cases ho:o.op
 case move x=>exact ry (.inl ho) h
 case assign x=>exact ry (.inr ho) h
 case pick c x y=>exact xm ho h
 case alloc e=>exact uw hX ho h
 case box e x=>exact y6 hX ho h
 case build t ps=>exact um hX ho h
 case buildSlice t n ps=>exact lX hX ho h
 case load t x=>exact xu hX ho h
 case store t x y=>exact uy hX ho h
 case nilCheck x=>exact od ho h
 case unOp op t x=>exact xw ho h
 case convert t t' x=>exact qk hX ho h
 case fieldAddr st x f=>exact mO hX ho h
 case indexAddr t x i=>exact mP hX ho h
 case field st x f=>exact ur hX ho h
 case index t x i=>exact uu hX ho h
 case makeSlice t x y=>exact mS hX ho h
 case slice t x lo hi mx=>exact uE hX ho h
 case extract x i=>exact qj ho h
 case makeMap t r=>
  cases r with
  |none=>exact qs hX ho h
  |some r=>simp only [vcOp,ho] at h
 case lookup t x i c=>
  cases c with
  |false=>exact sR hX ho h
  |true=>exact qt hX ho h
 case mapUpdate t x i y=>exact mZ hX ho h
 case mapEntry t x i=>exact ox hX ho h
 case entryStore t x st y=>exact lZ ho h
 case makeFunc fn first captured=>
  cases fn with
  |func f=>exact oe ho h
  |_=>simp only [vcOp,ho] at h
 case binOp op xt x y yt=>
  have h0:=h
  simp only [vcOp,ho] at h
  split at h
  ·rename_i p q hp hq
   exact yZ ho hp hq h
  ·rename_i p q hp hq
   exact Dt ho hp hq h
  ·rename_i p q hp hq
   exact AX ho hp hq h
  ·split at h
   ·exact yz (.inl ⟨rfl,rfl⟩) hX ho h
   ·exact yz (.inr ⟨rfl,rfl⟩) hX ho h
   ·exact h.elim
 case call c=>
  simp only [vcOp,ho] at h
  split at h
  ·rename_i b hc
   have h0:=h
   unfold vcBuiltin at h
   split at h
   ·rename_i x t ha ht
    rw [ha,ht] at h0
    exact y4 hX ho hc ha ht h0
   ·rename_i x t ha ht
    rw [ha,ht] at h0
    exact y5 hX ho hc ha ht h0
   ·rename_i x y t t' ha ht
    rw [ha,ht] at h0
    exact sO hX ho hc ha ht h0
   ·rename_i x y ts ha
    rw [ha] at h0
    exact mj (.inl rfl) ho hc ha h0
   ·rename_i x y ts ha
    rw [ha] at h0
    exact mj (.inr rfl) ho hc ha h0
   ·exact h.elim
  ·exact h.run
  ·exact h.elim
 all_goals (simp only [vcOp,ho] at h)
def gslot (l:List Oper) (j:Nat):Option Nat:=match l[j]? with|some o=>o.dst|none=>none
def bq (X:Ctx) (C:Cfg) (l:List Oper):List Oper→ASt→(ASt→Prop)→Prop
 | [],s,K=>K s
 |o::rest,s,K=>match o.guard with
  |none=>vcOp X C o s fun la=>bq X C l rest (la.app s) K
  |some (j,want)=>match gslot l j with
   |none=>False
   |some g=>match get s.t g with
    | .d (.sc (.bool b))=>
      (b=want→vcOp X C o (s.put (some g) (.d (.sc (.bool want)))) fun la=>bq X C l rest (la.app (s.put (some g) (.d (.sc (.bool want))))) K)∧
      (b=(!want)→bq X C l rest ((s.put (some g) (.d (.sc (.bool (!want))))).put o.dst (.tup [])) K)
    | .tup []=>bq X C l rest (s.put o.dst (.tup [])) K
    |_=>False
theorem Oper.nh {P:Program} {o:Oper} {a:Act} {w:World} {K K':Act→World→Prop} {Q:Exit→Act→World→Prop} (h:∀a w,K a w→K' a w) (hh:o.wp P a w K AU):o.wp P a w K' Q:=by
 unfold Oper.wp at*
 generalize (execOp a.eval o).run P w=r at*
 cases r with
 |ok n w'=>
  cases n<;>simp only [Oper.upon] at hh ⊢ <;>
   first
    |exact h _ _ hh
    |exact Calls.mono hh (fun e w'' he=>by
      cases e
      ·exact h _ _ he
      ·exact he.elim
      ·obtain ⟨a0,w0,h0⟩:=he;exact h0.elim)
    |exact Rows.mono hh (fun _ _ he=>h _ _ he)
 |halt x w'=>cases x<;>simp only [Oper.upon,AU] at hh
theorem aG.put {X:Ctx} {E:Env} {s:ASt} {a:Act} {w:World} (h:aG X E s a w) {g:Nat} {v:AV} (hv:aQ w E v (a.tmps.getD g undef)):aG X E (s.put (some g) v) a w:=
 ⟨h.defers,h.size,h.good,h.dZ,h.mine,fun k=>by
   simp only [ASt.put,get]
   split
   ·rename_i hk;subst hk;exact hv
   ·exact h.slot k⟩
theorem aG.cK {X:Ctx} {E:Env} {s:ASt} {a:Act} {w:World} (h:aG X E s a w) (dst:Option Nat) (u:Value):aG X E (s.put dst .cK) (a.put dst u) w:=by
 cases dst with
 |none=>exact h
 |some d=>
  refine ⟨h.defers,by simp [Act.put,h.size],h.good,h.dZ,h.mine,fun k=> ?_⟩
  simp only [ASt.put,get,Act.put]
  split
  ·trivial
  ·rename_i hk
   have:(a.tmps.setIfInBounds d u).getD k undef=a.tmps.getD k undef:=by
    simp only [Array.getD_eq_getD_getElem?,Array.getElem?_setIfInBounds_ne hk]
   rw [this];exact h.slot k
theorem aG.C2 {X:Ctx} {E:Env} {s:ASt} {a:Act} {w:World} (h:aG X E s a w) (dst:Option Nat):aG X E (s.put dst (.tup [])) (a.put dst undef) w:=by
 cases dst with
 |none=>exact h
 |some d=>
  refine ⟨h.defers,by simp [Act.put,h.size],h.good,h.dZ,h.mine,fun k=> ?_⟩
  simp only [ASt.put,get,Act.put]
  split
  ·rename_i hk
   subst hk
   have:(a.tmps.setIfInBounds d undef).getD d undef=undef:=by
    simp only [Array.getD_eq_getD_getElem?,Array.getElem?_setIfInBounds]
    split
    ·split<;>rfl
    ·rename_i hne;exact absurd trivial hne
   rw [this]
   exact ⟨[],rfl,rfl⟩
  ·rename_i hk
   have:(a.tmps.setIfInBounds d undef).getD k undef=a.tmps.getD k undef:=by
    simp only [Array.getD_eq_getD_getElem?,Array.getElem?_setIfInBounds_ne hk]
   rw [this];exact h.slot k
theorem jV {X:Ctx} {E:Env} {s:ASt} {a:Act} {w:World} (h:aG X E s a w) {l:List Oper} {j g:Nat} (hg:gslot l j=some g) (hb:get s.t g= .tup []):
 yielded l.toArray a.tmps j=none:=by
 have hv:=h.slot g
 rw [hb] at hv
 obtain ⟨us,hv,h2⟩:=hv
 have h2:us= []:=h2
 subst h2
 unfold gslot at hg
 split at hg
 ·rename_i o ho
  unfold yielded
  have hq:a.tmps[g]? =none∨a.tmps[g]? =some (.tuple #[]):=by
   rw [Array.getD_eq_getD_getElem?] at hv
   cases hq:a.tmps[g]? with
   |none=>exact .inl rfl
   |some v=>rw [hq] at hv;simp at hv;rw [hv];exact .inr rfl
  rcases hq with hq|hq<;>simp [ho,hg,hq]
 ·cases hg
theorem kO {X:Ctx} {E:Env} {s:ASt} {a:Act} {w:World} (h:aG X E s a w) {l:List Oper} {j g:Nat} {b:Bool} (hg:gslot l j=some g) (hb:get s.t g= .d (.sc (.bool b))):
 yielded l.toArray a.tmps j=some b∧a.tmps.getD g undef= .bool b:=by
 have hv:=h.slot g
 rw [hb] at hv
 have hv:=bt hv
 refine ⟨?_,hv⟩
 unfold gslot at hg
 split at hg
 ·rename_i o ho
  unfold yielded
  have:a.tmps[g]? =some (.bool b):=by
   rw [Array.getD_eq_getD_getElem?] at hv
   cases hq:a.tmps[g]? with
   |none=>rw [hq] at hv;simp [undef] at hv
   |some v=>rw [hq] at hv;simp at hv;rw [hv]
  simp [ho,hg,this]
 ·cases hg
theorem jW {X:Ctx} (hX:X.Ok) {l:List Oper} {Q:Exit→Act→World→Prop} {K:ASt→Prop} (hK:∀s a w,K s→Rel X s a w→Q .normal a w):
 ∀(r:List Oper) (s:ASt),(∀o∈r,∀d,o.dst=some d→d<X.n)→bq X X.C l r s K→∀a w,Rel X s a w→wpList X.P l.toArray Q r a w
 | [],s,_,h,a,w,hr=>hK s a w h hr
 |o::r,s,hd,h,a,w,hr=>by
  have ih:=jW hX (l:=l) hK r
  have hd':∀o∈r,∀d,o.dst=some d→d<X.n:=fun o ho=>hd o (by simp [ho])
  have run:∀s,Rel X s a w→(vcOp X X.C o s fun la=>bq X X.C l r (la.app s) K)→o.wp X.P a w (wpList X.P l.toArray Q r) Q:=by
   intro s hr h
   obtain ⟨la,⟨_,h1⟩,h2,h3⟩:=fu hX h
   exact Oper.nh (fun a' w' hr'=>ih (la.app s) hd' h3 a' w' hr') (h1 s a w (hd o (by simp)) h2 hr)
  unfold wpList
  unfold bq at h
  cases hgd:o.guard with
  |none=>
   simp only [hgd] at h
   rw [if_pos (by simp [Region.wanted,hgd])]
   exact .inl (run s hr h)
  |some p=>
   obtain ⟨j,want⟩:=p
   simp only [hgd] at h
   split at h
   ·exact h.elim
   ·rename_i g hg
    split at h
    ·rename_i b hb
     obtain ⟨E,hE⟩:=hr
     obtain ⟨hy,hv⟩:=kO hE hg hb
     by_cases Bj:b=want
     ·subst Bj
      rw [if_pos (by simp [Region.wanted,hgd,hy])]
      exact .inl (run _ ⟨E,hE.put (by rw [hv];exact aV _ rfl)⟩ (h.1 rfl))
     ·have Bl:b= !want:=by cases b<;>cases want<;>simp_all
      rw [if_neg (by simp [Region.wanted,hgd,hy,Bj])]
      exact ih _ hd' (h.2 Bl) _ _ ⟨E,(hE.put (by rw [hv,Bl];exact aV _ rfl)).C2 o.dst⟩
    ·rename_i hb
     obtain ⟨E,hE⟩:=hr
     have hy:=jV hE hg hb
     rw [if_neg (by simp [Region.wanted,hgd,hy])]
     exact ih _ hd' h _ _ ⟨E,hE.C2 o.dst⟩
    ·exact h.elim
def C3 (n:Nat):List Oper→Bool
 | []=>true
 |o::r=>(match o.dst with|some d=>decide (d<n)|none=>true)&&C3 n r
theorem kP {n:Nat} :∀ {l:List Oper},C3 n l=true→∀o∈l,∀d,o.dst=some d→d<n
 | [],_,o,ho,_,_=>by cases ho
 |q::r,h,o,ho,d,hd=>by
  simp only [C3,Bool.and_eq_true] at h
  rcases List.mem_cons.1 ho with rfl|ho
  ·have:=h.1;rw [hd] at this;simpa using this
  ·exact kP h.2 o ho d hd
def ni (n:Nat):Code→Bool
 | .region _ ops _=>C3 n ops.toList
 | .seq x y=>ni n x&&ni n y
 | .cond _ x y=>ni n x&&ni n y
 | .block _ x=>ni n x
 | .loop x=>ni n x
 | .skip=>true
 | .exit _=>true
 | .ret=>true
 | .rangeFunc _ ps x y=>ps.toList.all (fun p=>decide (p<n))&&ni n x&&ni n y
 |_=>false
def lift (X:Ctx) (Q:Exit→ASt→Prop):Exit→Act→World→Prop:=fun e a w=>∃s,Q e s∧Rel X s a w
structure bB (X:Ctx) (c:Code) (Q:Exit→ASt→Prop) (s:ASt):Prop where
 run:ni X.n c=true→∀a w,Rel X s a w→c.wp X.P (lift X Q) a w
def athen (K:ASt→Prop) (Q:Exit→ASt→Prop):Exit→ASt→Prop
 | .normal,s=>K s
 |e,s=>Q e s
def ablock (id:Nat) (Q:Exit→ASt→Prop):Exit→ASt→Prop
 | .exit id',s=>if id'=id then Q .normal s else Q (.exit id') s
 |e,s=>Q e s
section
variable {X:Ctx} {Q:Exit→ASt→Prop} {s:ASt}
theorem kQ (hX:X.Ok) {id:Nat} {l:List Oper} (h:bq X X.C l l s (fun s'=>Q .normal s')):bB X (.region id l.toArray false) Q s:=by
 refine ⟨fun hc a w hr=> ?_⟩
 refine wp_region_list ?_
 exact jW hX (K:=fun s'=>Q .normal s') (Q:=lift X Q) (fun s a w hs hr=>⟨s,hs,hr⟩) l s (kP (by simpa [ni] using hc)) h a w hr
theorem uH {c:Code} {Q':Exit→ASt→Prop} (h:bB X c Q s) (hq:∀e s,Q e s→Q' e s):bB X c Q' s:=
 ⟨fun hc a w hr=>wp_mono (h.run hc a w hr) fun e a w ⟨s,h1,h2⟩=>⟨s,hq e s h1,h2⟩⟩
theorem wG {x y:Code} (h:bB X x (athen (fun s'=>bB X y Q s') Q) s):bB X (.seq x y) Q s:=by
 refine ⟨fun hc a w hr=> ?_⟩
 simp only [ni,Bool.and_eq_true] at hc
 refine wp_seq (wp_mono (h.run hc.1 a w hr) ?_)
 rintro e a w ⟨s,h1,h2⟩
 cases e<;>first|exact h1.run hc.2 a w h2|exact ⟨s,h1,h2⟩
theorem wI (h:Q .normal s):bB X .skip Q s:=⟨fun _ a w hr=>wp_skip ⟨s,h,hr⟩⟩
theorem wJ {id:Nat} (h:Q (.exit id) s):bB X (.exit id) Q s:=⟨fun _ a w hr=>wp_exit ⟨s,h,hr⟩⟩
theorem wK (h:Q .ret s):bB X .ret Q s:=⟨fun _ a w hr=>wp_ret ⟨s,h,hr⟩⟩
theorem wM {c:Nat} {x y:Code} {b:Bool} (hc:get s.t c= .d (.sc (.bool b))) (h1:b=true→bB X x Q s) (h2:b=false→bB X y Q s):bB X (.cond (.tmp c) x y) Q s:=by
 refine ⟨fun hk a w ⟨E,hE⟩=> ?_⟩
 simp only [ni,Bool.and_eq_true] at hk
 have hv:=hE.slot c
 rw [hc] at hv
 have hv:=bt hv
 cases b with
 |true=>exact wp_cond_true (by simpa [Act.eval] using hv) ((h1 rfl).run hk.1 a w ⟨E,hE⟩)
 |false=>exact wp_cond_false (by simpa [Act.eval] using hv) ((h2 rfl).run hk.2 a w ⟨E,hE⟩)
theorem wL {c:Nat} {x y:Code} {p:Prop} (hc:get s.t c= .cV p) (h1:p→bB X x Q s) (h2:bB X y Q s):bB X (.cond (.tmp c) x y) Q s:=by
 refine ⟨fun hk a w ⟨E,hE⟩=> ?_⟩
 simp only [ni,Bool.and_eq_true] at hk
 have hv:=hE.slot c
 rw [hc] at hv
 obtain ⟨b,hv,hp⟩:=hv
 cases b with
 |true=>exact wp_cond_true (by simpa [Act.eval] using hv) ((h1 (hp rfl)).run hk.1 a w ⟨E,hE⟩)
 |false=>exact wp_cond_false (by simpa [Act.eval] using hv) (h2.run hk.2 a w ⟨E,hE⟩)
theorem wH {id:Nat} {x:Code} (h:bB X x (ablock id Q) s):bB X (.block id x) Q s:=by
 refine ⟨fun hk a w hr=> ?_⟩
 refine wp_block (wp_mono (h.run hk a w hr) ?_)
 rintro e a w ⟨s,h1,h2⟩
 cases e with
 |exit id'=>
  simp only [Exit.inBlock,ablock] at h1 ⊢
  split
  ·rename_i hid;simp only [hid,if_true] at h1;exact ⟨s,h1,h2⟩
  ·rename_i hid;simp only [hid,if_false] at h1;exact ⟨s,h1,h2⟩
 |_=>exact ⟨s,h1,h2⟩
structure Le (s s':ASt):Prop where
 t:∀k,get s'.t k= .cK∨get s.t k=get s'.t k
 m:∀l o,look s'.m l=some o→look s.m l=some o
theorem Le.aJ {s s':ASt} (h:Le s s') {l:Nat} {o:AObj} (hl:aJ s'.m l=some o):aJ s.m l=some o:=by
 unfold Ab.aJ at hl ⊢
 split at hl
 ·exact h.m l o hl
 ·rename_i b i _
  cases hq:look s'.m b with
  |none=>rw [hq] at hl;simp [inner] at hl
  |some q=>rw [h.m b q hq];rw [hq] at hl;exact hl
theorem Rel.le {s s':ASt} (h:Le s s') {a:Act} {w:World} (hr:Rel X s a w):Rel X s' a w:=by
 obtain ⟨E,hE⟩:=hr
 refine ⟨E,hE.defers,hE.size,⟨fun l hl=> ?_,fun l l' b hl hl'=> ?_,fun l o hl=>hE.good.dY l o (h.aJ hl),hE.good.fresh⟩,hE.dZ,fun l o b hl=>hE.mine l o b (h.aJ hl),fun k=> ?_⟩
 ·obtain ⟨o,ho⟩:=Option.ne_none_iff_exists'.1 hl
  exact hE.good.low l (by simp [h.m l o ho])
 ·obtain ⟨o,ho⟩:=Option.ne_none_iff_exists'.1 hl
  obtain ⟨o',ho'⟩:=Option.ne_none_iff_exists'.1 hl'
  exact hE.good.inj l l' b (by simp [h.aJ ho]) (by simp [h.aJ ho'])
 ·rcases h.t k with hk|hk
  ·rw [hk];trivial
  ·rw [← hk];exact hE.slot k
theorem uI {x:Code} {ι:Type} (I:ι→ASt) (μ:ι→Nat) (i0:ι) (h0:Le s (I i0)) (h:∀i,bB X x (athen (fun s'=>∃j,Le s' (I j)∧μ j<μ i) Q) (I i)):bB X (.loop x) Q s:=by
 refine ⟨fun hk a w hr=> ?_⟩
 simp only [ni] at hk
 intro b k cs
 have key:∀(n:Nat) (i:ι) (a:Act) (w:World),μ i=n→Rel X (I i) a w→
  ∃e a' w',lift X Q e a' w'∧Arrives X.P (lone (b.at a (.code x:: .inLoop x::k)) cs w) b k cs e a' w':=by
  intro n
  induction n using Nat.strongRecOn with
  |_ n ih=>
   intro i a w hn hI
   obtain ⟨e,a₁,w₁,⟨s1,hq,om⟩,oy⟩:=(h i).run hk a w hI b (.inLoop x::k) cs
   cases e with
   |normal=>
    obtain ⟨j,hj,hlt⟩:=hq
    obtain ⟨e₂,a₂,w₂,G6,Bm⟩:=ih (μ j) (hn ▸ hlt) j a₁ w₁ rfl (om.le hj)
    exact ⟨e₂,a₂,w₂,G6, .of_steps (Steps.trans oy (.one step_inLoop)) Bm⟩
   |exit id=>exact ⟨_,a₁,w₁,⟨s1,hq,om⟩, .pass (x:= .inLoop x) rfl (fun _ _=> .inl (by simp)) oy⟩
   |goto l=>exact ⟨_,a₁,w₁,⟨s1,hq,om⟩, .pass (x:= .inLoop x) rfl (fun _ _=> .inl (by simp)) oy⟩
   |ret=>exact ⟨_,a₁,w₁,⟨s1,hq,om⟩, .pass (x:= .inLoop x) rfl (fun _ _=> .inl (by simp)) oy⟩
   |panic ch=>exact ⟨_,a₁,w₁,⟨s1,hq,om⟩, .pass (x:= .inLoop x) rfl (fun _ _=> .inl (by simp)) oy⟩
   |outgrown=>exact ⟨_,a₁,w₁,⟨s1,hq,om⟩, .pass (x:= .inLoop x) rfl (fun _ _=> .inl (by simp)) oy⟩
 obtain ⟨e,a',w',hq,oy⟩:=key _ i0 a w rfl (hr.le h0)
 exact ⟨e,a',w',hq, .of_steps (.one step_loop) oy⟩
end
end Go.Ab
end
