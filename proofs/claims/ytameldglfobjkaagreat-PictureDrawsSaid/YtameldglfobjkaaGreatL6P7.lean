/- A part of the proof. -/
import Derived.MapKept
import Derived.Test.YtameldglfobjkaaGreatL6P6
set_option linter.unusedSimpArgs false
set_option linter.unusedVariables false
section
namespace Go.Ab
theorem Az{w:World}{E:Env} :∀ {as:List AV} {key:List Int} {us:List Value},intsOf as=some key->AVrs w E as us->us=key.map (Value.int .i64)
 | [],key,us,h,hr=>by simp only[intsOf,ady]at h;simp only[AVrs]at hr;subst h;subst hr;rfl
 |a::as,key,us,h,hr=>by
  obtain⟨u,us',rfl,h1,h2⟩:=hr
  unfold intsOf at h
  split at h
  ·rename_i heq;cases heq
  ·rename_i b r heq
   cases heq
   split at h
   ·rename_i q hq
    cases h
    rw[bN h1,Az hq h2];rfl
   ·cases h
  ·cases h
theorem tP:∀(xs:List Int),((xs.map (Value.int .i64)).zip (xs.map (Value.int .i64))).all (fun p=>Instr.sameBits 9999 p.1 p.2)=true
 | []=>rfl
 |x::xs=>by
  simp only[adC,List.zip_cons_cons,List.all_cons,tP xs,aeY]
  simp[Instr.sameBits]
theorem qt{P:Program}(w:World)(xs:List Int):(Instr.keyThatStays (.agg (xs.map (Value.int .i64)).toArray) (.agg (xs.map (Value.int .i64)).toArray)).run P w= .ok (.agg (xs.map (Value.int .i64)).toArray) w:=by
 have:Instr.sameBits 10000 (.agg (xs.map (Value.int .i64)).toArray) (.agg (xs.map (Value.int .i64)).toArray)=true:=by
  have h:=tP xs
  simp only[Instr.sameBits,beq_self_eq_true,aeo]
  exact h
 simp[Instr.keyThatStays,this]
theorem kK{P:Program}(w:World){kt n:Nat}(he:vl P kt (n+1)){key:List Int}(hk:key.length=n+1):∀(ak:List (List Int × Int)) (es:List MapEntry) (i:Nat),es.length=ak.length->(∀p∈ak,p.1.length=n+1)->
 (∀(j:Nat) p,ak[j]? =some p->∃b,es[j]? =some ⟨.agg (p.1.map (Value.int .i64)).toArray, .int .i64 p.2,b⟩)->
 (Instr.findAsking kt (.agg (key.map (Value.int .i64)).toArray) es i).run P w= .ok ((cA ak key).map fun j=>(i+j, .int .i64 ((ak[j]?.map (·.2)).getD 0))) w
 | [],es,i,hl,_,_=>by
   have:es= []:=adE hl
   subst this
   simp[Instr.findAsking,cA]
 |p::ak, [],i,hl,_,_=>by simp at hl
 |p::ak,e::es,i,hl,hn,h=>by
  obtain⟨b,hb⟩:=h 0 p rfl
  simp only[List.getElem?_cons_zero,ady]at hb
  subst hb
  have ih:=kK w he hk ak es (i+1) (by simpa using hl) (fun q hq=>hn q (by simp[hq])) (fun j q hq=>by have:=h (j+1) q (by simpa using hq);simpa using this)
  have heq:=(he.2 w key p.1 hk (hn p (by simp))).1
  have heq':(Op.equal kt (.agg (key.map (Value.int .i64)).toArray) (.agg (p.1.map (Value.int .i64)).toArray)).run P w= .ok (decide (key=p.1)) w:=heq
  by_cases hkp:key=p.1
  ·subst hkp
   simp[Instr.findAsking,heq',cA,agt]
  ·have ih':=ih
   simp only[cA]at ih'
   simp[Instr.findAsking,heq',hkp,cA,agt,ih']
   congr 1
   funext j
   simp only[Function.comp,List.getElem?_cons_succ,afe,afc]
   omega
theorem fQ{ak:List (List Int × Int)}{k:List Int}{i:Nat}(h:cA ak k=some i):∃p,ak[i]? =some p/\p.1=k:=by
 unfold cA at h
 rw[aem]at h
 obtain⟨hi,hp,_⟩:=h
 exact⟨ak[i],acF hi,by simpa using(aek hp).symm⟩
theorem lR{ak:List (List Int × Int)}{k:List Int}(h:cA ak k=none):∀p∈ak,p.1≠k:=by
 unfold cA at h
 rw[aeN]at h
 intro p hp e
 have:=h p hp
 simp[e]at this
structure Ko (P:Program) (kt n:Nat):Prop where
 AA:∀(w:World) em (key:List Int),key.length=kW n->(Instr.checkKey em 10000 kt (kV n key)).run P w= .ok () w
 find:∀(w:World) (key:List Int) ak es,key.length=kW n->lP n ak es->(Instr.findKey kt (kV n key) es.toList).run P w= .ok ((cA ak key).map fun j=>(j, .int .i64 ((ak[j]?.map (·.2)).getD 0))) w
 stay:∀(w:World) (key:List Int),(Instr.keyThatStays (kV n key) (kV n key)).run P w= .ok (kV n key) w
theorem Kq(n:Nat)(key:List Int):kV (n+1) key= .agg (key.map (Value.int .i64)).toArray:=rfl
theorem Kr(k:Int):kV 0 [k]= .int .i64 k:=rfl
theorem D6{P:Program}{kt n:Nat}(he:vl P kt (n+1))(hu:∃fs,P.underlying kt=some (.struct fs)):Ko P kt (n+1):=by
 refine⟨fun w em key hk=>(he.2 w key key hk hk).2 em,fun w key ak es hk Ia=> ?_,fun w key=>qt w key⟩
 obtain⟨fs,hu⟩:=hu
 have ha:=kK w he hk ak es.toList 0 (by simpa using Ia.size) Ia.len (fun j p hp=>⟨j,by simpa[Kq]using Ia.N9 j p hp⟩)
 simp only[adT]at ha
 rw[Kq]
 cases hq:es.toList with
 |nil=>
  have:ak= []:=by
   have:=Ia.size
   apply adE
   rw[<- this]
   simpa using congrArg List.length hq
  subst this
  simp[Instr.findKey,run_underlying hu,Instr.findNow,cA]
 |cons e l=>
  have hf:Instr.findNow (.struct fs) (.agg (key.map (Value.int .i64)).toArray) (e::l) 0=none:=by
   simp[Instr.findNow,Instr.sameNow]
  rw[hq]at ha
  simp only[Instr.findKey,Sem.run_bind,run_underlying hu,Result.andThen_ok,hf]
  exact ha
theorem vu{k:Int} :∀(ak:List (List Int × Int)) (es:List MapEntry) (i:Nat),es.length=ak.length->(∀p∈ak,p.1.length=1)->
 (∀(j:Nat) p,ak[j]? =some p->∃b,es[j]? =some ⟨.int .i64 (p.1.getD 0 0), .int .i64 p.2,b⟩)->
 Instr.findNow (.int .i64) (.int .i64 k) es i=some ((cA ak [k]).map fun j=>(i+j, .int .i64 ((ak[j]?.map (·.2)).getD 0)))
 | [],es,i,hl,_,_=>by
   have:es= []:=adE hl
   subst this
   simp[Instr.findNow,cA]
 |p::ak, [],i,hl,_,_=>by simp at hl
 |p::ak,e::es,i,hl,hn,h=>by
  obtain⟨b,hb⟩:=h 0 p rfl
  simp only[List.getElem?_cons_zero,ady]at hb
  subst hb
  have ih:=vu (k:=k) ak es (i+1) (by simpa using hl) (fun q hq=>hn q (by simp[hq])) (fun j q hq=>by have:=h (j+1) q (by simpa using hq);simpa using this)
  obtain⟨v,hv⟩:∃v,p.1= [v]:=by
   have:=hn p (by simp)
   match p.1,this with
   | [v],_=>exact⟨v,rfl⟩
  by_cases hkp:k=v
  ·subst hkp
   simp[Instr.findNow,Instr.sameNow,hv,cA,agt]
  ·simp only[cA]at ih
   have ZZ:(k==v)=false:=by simpa using hkp
   simp[Instr.findNow,Instr.sameNow,hv,hkp,ZZ,cA,agt,ih]
   congr 1
   funext j
   simp only[Function.comp,List.getElem?_cons_succ,afe,afc]
   omega
theorem L5{P:Program}{kt:Nat}(hu:P.underlying kt=some (.int .i64)):Ko P kt 0:=by
 have one:∀key:List Int,key.length=1->∃k,key= [k]:=fun key h=>by
  match key,h with
  | [k],_=>exact⟨k,rfl⟩
 refine⟨fun w em key hk=> ?_,fun w key ak es hk Ia=> ?_,fun w key=> ?_⟩
 ·obtain⟨k,rfl⟩:=one key hk
  rw[Kr]
  unfold Instr.checkKey
  simp[run_underlying hu]
 ·obtain⟨k,rfl⟩:=one key hk
  have:=vu (k:=k) ak es.toList 0 (by simpa using Ia.size) Ia.len (fun j p hp=>⟨j,by simpa[kV]using Ia.N9 j p hp⟩)
  rw[Kr]
  simp only[Instr.findKey,Sem.run_bind,run_underlying hu,Result.andThen_ok,this,Sem.run_pure,adT]
 ·show(Instr.keyThatStays (.int .i64 (key.getD 0 0)) (.int .i64 (key.getD 0 0))).run P w=_
  simp[Instr.keyThatStays,Instr.sameBits]
  rfl
theorem sj{C:Cfg}{P:Program}(hC:C.Ok P){t n:Nat}(h:mpOk C t=some n):∃k e,P.underlying t=some (.map k e)/\Ko P k n/\∀w,(zeroValue e).run P w= .ok (.int .i64 0) w:=by
 unfold mpOk at h
 split at h
 ·rename_i k e _ _ _ hT
  obtain⟨h1,h3⟩:=(hC.T _ _ hT).2
  split at h
  ·rename_i hk
   cases h
   exact⟨k,e,h1,L5 (hC.T _ _ hk).2,h3⟩
  ·rename_i hk
   obtain⟨fs,h2,_⟩:=(hC.T _ _ hk).2
   split at h
   ·rename_i m hm
    cases h
    exact⟨k,e,h1,D6 (hC.HZ _ _ hm) ⟨_,h2⟩,h3⟩
   ·cases h
  ·cases h
 ·cases h
theorem lP.TY{n:Nat}{ak:List (List Int × Int)}{es:Array MapEntry}(h:lP n ak es){key:List Int}(hk:key.length=kW n)(hf:cA ak key=none):
 lP n (eH ak key) (es.push ⟨kV n key, .int .i64 0,es.size⟩):=by
 have e:eH ak key=ak++ [(key,0)]:=by simp[eH,hf]
 rw[e]
 refine⟨by simp[h.size],fun p hp=> ?_, ?_,fun i p hp=> ?_⟩
 ·rcases ac8.1 hp with hp|hp
  ·exact h.len p hp
  ·simp at hp;subst hp;exact hk
 ·rw[ads,adt]
  refine⟨h.apart,by simp,fun x hx y hy hxy=> ?_⟩
  simp at hy
  subst hy;subst hxy
  obtain⟨p,hp,hpx⟩:=ada.1 hx
  exact lR hf p hp hpx
 ·by_cases hi:i<ak.length
  ·rw[adx hi]at hp
   rw[Array.getElem?_push_lt (by rw[h.size];exact hi), <- h.N9 i p hp,adX]
  ·rw[adw (by omega)]at hp
   have:i=ak.length:=by
    have:=(adh.1 hp).1
    simp at this;omega
   subst this
   simp at hp;subst hp
   rw[<- h.size];simp
theorem lP.put{n:Nat}{ak:List (List Int × Int)}{es:Array MapEntry}(h:lP n ak es)(i:Nat)(v:Int):lP n (mL ak i v) (es.modify i fun e=> {e with val:= .int .i64 v}):=by
 have hg:∀j,(mL ak i v)[j]? =if i=j then(ak[j]?).map (fun p=>(p.1,v)) else ak[j]? :=fun j=>by
  unfold mL;rw[aff];split<;>simp
 have hm:(mL ak i v).map (·.1)=ak.map (·.1):=by
  apply adY
  intro j
  rw[adm,adm,hg]
  split
  ·cases ak[j]? <;>rfl
  ·rfl
 refine⟨by simp[mL,h.size],fun p hp=> ?_,by rw[hm];exact h.apart,fun j p hp=> ?_⟩
 ·have:p.1∈(mL ak i v).map (·.1):=aeO hp
  rw[hm]at this
  obtain⟨q,hq,e⟩:=ada.1 this
  rw[<- e];exact h.len q hq
 ·rw[hg]at hp
  rw[aeG]
  split at hp
  ·rename_i hij;subst hij
   simp only[ad9]at hp
   obtain⟨q,hq,rfl⟩:=hp
   simp[h.N9 i q hq]
  ·rename_i hij
   simp[hij,h.N9 j p hp]
section
variable {X:Ctx} {o:Oper} {s:ASt} {K:LA->Prop}
theorem qE{w:World}{E:Env}{l n:Nat}{ak:List (List Int × Int)}(h:bF w E l (.mp n ak)){v:Value}(hv:cG w E (.mref l) v):∃b es,v= .map (some b)/\E.ρ l=some b/\w.heap[b]? =some (.map es es.size)/\E.z b=0/\lP n ak es:=by
 obtain⟨b,es,h1,h2,h3,h4⟩:=h
 obtain⟨b',hb',rfl⟩:=hv
 rw[h1]at hb';cases hb'
 exact⟨b,es,rfl,h1,h2,h3,h4⟩
theorem OD{w:World}{E:Env}{ks:List AV}{key:List Int}(h:intsOf ks=some key){v:Value}(hv:cG w E (.agg ks) v):v= .agg (key.map (Value.int .i64)).toArray:=by
 obtain⟨us,rfl,hu⟩:=hv
 rw[Az h hu]
theorem zM{w:World}{E:Env}{n:Nat}{a:AV}{key:List Int}(h:keyOf n a=some key){v:Value}(hv:cG w E a v):v=kV n key:=by
 match n,a,h with
 |0, .d (.sc (.int .i64 k)),h=>cases h;exact bN hv
 |n+1, .agg ks,h=>exact OD h hv
theorem Ip(hX:X.Ok){t:Nat}(ho:o.op= .makeMap t none)(h:vcOp X X.C o s K):∃la,aN X o la/\Sat la s/\K la:=by
 simp only[vcOp,ho]at h
 split at h
 ·rename_i d n bV hm
  obtain⟨hd,hK⟩:=h
  refine⟨_,aN.mk bV.symm fun s' E a w hdn hs hE=> ?_,⟨by simp,by simp⟩,hK⟩
  refine⟨.map (some w.heap.size),w.alloc (.map #[] 0),cL E d w.heap.size (E.σ d) 0,by simp[execOp,ho,show(Instr.makeMap t none).run X.P w= .ok (.map (some w.heap.size)) (w.alloc (.map #[] 0)) from rfl], ?_⟩
  rw[bV]
  refine hE.create hX hd (kill:= [(d,none)]) (by simp[kl]) (fun l hl=>by have:=qB d l hl;unfold dlow at hd;omega) (by simp) (fun b hb=>heap_alloc_old w _ hb) rfl rfl rfl
   (fun l x hl=>absurd hl (dX d l x)) ?_ ⟨w.heap.size,by simp[cL],rfl⟩ (fun k hk=>hdn k (by rw[bV];exact hk))
  exact⟨w.heap.size, #[],by simp[cL],by rw[heap_alloc_new];rfl,by simp[cL],⟨rfl,by simp,by simp,by simp⟩⟩
 ·exact h.elim
theorem qf{P:Program}(w:World){t k e n:Nat}(ht:P.underlying t=some (.map k e))(he:Ko P k n)(hz:∀w,(zeroValue e).run P w= .ok (.int .i64 0) w)
 {b:Nat} {es:Array MapEntry} {ak:List (List Int × Int)} (hb:w.heap[b]? =some (.map es es.size)) (hm:lP n ak es) {key:List Int} (hk:key.length=kW n) (ok:Bool):
 (Instr.lookup t (.map (some b)) (kV n key) ok).run P w= .ok (if ok then .tuple #[.int .i64 (gO ak key), .bool (cA ak key).isSome] else .int .i64 (gO ak key)) w:=by
 have h1:=fun em=>he.AA w em key hk
 have h2:=he.find w key ak es hk hm
 simp only[Instr.lookup,Sem.run_bind,run_underlying ht,Result.andThen_ok,MapKept.run_getObj_map hb,Sem.run_pure,h1,h2]
 unfold gO
 cases hf:cA ak key with
 |none=>cases ok<;>simp[hz]
 |some i=>cases ok<;>simp
theorem L6(hX:X.Ok){t:Nat}{x i:Operand}(ho:o.op= .lookup t x i false)(h:vcOp X X.C o s K):∃la,aN X o la/\Sat la s/\K la:=by
 simp only[vcOp,ho]at h
 split at h
 ·rename_i n' l hmp hx
  split at h
  ·rename_i n ak key hl hks
   obtain⟨⟨rfl,cM⟩,hK⟩:=h
   obtain⟨k,e,g1,g2,g4⟩:=sj hX.C hmp
   refine⟨_,aN.val fun s' E a w hs hE=>⟨.int .i64 (gO ak key), ?_,cQ _ rfl⟩,⟨aH s _,by simp[hl]⟩,hK⟩
   have ex:=hE.evs hs.1 X.C 0 (x:=x) (by simp)
   have ei:=hE.evs hs.1 X.C 0 (x:=i) (by simp)
   rw[hx]at ex
   obtain⟨b,es,q1,q2,q3,q4,q5⟩:=qE (hE.good.obj l _ (hs.2 (l, .mp n ak) (by simp))) ex
   have hr:=qf w g1 g2 g4 q3 q5 cM false
   simp only[execOp,ho,q1,zM hks ei,Sem.run_bind,hr,Result.andThen_ok,Sem.run_pure]
   rfl
  ·exact h.elim
 ·exact h.elim
theorem Iq(hX:X.Ok){t:Nat}{x i:Operand}(ho:o.op= .lookup t x i true)(h:vcOp X X.C o s K):∃la,aN X o la/\Sat la s/\K la:=by
 simp only[vcOp,ho]at h
 split at h
 ·rename_i n' l hmp hx
  split at h
  ·rename_i n ak key hl hks
   obtain⟨⟨rfl,cM⟩,hK⟩:=h
   obtain⟨k,e,g1,g2,g4⟩:=sj hX.C hmp
   refine⟨_,aN.val fun s' E a w hs hE=>⟨.tuple #[.int .i64 (gO ak key), .bool (cA ak key).isSome], ?_, ?_⟩,⟨aH s _,by simp[hl]⟩,hK⟩
   rotate_left
   ·exact⟨_,rfl,_,_,rfl,cQ _ rfl,_,_,rfl, .sc _ rfl,rfl⟩
   have ex:=hE.evs hs.1 X.C 0 (x:=x) (by simp)
   have ei:=hE.evs hs.1 X.C 0 (x:=i) (by simp)
   rw[hx]at ex
   obtain⟨b,es,q1,q2,q3,q4,q5⟩:=qE (hE.good.obj l _ (hs.2 (l, .mp n ak) (by simp))) ex
   have hr:=qf w g1 g2 g4 q3 q5 cM true
   simp only[execOp,ho,q1,zM hks ei,Sem.run_bind,hr,Result.andThen_ok,Sem.run_pure]
   rfl
  ·exact h.elim
 ·exact h.elim
theorem D7(hX:X.Ok){t:Nat}{x i y:Operand}(ho:o.op= .mapUpdate t x i y)(h:vcOp X X.C o s K):∃la,aN X o la/\Sat la s/\K la:=by
 simp only[vcOp,ho]at h
 split at h
 ·rename_i n' l v hmp hx hy
  split at h
  ·rename_i n ak key hl hks
   obtain⟨⟨rfl,cM⟩,hK⟩:=h
   obtain⟨k,e,g1,g2,g4⟩:=sj hX.C hmp
   refine⟨_,aN.skip rfl fun s' E a w hdn hs hE=> ?_,⟨aH s _,by simp[hl]⟩,hK⟩
   have ex:=hE.evs hs.1 X.C 0 (x:=x) (by simp)
   have ei:=hE.evs hs.1 X.C 0 (x:=i) (by simp)
   have ey:=hE.evs hs.1 X.C 0 (x:=y) (by simp)
   rw[hx]at ex;rw[hy]at ey
   have hl':=hs.2 (l, .mp n ak) (by simp)
   obtain⟨b,es,q1,q2,q3,q4,q5⟩:=qE (hE.good.obj l _ hl') ex
   have h1:=fun em=>g2.AA w em key cM
   have h2:=g2.find w key ak es cM q5
   have fin:∀es':Array MapEntry,(Instr.mapUpdate t (.map (some b)) (kV n key) (.int .i64 v)).run X.P w= .ok () {w with heap:=w.heap.setIfInBounds b (.map es' es'.size)} ->lP n (zo ak key v) es'->
    ∃w' E',(execOp a.eval o).run X.P w= .ok .skip w'/\bh X E' ((⟨rsOf s [x,i,y], [(l, .mp n ak)], [], [(l, .mp n (zo ak key v))],o.dst, .jA⟩:LA).app s') (a.put o.dst undef) w':=by
    intro es' hrun Sg
    have fR:=MapKept.heap_set (o':= .map es' es'.size) q3
    refine⟨{w with heap:=w.heap.setIfInBounds b (.map es' es'.size)},E,by simp only[execOp,ho,q1,zM hks ei,bN ey,Sem.run_bind,hrun,Result.andThen_ok,Sem.run_pure], ?_⟩
    exact hE.write hl' rfl q2 q4 (by simp) (fun k hk=>fR.2 k hk) rfl rfl rfl ⟨b,es',q2,fR.1,q4,Sg⟩ trivial hdn
   cases hf:cA ak key with
   |none=>
    have Cw:=(q5.TY cM hf).put ak.length v
    have e1:zo ak key v=mL (eH ak key) ak.length v:=by unfold zo jF;rw[hf]
    rw[<- e1]at Cw
    have e2:((es.push ⟨kV n key, .int .i64 0,es.size⟩).modify ak.length fun e=> {e with val:= .int .i64 v})=es.push ⟨kV n key, .int .i64 v,es.size⟩:=by
     apply agO
     intro q
     rw[aeG]
     split
     ·rename_i hq;subst hq
      rw[<- q5.size];simp
     ·rename_i hq
      rw[ago,ago,q5.size]
      rw[ac7 (by omega),ac7 (by omega)]
    rw[e2]at Cw
    refine fin _ ?_ Cw
    simp only[hf,Option.map_none]at h2
    simp only[Instr.mapUpdate,Sem.run_bind,run_underlying g1,Result.andThen_ok,MapKept.run_getObj_map q3,h1,h2,MapKept.run_setObj_map _ q3,agX]
   |some j=>
    obtain⟨p,hp,hpk⟩:=fQ hf
    have Xo:=q5.N9 j p hp
    have Cw:=q5.put j v
    have e1:zo ak key v=mL ak j v:=by unfold zo jF eH;rw[hf]
    rw[<- e1]at Cw
    have e2:(es.modify j fun e=> {e with key:=kV n key,val:= .int .i64 v})=es.modify j fun e=> {e with val:= .int .i64 v} :=by
     apply agO
     intro q
     rw[aeG,aeG]
     split
     ·rename_i hjq;subst hjq
      rw[Xo, <- hpk];rfl
     ·rfl
    rw[<- e2]at Cw
    refine fin _ ?_ Cw
    simp only[hf,Option.map_some]at h2
    have hst:=g2.stay w key
    simp only[Instr.mapUpdate,Sem.run_bind,run_underlying g1,Result.andThen_ok,MapKept.run_getObj_map q3,h1,h2,Xo,Option.map_some,Option.getD_some,hpk,hst,MapKept.run_setObj_map _ q3,agQ]
  ·exact h.elim
 ·exact h.elim
theorem FN(hX:X.Ok){t:Nat}{x i:Operand}(ho:o.op= .mapEntry t x i)(h:vcOp X X.C o s K):∃la,aN X o la/\Sat la s/\K la:=by
 simp only[vcOp,ho]at h
 split at h
 ·rename_i n' l hmp hx
  split at h
  ·rename_i n ak key hl hks
   obtain⟨⟨rfl,cM⟩,hK⟩:=h
   obtain⟨k,e,g1,g2,g4⟩:=sj hX.C hmp
   refine⟨_,aN.mk rfl fun s' E a w hdn hs hE=> ?_,⟨aH s _,by simp[hl]⟩,hK⟩
   have ex:=hE.evs hs.1 X.C 0 (x:=x) (by simp)
   have ei:=hE.evs hs.1 X.C 0 (x:=i) (by simp)
   rw[hx]at ex
   have hl':=hs.2 (l, .mp n ak) (by simp)
   obtain⟨b,es,q1,q2,q3,q4,q5⟩:=qE (hE.good.obj l _ hl') ex
   have h1:=fun em=>g2.AA w em key cM
   have h2:=g2.find w key ak es cM q5
   have fin:∀(es':Array MapEntry) (v':Value),(Instr.mapEntry t (.map (some b)) (kV n key)).run X.P w= .ok v' {w with heap:=w.heap.setIfInBounds b (.map es' es'.size)} ->lP n (eH ak key) es'->
    v'= .tuple #[.int .i64 (gO ak key), .int .i64 (jF ak key:Nat)]->∃v' w' E',(execOp a.eval o).run X.P w= .ok (.value v') w'/\
    bh X E' ((⟨rsOf s [x,i], [(l, .mp n ak)], [], [(l, .mp n (eH ak key))],o.dst, .tup [.d (.sc (.int .i64 (gO ak key))), .d (.sc (.int .i64 (jF ak key:Nat)))]⟩:LA).app s') (a.put o.dst v') w':=by
    intro es' v' hrun Sg NT
    refine⟨v', {w with heap:=w.heap.setIfInBounds b (.map es' es'.size)},E,by simp only[execOp,ho,q1,zM hks ei,Sem.run_bind,hrun,Result.andThen_ok,Sem.run_pure], ?_⟩
    have fR:=MapKept.heap_set (o':= .map es' es'.size) q3
    refine hE.write hl' rfl q2 q4 (by simp) (fun k hk=>fR.2 k hk) rfl rfl rfl ⟨b,es',q2,fR.1,q4,Sg⟩ ?_ hdn
    rw[NT]
    exact⟨_,rfl,_,_,rfl,cQ _ rfl,_,_,rfl,cQ _ rfl,rfl⟩
   cases hf:cA ak key with
   |none=>
    refine fin _ (.tuple #[.int .i64 0, .int .i64 (ak.length:Nat)]) ?_ (q5.TY cM hf) ?_
    rotate_left
    ·simp only[gO,jF,hf]
    ·simp only[hf,Option.map_none]at h2
     simp only[Instr.mapEntry,Sem.run_bind,run_underlying g1,Result.andThen_ok,MapKept.run_getObj_map q3,h1,h2,g4,MapKept.run_setObj_map _ q3,Sem.run_pure,goInt,q5.size,agX]
   |some j=>
    obtain⟨p,hp,hpk⟩:=fQ hf
    have Xo:=q5.N9 j p hp
    refine fin (es.modify j fun e=> {e with key:=kV n key}) (.tuple #[.int .i64 ((ak[j]?.map (·.2)).getD 0), .int .i64 (j:Nat)]) ?_ ?_ ?_
    ·simp only[hf,Option.map_some]at h2
     have hst:=g2.stay w key
     simp only[Instr.mapEntry,Sem.run_bind,run_underlying g1,Result.andThen_ok,MapKept.run_getObj_map q3,h1,h2,Xo,Option.map_some,Option.getD_some,hpk,hst,MapKept.run_setObj_map _ q3,Sem.run_pure,goInt,agQ]
    ·have e1:eH ak key=ak:=by simp[eH,hf]
     rw[e1]
     have:(es.modify j fun e=> {e with key:=kV n key})=es:=by
      apply agO
      intro q
      rw[aeG]
      split
      ·rename_i hjq;subst hjq
       rw[Xo, <- hpk];rfl
      ·rfl
     rw[this];exact q5
    ·simp only[gO,jF,hf]
  ·exact h.elim
 ·exact h.elim
theorem D8{n:Nat}{ak:List (List Int × Int)}{es:Array MapEntry}(h:lP n ak es){i:Nat}(hi:i<ak.length):es.findIdx? (fun e=>(e.born:Int)==(i:Int))=some i:=by
 rw[Array.findIdx?_eq_some_iff_getElem]
 have Xp:∀j (hj:j<es.size),es[j].born=j:=by
  intro j hj
  have:=h.N9 j _ (acF (by rw[<- h.size];exact hj))
  rw[adX hj]at this
  simp only[ady]at this
  rw[this]
 refine⟨by rw[h.size];exact hi, ?_,fun j hj=> ?_⟩
 ·rw[Xp i (by rw[h.size];exact hi)];simp
 ·rw[Xp j (by rw[h.size];omega)]
  have:¬((j:Int)==(i:Int))=true:=by simp;omega
  exact this
theorem Cz{t:Nat}{x st y:Operand}(ho:o.op= .entryStore t x st y)(h:vcOp X X.C o s K):∃la,aN X o la/\Sat la s/\K la:=by
 simp only[vcOp,ho]at h
 split at h
 ·rename_i l i v hx hst hy
  split at h
  ·rename_i n ak hl
   obtain⟨⟨h0,hlt⟩,hK⟩:=h
   refine⟨_,aN.skip rfl fun s' E a w hdn hs hE=> ?_,⟨aH s _,by simp[hl]⟩,hK⟩
   have ex:=hE.evs hs.1 X.C 0 (x:=x) (by simp)
   have es':=hE.evs hs.1 X.C 0 (x:=st) (by simp)
   have ey:=hE.evs hs.1 X.C 0 (x:=y) (by simp)
   rw[hx]at ex;rw[hst]at es';rw[hy]at ey
   have hl':=hs.2 (l, .mp n ak) (by simp)
   obtain⟨b,es,q1,q2,q3,q4,q5⟩:=qE (hE.good.obj l _ hl') ex
   have hf:=D8 q5 (i:=i.toNat) (by omega)
   rw[afj h0]at hf
   have fR:=MapKept.heap_set (o':= .map (es.modify i.toNat fun e=> {e with val:= .int .i64 v}) es.size) q3
   refine⟨{w with heap:=w.heap.setIfInBounds b (.map (es.modify i.toNat fun e=> {e with val:= .int .i64 v}) es.size)},E, ?_, ?_⟩
   ·simp only[execOp,ho,q1,bN es',bN ey,Sem.run_bind,Instr.entryStore,MapKept.run_getObj_map q3,Result.andThen_ok,asInt,asIntOf,Sem.run_pure,hf,MapKept.run_setObj_map _ q3]
   ·refine hE.write hl' rfl q2 q4 (by simp) (fun k hk=>fR.2 k hk) rfl rfl rfl ⟨b,_,q2, ?_,q4,q5.put i.toNat v⟩ trivial hdn
    simp only[fR.1,agQ]
  ·exact h.elim
 ·exact h.elim
end
theorem jH{X:Ctx}(hX:X.Ok){o:Oper}{s:ASt}{K:LA->Prop}(h:vcOp X X.C o s K):∃la,aN X o la/\Sat la s/\K la:=by
 cases ho:o.op
 case move x=>exact Ke (.inl ho) h
 case assign x=>exact Ke (.inr ho) h
 case pick c x y=>exact R2 ho h
 case alloc e=>exact Ou hX ho h
 case box e x=>exact UG hX ho h
 case build t ps=>exact Ol hX ho h
 case buildSlice t n ps=>exact Cy hX ho h
 case load t x=>exact R5 hX ho h
 case store t x y=>exact Ov hX ho h
 case nilCheck x=>exact FG ho h
 case unOp op t x=>exact R6 ho h
 case convert t t' x=>exact Ik hX ho h
 case fieldAddr st x f=>exact DW hX ho h
 case indexAddr t x i=>exact DX hX ho h
 case field st x f=>exact Oo hX ho h
 case index t x i=>exact Oq hX ho h
 case makeSlice t x y=>exact D3 hX ho h
 case slice t x lo hi mx=>exact OC hX ho h
 case extract x i=>exact Ij ho h
 case makeMap t r=>
  cases r with
  |none=>exact Ip hX ho h
  |some r=>simp only[vcOp,ho]at h
 case lookup t x i c=>
  cases c with
  |false=>exact L6 hX ho h
  |true=>exact Iq hX ho h
 case mapUpdate t x i y=>exact D7 hX ho h
 case mapEntry t x i=>exact FN hX ho h
 case entryStore t x st y=>exact Cz ho h
 case makeFunc fn first captured=>
  cases fn with
  |func f=>exact FH ho h
  |_=>simp only[vcOp,ho]at h
 case binOp op xt x y yt=>
  have h0:=h
  simp only[vcOp,ho]at h
  split at h
  ·rename_i p q hp hq
   exact Uz ho hp hq h
  ·rename_i p q hp hq
   exact ZO ho hp hq h
  ·rename_i p q hp hq
   exact W8 ho hp hq h
  ·split at h
   ·exact TS (.inl ⟨rfl,rfl⟩) hX ho h
   ·exact TS (.inr ⟨rfl,rfl⟩) hX ho h
   ·exact h.elim
 case call c=>
  simp only[vcOp,ho]at h
  split at h
  ·rename_i b hc
   have h0:=h
   unfold vcBuiltin at h
   split at h
   ·rename_i x t ha ht
    rw[ha,ht]at h0
    exact UE hX ho hc ha ht h0
   ·rename_i x t ha ht
    rw[ha,ht]at h0
    exact UF hX ho hc ha ht h0
   ·rename_i x y t t' ha ht
    rw[ha,ht]at h0
    exact L3 hX ho hc ha ht h0
   ·rename_i x y ts ha
    rw[ha]at h0
    exact CQ (.inl rfl) ho hc ha h0
   ·rename_i x y ts ha
    rw[ha]at h0
    exact CQ (.inr rfl) ho hc ha h0
   ·exact h.elim
  ·exact h.run ⟨_,_,ho,by assumption,rfl,rfl⟩
  ·exact h.elim
 all_goals(simp only[vcOp,ho]at h)
def gslot(l:List Oper)(j:Nat):Option Nat:=match l[j]? with|some o=>o.dst|none=>none
def vcOps(X:Ctx)(C:Cfg)(l:List Oper):List Oper->ASt->(ASt->Prop)->Prop
 | [],s,K=>K s
 |o::rest,s,K=>match o.guard with
  |none=>vcOp X C o s fun la=>vcOps X C l rest (la.app s) K
  |some (j,want)=>match gslot l j with
   |none=>False
   |some g=>match get s.t g with
    | .d (.sc (.bool b))=>
      (b=want->vcOp X C o (s.put (some g) (.d (.sc (.bool want)))) fun la=>vcOps X C l rest (la.app (s.put (some g) (.d (.sc (.bool want))))) K)/\
      (b=(!want)->vcOps X C l rest ((s.put (some g) (.d (.sc (.bool (!want))))).put o.dst (.tup [])) K)
    | .tup []=>vcOps X C l rest (s.put o.dst (.tup [])) K
    |_=>False
theorem Oper.xU{P:Program}{o:Oper}{a:Act}{w:World}{K K':Act->World->Prop}{Q:Exit->Act->World->Prop}(h:∀a w,K a w->K' a w)(hh:o.wp P a w K W6):o.wp P a w K' Q:=by
 unfold Oper.wp at*
 generalize (execOp a.eval o).run P w=r at*
 cases r with
 |ok n w'=>
  cases n<;>simp only[Oper.upon]at hh ⊢ <;>
   first
    |exact h _ _ hh
    |exact Calls.mono hh (fun e w'' he=>by
      cases e
      ·exact h _ _ he
      ·exact he.elim
      ·obtain⟨a0,w0,h0⟩:=he;exact h0.elim)
    |exact Rows.mono hh (fun _ _ he=>h _ _ he)
 |halt x w'=>cases x<;>simp only[Oper.upon,W6]at hh
theorem bh.put{X:Ctx}{E:Env}{s:ASt}{a:Act}{w:World}(h:bh X E s a w){g:Nat}{v:AV}(hv:cG w E v (a.tmps.getD g undef)):bh X E (s.put (some g) v) a w:=
 ⟨h.defers,h.size,h.good,h.j6,h.mine,fun k=>by
   simp only[ASt.put,get]
   split
   ·rename_i hk;subst hk;exact hv
   ·exact h.slot k⟩
theorem bh.jA{X:Ctx}{E:Env}{s:ASt}{a:Act}{w:World}(h:bh X E s a w)(dst:Option Nat)(u:Value):bh X E (s.put dst .jA) (a.put dst u) w:=by
 cases dst with
 |none=>exact h
 |some d=>
  refine⟨h.defers,by simp[Act.put,h.size],h.good,h.j6,h.mine,fun k=> ?_⟩
  simp only[ASt.put,get,Act.put]
  split
  ·trivial
  ·rename_i hk
   have:(a.tmps.setIfInBounds d u).getD k undef=a.tmps.getD k undef:=by
    simp only[adS,aeZ hk]
   rw[this];exact h.slot k
theorem bh.Wu{X:Ctx}{E:Env}{s:ASt}{a:Act}{w:World}(h:bh X E s a w)(dst:Option Nat):bh X E (s.put dst (.tup [])) (a.put dst undef) w:=by
 cases dst with
 |none=>exact h
 |some d=>
  refine⟨h.defers,by simp[Act.put,h.size],h.good,h.j6,h.mine,fun k=> ?_⟩
  simp only[ASt.put,get,Act.put]
  split
  ·rename_i hk
   subst hk
   have:(a.tmps.setIfInBounds d undef).getD d undef=undef:=by
    simp only[adS,agK]
    split
    ·split<;>rfl
    ·rename_i hne;exact absurd trivial hne
   rw[this]
   exact⟨[],rfl,rfl⟩
  ·rename_i hk
   have:(a.tmps.setIfInBounds d undef).getD k undef=a.tmps.getD k undef:=by
    simp only[adS,aeZ hk]
   rw[this];exact h.slot k
theorem qF{X:Ctx}{E:Env}{s:ASt}{a:Act}{w:World}(h:bh X E s a w){l:List Oper}{j g:Nat}(hg:gslot l j=some g)(hb:get s.t g= .tup []):
 yielded l.toArray a.tmps j=none:=by
 have hv:=h.slot g
 rw[hb]at hv
 obtain⟨us,hv,h2⟩:=hv
 have h2:us= []:=h2
 subst h2
 unfold gslot at hg
 split at hg
 ·rename_i o ho
  unfold yielded
  have hq:a.tmps[g]? =none\/a.tmps[g]? =some (.tuple #[]):=by
   rw[adS]at hv
   cases hq:a.tmps[g]? with
   |none=>exact .inl rfl
   |some v=>rw[hq]at hv;simp at hv;rw[hv];exact .inr rfl
  rcases hq with hq|hq<;>simp[ho,hg,hq]
 ·cases hg
theorem uw{X:Ctx}{E:Env}{s:ASt}{a:Act}{w:World}(h:bh X E s a w){l:List Oper}{j g:Nat}{b:Bool}(hg:gslot l j=some g)(hb:get s.t g= .d (.sc (.bool b))):
 yielded l.toArray a.tmps j=some b/\a.tmps.getD g undef= .bool b:=by
 have hv:=h.slot g
 rw[hb]at hv
 have hv:=dM hv
 refine⟨?_,hv⟩
 unfold gslot at hg
 split at hg
 ·rename_i o ho
  unfold yielded
  have:a.tmps[g]? =some (.bool b):=by
   rw[adS]at hv
   cases hq:a.tmps[g]? with
   |none=>rw[hq]at hv;simp[undef]at hv
   |some v=>rw[hq]at hv;simp at hv;rw[hv]
  simp[ho,hg,this]
 ·cases hg
theorem yN{X:Ctx}(hX:X.Ok){l:List Oper}{Q:Exit->Act->World->Prop}{K:ASt->Prop}(hK:∀s a w,K s->Rel X s a w->Q .normal a w):
 ∀(r:List Oper) (s:ASt),(∀o∈r,∀d,o.dst=some d->d<X.n)->vcOps X X.C l r s K->∀a w,Rel X s a w->wpList X.P l.toArray Q r a w
 | [],s,_,h,a,w,hr=>hK s a w h hr
 |o::r,s,hd,h,a,w,hr=>by
  have ih:=yN hX (l:=l) hK r
  have hd':∀o∈r,∀d,o.dst=some d->d<X.n:=fun o ho=>hd o (by simp[ho])
  have run:∀s,Rel X s a w->(vcOp X X.C o s fun la=>vcOps X X.C l r (la.app s) K)->o.wp X.P a w (wpList X.P l.toArray Q r) Q:=by
   intro s hr h
   obtain⟨la,⟨_,h1⟩,h2,h3⟩:=jH hX h
   exact Oper.xU (fun a' w' hr'=>ih (la.app s) hd' h3 a' w' hr') (h1 s a w (hd o (by simp)) h2 hr)
  unfold wpList
  unfold vcOps at h
  cases hgd:o.guard with
  |none=>
   simp only[hgd]at h
   rw[ac9 (by simp[Region.wanted,hgd])]
   exact .inl (run s hr h)
  |some p=>
   obtain⟨j,want⟩:=p
   simp only[hgd]at h
   split at h
   ·exact h.elim
   ·rename_i g hg
    split at h
    ·rename_i b hb
     obtain⟨E,hE⟩:=hr
     obtain⟨hy,hv⟩:=uw hE hg hb
     by_cases hbw:b=want
     ·subst hbw
      rw[ac9 (by simp[Region.wanted,hgd,hy])]
      exact .inl (run _ ⟨E,hE.put (by rw[hv];exact cQ _ rfl)⟩ (h.1 rfl))
     ·have Sh:b= !want:=by cases b<;>cases want<;>simp_all
      rw[ac7 (by simp[Region.wanted,hgd,hy,hbw])]
      exact ih _ hd' (h.2 Sh) _ _ ⟨E,(hE.put (by rw[hv,Sh];exact cQ _ rfl)).Wu o.dst⟩
    ·rename_i hb
     obtain⟨E,hE⟩:=hr
     have hy:=qF hE hg hb
     rw[ac7 (by simp[Region.wanted,hgd,hy])]
     exact ih _ hd' h _ _ ⟨E,hE.Wu o.dst⟩
    ·exact h.elim
def Y4(n:Nat):List Oper->Bool
 | []=>true
 |o::r=>(match o.dst with|some d=>decide (d<n)|none=>true)&&Y4 n r
theorem qG{n:Nat} :∀ {l:List Oper},Y4 n l=true->∀o∈l,∀d,o.dst=some d->d<n
 | [],_,o,ho,_,_=>by cases ho
 |q::r,h,o,ho,d,hd=>by
  simp only[Y4,adf]at h
  rcases adv.1 ho with rfl|ho
  ·have:=h.1;rw[hd]at this;simpa using this
  ·exact qG h.2 o ho d hd
def vk(n:Nat):Code->Bool
 | .region _ ops _=>Y4 n ops.toList
 | .seq x y=>vk n x&&vk n y
 | .cond _ x y=>vk n x&&vk n y
 | .block _ x=>vk n x
 | .loop x=>vk n x
 | .skip=>true
 | .exit _=>true
 | .ret=>true
 | .rangeFunc _ ps x y=>ps.toList.all (fun p=>decide (p<n))&&vk n x&&vk n y
 |_=>false
def lift(X:Ctx)(Q:Exit->ASt->Prop):Exit->Act->World->Prop:=fun e a w=>∃s,Q e s/\Rel X s a w
structure cR (X:Ctx) (c:Code) (Q:Exit->ASt->Prop) (s:ASt):Prop where
 run:vk X.n c=true->∀a w,Rel X s a w->c.wp X.P (lift X Q) a w
def athen(K:ASt->Prop)(Q:Exit->ASt->Prop):Exit->ASt->Prop
 | .normal,s=>K s
 |e,s=>Q e s
def ablock(id:Nat)(Q:Exit->ASt->Prop):Exit->ASt->Prop
 | .exit id',s=>if id'=id then Q .normal s else Q (.exit id') s
 |e,s=>Q e s
section
variable {X:Ctx} {Q:Exit->ASt->Prop} {s:ASt}
theorem AB(hX:X.Ok){id:Nat}{l:List Oper}(h:vcOps X X.C l l s (fun s'=>Q .normal s')):cR X (.region id l.toArray false) Q s:=by
 refine⟨fun hc a w hr=> ?_⟩
 refine wp_region_list ?_
 exact yN hX (K:=fun s'=>Q .normal s') (Q:=lift X Q) (fun s a w hs hr=>⟨s,hs,hr⟩) l s (qG (by simpa[vk]using hc)) h a w hr
theorem OE{c:Code}{Q':Exit->ASt->Prop}(h:cR X c Q s)(hq:∀e s,Q e s->Q' e s):cR X c Q' s:=
 ⟨fun hc a w hr=>wp_mono (h.run hc a w hr) fun e a w ⟨s,h1,h2⟩=>⟨s,hq e s h1,h2⟩⟩
theorem wG{x y:Code}(h:cR X x (athen (fun s'=>cR X y Q s') Q) s):cR X (.seq x y) Q s:=by
 refine⟨fun hc a w hr=> ?_⟩
 simp only[vk,adf]at hc
 refine wp_seq (wp_mono (h.run hc.1 a w hr) ?_)
 rintro e a w ⟨s,h1,h2⟩
 cases e<;>first|exact h1.run hc.2 a w h2|exact⟨s,h1,h2⟩
theorem wI(h:Q .normal s):cR X .skip Q s:=⟨fun _ a w hr=>wp_skip ⟨s,h,hr⟩⟩
theorem wJ{id:Nat}(h:Q (.exit id) s):cR X (.exit id) Q s:=⟨fun _ a w hr=>wp_exit ⟨s,h,hr⟩⟩
theorem wK(h:Q .ret s):cR X .ret Q s:=⟨fun _ a w hr=>wp_ret ⟨s,h,hr⟩⟩
theorem wM{c:Nat}{x y:Code}{b:Bool}(hc:get s.t c= .d (.sc (.bool b)))(h1:b=true->cR X x Q s)(h2:b=false->cR X y Q s):cR X (.cond (.tmp c) x y) Q s:=by
 refine⟨fun hk a w ⟨E,hE⟩=> ?_⟩
 simp only[vk,adf]at hk
 have hv:=hE.slot c
 rw[hc]at hv
 have hv:=dM hv
 cases b with
 |true=>exact wp_cond_true (by simpa[Act.eval]using hv) ((h1 rfl).run hk.1 a w ⟨E,hE⟩)
 |false=>exact wp_cond_false (by simpa[Act.eval]using hv) ((h2 rfl).run hk.2 a w ⟨E,hE⟩)
theorem wL{c:Nat}{x y:Code}{p:Prop}(hc:get s.t c= .jE p)(h1:p->cR X x Q s)(h2:cR X y Q s):cR X (.cond (.tmp c) x y) Q s:=by
 refine⟨fun hk a w ⟨E,hE⟩=> ?_⟩
 simp only[vk,adf]at hk
 have hv:=hE.slot c
 rw[hc]at hv
 obtain⟨b,hv,hp⟩:=hv
 cases b with
 |true=>exact wp_cond_true (by simpa[Act.eval]using hv) ((h1 (hp rfl)).run hk.1 a w ⟨E,hE⟩)
 |false=>exact wp_cond_false (by simpa[Act.eval]using hv) (h2.run hk.2 a w ⟨E,hE⟩)
theorem wH{id:Nat}{x:Code}(h:cR X x (ablock id Q) s):cR X (.block id x) Q s:=by
 refine⟨fun hk a w hr=> ?_⟩
 refine wp_block (wp_mono (h.run hk a w hr) ?_)
 rintro e a w ⟨s,h1,h2⟩
 cases e with
 |exit id'=>
  simp only[Exit.inBlock,ablock]at h1 ⊢
  split
  ·rename_i hid;simp only[hid,if_true]at h1;exact⟨s,h1,h2⟩
  ·rename_i hid;simp only[hid,if_false]at h1;exact⟨s,h1,h2⟩
 |_=>exact⟨s,h1,h2⟩
structure Le (s s':ASt):Prop where
 t:∀k,get s'.t k= .jA\/get s.t k=get s'.t k
 m:∀l o,look s'.m l=some o->look s.m l=some o
theorem Le.bM{s s':ASt}(h:Le s s'){l:Nat}{o:AObj}(hl:bM s'.m l=some o):bM s.m l=some o:=by
 unfold Ab.bM at hl ⊢
 split at hl
 ·exact h.m l o hl
 ·rename_i b i _
  cases hq:look s'.m b with
  |none=>rw[hq]at hl;simp[inner]at hl
  |some q=>rw[h.m b q hq];rw[hq]at hl;exact hl
theorem Rel.le{s s':ASt}(h:Le s s'){a:Act}{w:World}(hr:Rel X s a w):Rel X s' a w:=by
 obtain⟨E,hE⟩:=hr
 refine⟨E,hE.defers,hE.size,⟨fun l hl=> ?_,fun l l' b hl hl'=> ?_,fun l o hl=>hE.good.gw l o (h.bM hl),hE.good.fresh⟩,hE.j6,fun l o b hl=>hE.mine l o b (h.bM hl),fun k=> ?_⟩
 ·obtain⟨o,ho⟩:=ade.1 hl
  exact hE.good.low l (by simp[h.m l o ho])
 ·obtain⟨o,ho⟩:=ade.1 hl
  obtain⟨o',ho'⟩:=ade.1 hl'
  exact hE.good.inj l l' b (by simp[h.bM ho]) (by simp[h.bM ho'])
 ·rcases h.t k with hk|hk
  ·rw[hk];trivial
  ·rw[<- hk];exact hE.slot k
theorem OF{x:Code}{ι:Type}(I:ι->ASt)(μ:ι->Nat)(i0:ι)(h0:Le s (I i0))(h:∀i,cR X x (athen (fun s'=>∃j,Le s' (I j)/\μ j<μ i) Q) (I i)):cR X (.loop x) Q s:=by
 refine⟨fun hk a w hr=> ?_⟩
 simp only[vk]at hk
 intro b k cs
 have key:∀(n:Nat) (i:ι) (a:Act) (w:World),μ i=n->Rel X (I i) a w->
  ∃e a' w',lift X Q e a' w'/\Arrives X.P (lone (b.at a (.code x:: .inLoop x::k)) cs w) b k cs e a' w':=by
  intro n
  induction n using Nat.strongRecOn with
  |_ n ih=>
   intro i a w hn hI
   obtain⟨e,a₁,w₁,⟨s1,hq,uu⟩,FO⟩:=(h i).run hk a w hI b (.inLoop x::k) cs
   cases e with
   |normal=>
    obtain⟨j,hj,hlt⟩:=hq
    obtain⟨e₂,a₂,w₂,hq₂,Xq⟩:=ih (μ j) (hn ▸ hlt) j a₁ w₁ rfl (uu.le hj)
    exact⟨e₂,a₂,w₂,hq₂, .of_steps (Steps.trans FO (.one step_inLoop)) Xq⟩
   |exit id=>exact⟨_,a₁,w₁,⟨s1,hq,uu⟩, .pass (x:= .inLoop x) rfl (fun _ _=> .inl (by simp)) FO⟩
   |goto l=>exact⟨_,a₁,w₁,⟨s1,hq,uu⟩, .pass (x:= .inLoop x) rfl (fun _ _=> .inl (by simp)) FO⟩
   |ret=>exact⟨_,a₁,w₁,⟨s1,hq,uu⟩, .pass (x:= .inLoop x) rfl (fun _ _=> .inl (by simp)) FO⟩
   |panic ch=>exact⟨_,a₁,w₁,⟨s1,hq,uu⟩, .pass (x:= .inLoop x) rfl (fun _ _=> .inl (by simp)) FO⟩
   |outgrown=>exact⟨_,a₁,w₁,⟨s1,hq,uu⟩, .pass (x:= .inLoop x) rfl (fun _ _=> .inl (by simp)) FO⟩
 obtain⟨e,a',w',hq,FO⟩:=key _ i0 a w rfl (hr.le h0)
 exact⟨e,a',w',hq, .of_steps (.one step_loop) FO⟩
end
end Go.Ab
end
