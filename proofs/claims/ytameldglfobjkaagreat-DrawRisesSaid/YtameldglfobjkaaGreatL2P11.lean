/- A part of the proof. -/
import Derived.Laws.IdiomRangeMap
import Derived.Test.YtameldglfobjkaaGreatL2P10
set_option linter.unusedSimpArgs false
set_option linter.unusedVariables false
section
namespace Go.Ab
open Go.RowKit
section
variable {P:Program}
theorem Hl (W:World) (ty:TypeId) (r bm since c0:Nat) (seen:Array Nat) (es:Array MapEntry) (clock:Nat) (hr:W.heap[r]? =some (.mapIter (some bm) since seen c0)) (hb:W.heap[bm]? =some (.map es clock)) (hold:∀x∈es.toList,x.born<since) (hsc:since≤c0):
 ((leftOf es seen).size=0∧(Instr.next (.pointer (some ⟨r,0,none⟩)) false ty).run P W= .ok (.tuple #[.bool false]) W)∨
 ∃e∈(leftOf es seen).toList,∃n:Nat,(Instr.next (.pointer (some ⟨r,0,none⟩)) false ty).run P W= .ok (.tuple #[.bool true,e.key,e.val]) (({W with drawn:=n} :World).putObj r (.mapIter (some bm) since (seen.push e.born) clock)):=by
 simp only [Instr.next,getObj,Sem.run_bind,Sem.run,hr,hb,Result.andThen,next_test_false seen es since c0 hold hsc,Bool.false_eq_true,if_false]
 unfold leftOf
 have hmem:∀x∈(Array.filter (fun e=> !seen.contains e.born) es).toList,x.born<since:=fun x hx=>hold x (by simp at hx ⊢;exact hx.1)
 generalize Array.filter (fun e=> !seen.contains e.born) es=L at hmem ⊢
 have e1:L.filter (fun x=>decide (x.born<since))=L:=Array.filter_eq_self.2 (fun x hx=>by simpa using hmem x (by simpa using hx))
 have e2:L.filter (fun x=>decide (x.born≥since))= #[]:=by
  rw [Array.filter_eq_empty_iff]
  intro x hx
  have:=hmem x (by simpa using hx)
  simp
  omega
 simp only [e1,e2,Array.append_empty]
 by_cases h0:L.size=0
 ·left
  have:L= #[]:=Array.eq_empty_of_size_eq_zero h0
  subst this
  refine ⟨rfl, ?_⟩
  simp [choose,Sem.run,Question.forced]
 ·right
  have hne:L.isEmpty=false:=by simp [Array.isEmpty,h0]
  simp only [hne,Bool.false_eq_true,if_false,Array.empty_append,Array.size_map]
  have hch:∃(j n:Nat),j<L.size∧(choose (Question.mapNext L.size)).run P W= .ok j {W with drawn:=n} :=by
   by_cases hf:L.size≤1
   ·exact ⟨0,W.drawn,by omega,by simp [choose,Sem.run,Question.forced,hf]⟩
   ·exact ⟨_,W.drawn+1,Nat.mod_lt _ (by omega),by
     simp only [choose,Sem.run,Question.forced,decide_eq_true_eq,hf,if_false,Question.cut]
     rfl⟩
  obtain ⟨j,n,hj,hrun⟩:=hch
  refine ⟨L[j],by simp,n, ?_⟩
  have di:∀(o':Obj),(setObj r o').run P {W with drawn:=n} = .ok () (({W with drawn:=n} :World).putObj r o'):=fun o'=>by
   simp only [setObj,Sem.run]
   rw [show ({W with drawn:=n} :World).heap[r]? =some (.mapIter (some bm) since seen c0) from hr]
   rfl
  simp only [hrun,Array.getElem?_map,Array.getElem?_eq_getElem hj,Option.map_some,Sem.run_bind,di,Result.andThen]
  rfl
theorem EU (W:World) (r bm since:Nat) (seen:Array Nat) (es:Array MapEntry) (clock:Nat) (e:MapEntry) (hr:W.heap[r]? =some (.mapIter (some bm) since (seen.push e.born) clock)) (hb:W.heap[bm]? =some (.map es clock)) (he:e∈es.toList) (hn:(es.toList.map (·.born)).Nodup):
 (Instr.entry (.pointer (some ⟨r,0,none⟩))).run P W= .ok (.tuple #[e.key,e.val]) W:=by
 have hf:es.find? (·.born==e.born)=some e:=by rw [← Array.find?_toList];exact find_born e es.toList hn he
 simp only [Instr.entry,getObj,Sem.run_bind,Sem.run,hr,hb,Result.andThen,Array.back?_push,bne_self_eq_false,Bool.false_eq_true,if_false,hf]
 rfl
end
theorem dQ.born {ag:List (List Int × Int)} {es:Array MapEntry} (h:dQ 0 ag es):es.toList.map (·.born)=List.range es.size:=by
 refine List.ext_getElem? fun i=> ?_
 rw [List.getElem?_map,Array.getElem?_toList]
 by_cases hi:i<es.size
 ·have hp:=List.getElem?_eq_getElem (l:=ag) (i:=i) (by rw [← h.size];exact hi)
  rw [h.zU i _ hp,List.getElem?_range hi]
  rfl
 ·rw [Array.getElem?_eq_none (by omega),List.getElem?_eq_none (by simpa using hi)]
  rfl
theorem dQ.mem {ag:List (List Int × Int)} {es:Array MapEntry} (h:dQ 0 ag es) {y:MapEntry} (hy:y∈es.toList):∃p∈ag,y.key= .int .i64 (p.1.getD 0 0)∧y.val= .int .i64 p.2∧y.born<es.size:=by
 obtain ⟨i,hi,e⟩:=List.mem_iff_getElem.1 hy
 have hi':i<es.size:=by simpa using hi
 have hl:i<ag.length:=by rw [← h.size];exact hi'
 have hp:=List.getElem?_eq_getElem (l:=ag) (i:=i) hl
 have:=h.zU i _ hp
 rw [Array.getElem?_eq_getElem hi'] at this
 have e2:es[i]=y:=by rw [← e];simp
 rw [e2] at this
 have:=Option.some.inj this
 subst this
 exact ⟨ag[i],List.getElem_mem hl,rfl,rfl,hi'⟩
theorem dQ.uniq {ag:List (List Int × Int)} {es es':Array MapEntry} (h:dQ 0 ag es) (h':dQ 0 ag es'):es'=es:=by
 refine Array.ext (by rw [h.size,h'.size]) fun i h1 h2=> ?_
 have hl:i<ag.length:=by rw [← h.size];exact h2
 have hp:=List.getElem?_eq_getElem (l:=ag) (i:=i) hl
 have e1:=h.zU i _ hp
 have e2:=h'.zU i _ hp
 rw [Array.getElem?_eq_getElem h2] at e1
 rw [Array.getElem?_eq_getElem h1] at e2
 exact (Option.some.inj e2).trans (Option.some.inj e1).symm
theorem fz {P:Program} {ops:Array Oper} {Q:Exit→Act→World→Prop} {rest:List Oper} {o:Oper} {a:Act} {w w':World} {v:Value} (hg:o.guard=none) (h:(execOp a.eval o).run P w= .ok (.value v) w') (hk:wpList P ops Q rest (a.put o.dst v) w'):wpList P ops Q (o::rest) a w:=by
 unfold wpList
 rw [if_pos (by simp [Region.wanted,hg])]
 left
 unfold Oper.wp
 rw [h]
 exact hk
theorem qW {P:Program} {a:Act} {w:World} {o:Oper} {e i:Nat} {vs:Array Value} {v:Value} (ho:o.op= .extract (.tmp e) i) (h:a.tmps.getD e undef= .tuple vs) (hv:vs[i]? =some v):(execOp a.eval o).run P w= .ok (.value v) w:=by
 have h':a.eval (.tmp e)= .tuple vs:=h
 simp [execOp,ho,h',Instr.extract,hv]
theorem Ak {P:Program} {a:Act} {w:World} {o:Oper} {e:Nat} {v:Value} (ho:o.op= .move (.tmp e)∨o.op= .assign (.tmp e)) (h:a.tmps.getD e undef=v):(execOp a.eval o).run P w= .ok (.value v) w:=by
 have h':a.eval (.tmp e)=v:=h
 rcases ho with ho|ho<;>simp [execOp,ho,h']
theorem bG {a:Act} {i k:Nat} {v:Value} (h:i<a.tmps.size):(a.put (some i) v).tmps.getD k undef=if i=k then v else a.tmps.getD k undef:=Hj h
theorem bq {a:Act} {i:Option Nat} {v:Value} :(a.put i v).tmps.size=a.tmps.size:=by cases i<;>simp [Act.put]
theorem put_defers {a:Act} {i:Option Nat} {v:Value} :(a.put i v).defers=a.defers:=by cases i<;>rfl
theorem aK.act {X:Ctx} {E:Env} {s:ASt} {a a':Act} {w:World} (h:aK X E s a w) {t:List (Nat × AV)} (hd:a'.defers=a.defers) (hs:a'.tmps.size=a.tmps.size) (ht:∀k,bS w E (get t k) (a'.tmps.getD k undef)):aK X E ⟨t,s.m⟩ a' w:=
 ⟨by rw [hd];exact h.defers,by rw [hs];exact h.size,h.good,h.gF,h.mine,ht⟩
def sW (π:Nat→Nat):List (Nat × AV)→List (Nat × AV)
 | []=> []
 |(k,v)::r=>(k,v.ren π)::sW π r
theorem ym {π:Nat→Nat} {k:Nat} :∀ {t:List (Nat × AV)},get (sW π t) k=(get t k).ren π
 | []=>rfl
 |(i,v)::r=>by
  simp only [sW,get]
  split
  ·rfl
  ·exact ym
def Sd (s1:ASt):Exit→ASt→Prop
 | .normal,s=>Le s s1
 |_,_=>False
theorem sX {X:Ctx} (hX:X.Ok) {Q:Exit→ASt→Prop} {s:ASt} {body:Code} {r1 r2 r3 b1 b2 x a d e f u u0 u1 kk vv y1 y2 y3 y4 y5 y6 y7 y8 y9:Nat} {p1 p2 p3 p4 p5 p6 p7 p8 p9:String} {f1 f2 f3 f4 f5 f6 f7 f8 f9:Array Edge} {mt kt et:Nat}
 (OB:X.P.underlying mt=some (.map kt et)) {lc:Nat} (hs:get s.t x= .mref lc)
 (π:Nat→Nat) (mm m:List (Nat × AObj)) (tb:List (Nat × AV)) (lm:Nat) (ag:List (List Int × Int))
 (ho:Over π mm m m (.tup [])) (hmm:∀p∈mm,look s.m p.1=some p.2) (jl:∀p∈m,10000≤p.1)
 (htb:∀k,(get tb k).ren π=get s.t k∨get tb k= .fm) (sK:∀k,∀l∈(get tb k).ids,bC m l≠none)
 (hlm:look m lm=some (.mp 0 ag)) (hπ:π lm=lc)
 (hfree:∀q∈ [a,d,e,f,u,u0,u1,kk,vv],get tb q= .fm) (Lr:([a,e,f,u,u0,u1,kk,vv].contains d)=false) (EV:kk≠vv∧u0≠u∧u1≠kk∧u1≠u0)
 (hB:∀p∈ag,∀(X':Ctx) (v:Value),X'.Ok→X'.P=X.P→X'.C=X.C→cr X' body (Sd ⟨(d, .d (.sc v))::tb,m⟩) ⟨(vv, .d (.sc (.int .i64 p.2)))::(kk, .d (.sc (.int .i64 (p.1.getD 0 0))))::(d, .d (.sc v))::tb,m⟩)
 (hQ:Q .normal ⟨sW π tb,((⟨[],mm,killM π m m++killM π m m,renM π m,none,(AV.tup []).ren π⟩:LA).app s).m⟩):
 cr X (.seq (.region r1 #[⟨some a, .move (.tmp x),y1,p1,f1,none⟩,⟨some d, .range mt (.tmp a),y2,p2,f2,none⟩] false) (.block b1 (.loop (.seq (.region r2 #[⟨some e, .next (.tmp d) false,y3,p3,f3,none⟩,⟨some f, .extract (.tmp e) 0,y4,p4,f4,none⟩] false)
  (.seq (.cond (.tmp f) .skip (.exit b1)) (.block b2 (.seq (.region r3 #[⟨some u, .entry (.tmp d),y5,p5,f5,none⟩,⟨some u0, .extract (.tmp u) 0,y6,p6,f6,none⟩,⟨some u1, .extract (.tmp u) 1,y7,p7,f7,none⟩,⟨some kk, .assign (.tmp u0),y8,p8,f8,none⟩,⟨some vv, .assign (.tmp u1),y9,p9,f9,none⟩] false) body))))))) Q s:=by
 refine ⟨fun hk a0 w ⟨E,hE⟩=> ?_⟩
 simp only [qS,KZ,Bool.and_eq_true,decide_eq_true_eq,Bool.and_true,and_true] at hk
 obtain ⟨⟨ka,kd⟩,⟨ke,kf⟩,_,⟨ku,OC,OD,QA,Se⟩,kb⟩:=hk
 simp only [List.contains_cons,List.contains_nil,Bool.or_false,Bool.or_eq_false_iff,beq_eq_false_iff_ne] at Lr
 obtain ⟨da,de,df,du,Sf,Sg,UA,UB⟩:=Lr
 have hfr:∀q,q=a∨q=d∨q=e∨q=f∨q=u∨q=u0∨q=u1∨q=kk∨q=vv→get tb q= .fm:=fun q hq=>hfree q (by simpa using hq)
 have M9:=hE.slot x
 rw [hs] at M9
 obtain ⟨bm,Sh,M9⟩:=M9
 have sS:=ho.good hE.good hmm
 obtain ⟨_,_,_,Ad⟩:=ho.obj hE.good hmm lm _ hlm
 obtain ⟨zQ,es,hb1,hb2,hb3,hmp⟩:=Ad
 have:zQ=bm:=by
  have:E.ρ (π lm)=some zQ:=hb1
  rw [hπ,Sh] at this
  cases this;rfl
 subst this
 obtain ⟨IT,Na⟩:∃IT,IT=w.heap.size:=⟨_,rfl⟩
 obtain ⟨Xb,EW⟩:∃Xb:List (Nat × Obj)→Ctx,Xb=fun b=>⟨X.P,X.C,X.n,m,E.pre π,w,b,X.lo⟩:=⟨_,rfl⟩
 have OE:∀b,(Xb b).Ok:=fun b=>by
  rw [EW]
  exact ⟨hX.C,fun l hl=>by
   obtain ⟨o,ho'⟩:=Option.ne_none_iff_exists'.1 hl
   exact jl _ (aR (dK (fun p hp=>(ho.pl p hp).2) ho').1),Nat.le_trans hX.lo hE.gF.size⟩
 have Kn:∀b,(Xb b).P=X.P∧(Xb b).C=X.C∧(Xb b).n=X.n:=fun b=>by rw [EW];exact ⟨rfl,rfl,rfl⟩
 have hs0:∀k,bS w (E.pre π) (get tb k) (a0.tmps.getD k undef):=fun k=>by
  rcases htb k with h|h
  ·rw [lV,h];exact hE.slot k
  ·rw [h];trivial
 have hstart:aK (Xb X.bk) (E.pre π) ⟨tb,m⟩ a0 w:=by
  rw [EW]
  exact ⟨hE.defers,hE.size,sS,IQ.refl _ _ _,fun l o b hl hro hb=> .inr ⟨l,o,hl,hro,hb⟩,hs0⟩
 have Ls:∀y∈es.toList,y.born<es.size:=fun y hy=>by obtain ⟨_,_,_,_,h⟩:=hmp.mem hy;exact h
 have bV:(es.toList.map (·.born)).Nodup:=by rw [hmp.born];exact List.nodup_range
 obtain ⟨it,hit⟩:∃it:Array Nat→Obj,it=fun seen=> .mapIter (some zQ) es.size seen es.size:=⟨_,rfl⟩
 have Ho:∀seen,cm (it seen)=true:=fun seen=>by rw [hit];rfl
 have OF:∀seen x,it seen≠ .deferred x:=fun seen x=>by rw [hit];intro h;cases h
 obtain ⟨ptr,EX⟩:∃ptr:Value,ptr= .pointer (some ⟨IT,0,none⟩):=⟨_,rfl⟩
 have Lt:ptr.oneCell'=true:=by rw [EX];rfl
 have OG:∀q∈X.bk,q.1<IT:=fun q hq=>by rw [Na];exact (Array.getElem?_eq_some_iff.1 (hE.defers.bk q hq).2).1
 obtain ⟨Inv,Jo⟩:∃Inv:Array Nat→Act→World→Prop,Inv=fun seen a' W=>∃E',aK (Xb ((IT,it seen)::X.bk)) E' ⟨(d, .d (.sc ptr))::tb,m⟩ a' W:=⟨_,rfl⟩
 have Al:∀ {seen E' s' a' W},aK (Xb ((IT,it seen)::X.bk)) E' s' a' W→W.heap[IT]? =some (it seen)∧∀q∈X.bk,cm q.2=true∧W.heap[q.1]? =some q.2:=fun {seen E' s' a' W} h=>by
  have hb:=h.defers.bk
  rw [EW] at hb
  exact ⟨(hb (IT,it seen) (by simp)).2,fun q hq=>hb q (by simp [hq])⟩
 have hmap:∀ {seen E' t' a' W},aK (Xb ((IT,it seen)::X.bk)) E' ⟨t',m⟩ a' W→W.heap[zQ]? =some (.map es es.size):=fun {seen E' t' a' W} h=>by
  have fN:bC m lm=some (.mp 0 ag):=by rw [bZ (by have:=(ho.pl _ (aR hlm)).1;omega)];exact hlm
  obtain ⟨b2,UC,g1,g2,_,g4⟩:=h.good.fh lm _ fN
  have hp:=h.gF.GM
  rw [EW] at hp
  have h1:=(hp lm (by rw [fN];simp)).1
  rw [h1,hb1] at g1
  cases g1
  rw [hmp.uniq g4] at g2
  exact g2
 have hw0:∀b,(Xb b).w0.heap.size≤IT:=fun b=>by rw [EW,Na];exact Nat.le_refl _
 have Iy:∀ {W:World} {seen},W.heap[IT]? =some (it seen)→W.iterSeen IT=seen:=fun {W seen} h=>by
  unfold World.iterSeen;rw [h,hit]
 refine wp_seq (wp_region_list ?_)
 refine fz rfl (v:= .map (some zQ)) (w':=w) (Ak (.inl rfl) M9) ?_
 have OH:(a0.put (some a) (.map (some zQ))).eval (.tmp a)= .map (some zQ):=by
  show (a0.put (some a) (.map (some zQ))).tmps.getD a undef=_
  rw [bG (by rw [hE.size];exact ka),if_pos rfl]
 refine fz rfl (v:=ptr) (w':=w.alloc (it #[])) (by
  have Lu:=run_range_map (P:=X.P) w mt kt et zQ es es.size OB hb2
  simp only [execOp,OH,Sem.run_bind,Lu,EX,Na,hit]
  rfl) ?_
 have Si:Inv #[] ((a0.put (some a) (.map (some zQ))).put (some d) ptr) (w.alloc (it #[])):=by
  rw [Jo]
  have h1:aK (Xb X.bk) (E.pre π) ⟨tb,m⟩ a0 (w.alloc (it #[])):=by
   have hm:Marks (Xb X.bk).lo (Xb X.bk).bk a0.defers (w.alloc (it #[])):=by
    rw [EW]
    refine ⟨fun q hq=> ?_,hE.defers.nd,fun q hq=>⟨(hE.defers.bk q hq).1, ?_⟩⟩
    ·obtain ⟨D,k1,k2,k3⟩:=hE.defers.all q hq
     exact ⟨D,k1,k2,(Below.heap_alloc _ _ _ (Array.getElem?_eq_some_iff.1 k3).1).trans k3⟩
    ·exact (Below.heap_alloc _ _ _ (Array.getElem?_eq_some_iff.1 (hE.defers.bk q hq).2).1).trans (hE.defers.bk q hq).2
   exact hstart.bk (Bk.new _ _ _) hm
  have h2:=h1.Jm (b':=(IT,it #[])::X.bk) (fun q hq=>by
   rcases List.mem_cons.1 hq with rfl|hq
   ·exact ⟨Ho _,by rw [Na];exact World.alloc_heap_new _ _⟩
   ·have:=h1.defers.bk;rw [EW] at this;exact this q hq)
  have h3:aK (Xb ((IT,it #[])::X.bk)) (E.pre π) ⟨tb,m⟩ a0 (w.alloc (it #[])):=by rw [EW] at h2 ⊢;exact h2
  refine ⟨_,h3.act (by rw [put_defers,put_defers]) (by rw [bq,bq]) fun q=> ?_⟩
  rw [bG (by rw [bq,hE.size];exact kd),bG (by rw [hE.size];exact ka)]
  simp only [get]
  by_cases e1:d=q
  ·rw [if_pos e1,if_pos e1];exact .sc _ Lt
  ·rw [if_neg e1,if_neg e1]
   by_cases e2:a=q
   ·rw [hfr q (.inl e2.symm)];trivial
   ·rw [if_neg e2];exact h3.slot q
 refine wp_block (wp_loop (fun a' W=>∃seen,Inv seen a' W) (fun _ W=>(leftOf es (W.iterSeen IT)).size) ⟨_,Si⟩ ?_)
 rintro a' W ⟨seen,hJ⟩
 rw [Jo] at hJ
 obtain ⟨E',Jp⟩:=hJ
 obtain ⟨Nb,QB⟩:=Al Jp
 have Sj:=hmap Jp
 have hn':a'.tmps.size=X.n:=by have:=Jp.size;rw [(Kn _).2.2] at this;exact this
 have QC:a'.tmps.getD d undef=ptr:=by
  have:=Jp.slot d
  simp only [get,if_pos] at this
  exact cC this
 have dS:=Hl (P:=X.P) W y3 IT zQ es.size es.size seen es es.size (by rw [Nb,hit]) Sj Ls (Nat.le_refl _)
 refine wp_seq (wp_region_list ?_)
 have Ec:∀ {W':World} {QD:Env} {s' QE},aK (Xb ((IT,it s')::X.bk)) QD ⟨(d, .d (.sc ptr))::tb,m⟩ QE W'→∀q,bS W' QD (get ((d, .d (.sc ptr))::tb) q) (QE.tmps.getD q undef):=fun h q=>h.slot q
 rcases dS with ⟨h0,hrun⟩|⟨y,hy,nd,hrun⟩
 ·refine fz rfl (v:= .tuple #[.bool false]) (w':=W) (by
   simp only [execOp,Act.eval,QC,EX,Sem.run_bind,hrun];rfl) ?_
  have OI:(a'.put (some e) (.tuple #[.bool false])).tmps.getD e undef= .tuple #[.bool false]:=by rw [bG (by rw [hn'];exact ke),if_pos rfl]
  refine fz rfl (v:= .bool false) (w':=W) (qW rfl OI rfl) ?_
  have OJ:((a'.put (some e) (.tuple #[.bool false])).put (some f) (.bool false)).eval (.tmp f)= .bool false:=by
   show Array.getD _ f undef=_
   rw [bG (by rw [bq,hn'];exact kf),if_pos rfl]
  refine wp_seq (wp_cond_false OJ (wp_exit ?_))
  simp only [Exit.then,Exit.inBlock, ↓reduceIte]
  have wQ:aK (Xb ((IT,it seen)::X.bk)) E' ⟨tb,m⟩ ((a'.put (some e) (.tuple #[.bool false])).put (some f) (.bool false)) W:=Jp.act (by rw [put_defers,put_defers]) (by rw [bq,bq]) fun q=>by
   rw [bG (by rw [bq,hn'];exact kf),bG (by rw [hn'];exact ke)]
   by_cases e1:f=q
   ·rw [hfr q (.inr (.inr (.inr (.inl e1.symm))))];trivial
   ·rw [if_neg e1]
    by_cases e2:e=q
    ·rw [hfr q (.inr (.inr (.inl e2.symm)))];trivial
    ·rw [if_neg e2]
     by_cases e3:d=q
     ·rw [hfr q (.inr (.inl e3.symm))];trivial
     ·have:=Jp.slot q
      simp only [get,if_neg e3] at this
      exact this
  generalize ((a'.put (some e) (.tuple #[.bool false])).put (some f) (.bool false))=a3 at wQ
  have hst:=wQ.gF
  have Ja:=wQ.mine
  have hde:=wQ.defers
  have hsz:=wQ.size
  rw [EW] at hst Ja hde hsz
  obtain ⟨E2,x5,hz,hrel⟩:=Post.core hX ho (rs:= []) (dst:=none) (fun q hq=>by cases hq) hE hmm hst wQ.good Ja (v:= .tuple #[]) (show bS W E' (.tup []) (.tuple #[]) from ⟨[],rfl,rfl⟩)
  refine ⟨_,hQ,E2,⟨hde.all,hde.nd,fun q hq=>hde.bk q (by simp [hq])⟩,hsz,x5.good,x5.gF,x5.mine,fun q=> ?_⟩
  show bS W E2 (get (sW π tb) q) _
  rw [ym]
  refine lV.1 (bS.mono (live:=fun l=>look m l≠none) (E:=E') (E':=E2.pre π) ⟨by show aH W E'.z W E2.z;rw [hz];exact aH.refl _ _,fun l hl=>(hrel l hl).1,fun l hl=>(hrel l hl).2⟩ (fun l hl=> ?_) (wQ.slot q))
  obtain ⟨o,ho'⟩:=Option.ne_none_iff_exists'.1 (sK q l hl)
  rw [(dK (fun p hp=>(ho.pl p hp).2) ho').1];simp
 ·obtain ⟨hyes,hys⟩:=mem_left hy
  obtain ⟨p,Sk,hkey,hval,_⟩:=hmp.mem hyes
  rw [hkey,hval] at hrun
  refine fz rfl (v:= .tuple #[.bool true, .int .i64 (p.1.getD 0 0), .int .i64 p.2]) (w':=({W with drawn:=nd} :World).putObj IT (it (seen.push y.born))) (by
   simp only [execOp,Act.eval,QC,EX,Sem.run_bind,hrun,hit];rfl) ?_
  obtain ⟨W2,QF⟩:∃W2,({W with drawn:=nd} :World).putObj IT (it (seen.push y.born))=W2:=⟨_,rfl⟩
  rw [QF]
  have Lv:IT<W.heap.size:=(Array.getElem?_eq_some_iff.1 Nb).1
  have x5:aK (Xb ((IT,it (seen.push y.born))::X.bk)) E' ⟨(d, .d (.sc ptr))::tb,m⟩ a' W2:=by
   have h1:=(Jp.drawn (n:=nd)).Jn (hw0 _) Nb (Ho _) (OF _) (q':=it (seen.push y.born)) (Ho _) (b':=(IT,it (seen.push y.born))::X.bk) (fun q hq=>by
    rcases List.mem_cons.1 hq with rfl|hq
    ·exact ⟨Ho _,World.putObj_heap_same Lv⟩
    ·exact ⟨(QB q hq).1,(World.putObj_heap_other (by have:=OG q hq;omega)).trans (QB q hq).2⟩)
   rw [QF] at h1
   rw [EW] at h1 ⊢
   exact h1
  obtain ⟨Sl,_⟩:=Al x5
  have Sm:=hmap x5
  have OI:(a'.put (some e) (.tuple #[.bool true, .int .i64 (p.1.getD 0 0), .int .i64 p.2])).tmps.getD e undef= .tuple #[.bool true, .int .i64 (p.1.getD 0 0), .int .i64 p.2]:=by rw [bG (by rw [hn'];exact ke),if_pos rfl]
  refine fz rfl (v:= .bool true) (w':=W2) (qW rfl OI rfl) ?_
  obtain ⟨a3,OK⟩:∃a3,(a'.put (some e) (.tuple #[.bool true, .int .i64 (p.1.getD 0 0), .int .i64 p.2])).put (some f) (.bool true)=a3:=⟨_,rfl⟩
  have OJ:a3.eval (.tmp f)= .bool true:=by
   rw [← OK]
   show Array.getD _ f undef=_
   rw [bG (by rw [bq,hn'];exact kf),if_pos rfl]
  have wQ:aK (Xb ((IT,it (seen.push y.born))::X.bk)) E' ⟨(d, .d (.sc ptr))::tb,m⟩ a3 W2:=by
   rw [← OK]
   refine x5.act (by rw [put_defers,put_defers]) (by rw [bq,bq]) fun q=> ?_
   rw [bG (by rw [bq,hn'];exact kf),bG (by rw [hn'];exact ke)]
   have Bx:=x5.slot q
   by_cases e3:d=q
   ·rw [if_neg (by rintro rfl;exact df e3),if_neg (by rintro rfl;exact de e3)];exact Bx
   ·simp only [get,if_neg e3] at Bx ⊢
    by_cases e1:f=q
    ·rw [hfr q (.inr (.inr (.inr (.inl e1.symm))))];trivial
    ·rw [if_neg e1]
     by_cases e2:e=q
     ·rw [hfr q (.inr (.inr (.inl e2.symm)))];trivial
     ·rw [if_neg e2];exact Bx
  rw [OK]
  have EY:a3.tmps.size=X.n:=by have:=wQ.size;rw [(Kn _).2.2] at this;exact this
  have OL:a3.tmps.getD d undef=ptr:=by
   have:=wQ.slot d
   simp only [get,if_pos] at this
   exact cC this
  refine wp_seq (wp_cond_true OJ (wp_skip (wp_block (wp_seq (wp_region_list ?_)))))
  have EZ:=EU (P:=X.P) W2 IT zQ es.size seen es es.size y (by rw [Sl,hit]) Sm hyes bV
  rw [hkey,hval] at EZ
  refine fz rfl (v:= .tuple #[.int .i64 (p.1.getD 0 0), .int .i64 p.2]) (w':=W2) (by
   simp only [execOp,Act.eval,OL,EX,Sem.run_bind,EZ];rfl) ?_
  obtain ⟨T,hT⟩:∃T:Value,T= .tuple #[.int .i64 (p.1.getD 0 0), .int .i64 p.2]:=⟨_,rfl⟩
  rw [← hT]
  have g1:(a3.put (some u) T).tmps.getD u undef= .tuple #[.int .i64 (p.1.getD 0 0), .int .i64 p.2]:=by rw [bG (by rw [EY];exact ku),if_pos rfl,hT]
  refine fz rfl (v:= .int .i64 (p.1.getD 0 0)) (w':=W2) (qW rfl g1 rfl) ?_
  have g2:((a3.put (some u) T).put (some u0) (.int .i64 (p.1.getD 0 0))).tmps.getD u undef= .tuple #[.int .i64 (p.1.getD 0 0), .int .i64 p.2]:=by
   rw [bG (by rw [bq,EY];exact OC),if_neg EV.2.1,g1]
  refine fz rfl (v:= .int .i64 p.2) (w':=W2) (qW rfl g2 rfl) ?_
  have g3:(((a3.put (some u) T).put (some u0) (.int .i64 (p.1.getD 0 0))).put (some u1) (.int .i64 p.2)).tmps.getD u0 undef= .int .i64 (p.1.getD 0 0):=by
   rw [bG (by rw [bq,bq,EY];exact OD),if_neg EV.2.2.2,bG (by rw [bq,EY];exact OC),if_pos rfl]
  refine fz rfl (v:= .int .i64 (p.1.getD 0 0)) (w':=W2) (Ak (.inr rfl) g3) ?_
  have g4:((((a3.put (some u) T).put (some u0) (.int .i64 (p.1.getD 0 0))).put (some u1) (.int .i64 p.2)).put (some kk) (.int .i64 (p.1.getD 0 0))).tmps.getD u1 undef= .int .i64 p.2:=by
   rw [bG (by rw [bq,bq,bq,EY];exact QA),if_neg (Ne.symm EV.2.2.1),bG (by rw [bq,bq,EY];exact OD),if_pos rfl]
  refine fz rfl (v:= .int .i64 p.2) (w':=W2) (Ak (.inr rfl) g4) ?_
  have QG:aK (Xb ((IT,it (seen.push y.born))::X.bk)) E' ⟨(vv, .d (.sc (.int .i64 p.2)))::(kk, .d (.sc (.int .i64 (p.1.getD 0 0))))::(d, .d (.sc ptr))::tb,m⟩ (((((a3.put (some u) T).put (some u0) (.int .i64 (p.1.getD 0 0))).put (some u1) (.int .i64 p.2)).put (some kk) (.int .i64 (p.1.getD 0 0))).put (some vv) (.int .i64 p.2)) W2:=by
   refine wQ.act (by simp only [put_defers]) (by simp only [bq]) fun q=> ?_
   rw [bG (by simp only [bq,EY];exact Se),bG (by simp only [bq,EY];exact QA),bG (by simp only [bq,EY];exact OD),bG (by simp only [bq,EY];exact OC),bG (by rw [EY];exact ku)]
   have Bx:=wQ.slot q
   simp only [get]
   by_cases c1:vv=q
   ·rw [if_pos c1,if_pos c1];exact .sc _ rfl
   rw [if_neg c1,if_neg c1]
   by_cases c2:kk=q
   ·rw [if_pos c2,if_pos c2];exact .sc _ rfl
   rw [if_neg c2,if_neg c2]
   by_cases c3:d=q
   ·rw [if_pos c3,if_neg (by rintro rfl;exact Sg c3),if_neg (by rintro rfl;exact Sf c3),if_neg (by rintro rfl;exact du c3)]
    simp only [get,if_pos c3] at Bx
    exact Bx
   rw [if_neg c3]
   simp only [get,if_neg c3] at Bx
   by_cases c4:u1=q
   ·rw [hfr q (by simp [← c4])];trivial
   by_cases c5:u0=q
   ·rw [hfr q (by simp [← c5])];trivial
   by_cases c6:u=q
   ·rw [hfr q (by simp [← c6])];trivial
   rw [if_neg c4,if_neg c5,if_neg c6]
   exact Bx
  generalize (((((a3.put (some u) T).put (some u0) (.int .i64 (p.1.getD 0 0))).put (some u1) (.int .i64 p.2)).put (some kk) (.int .i64 (p.1.getD 0 0))).put (some vv) (.int .i64 p.2))=a4 at QG ⊢
  have Cy:=(hB p Sk (Xb ((IT,it (seen.push y.born))::X.bk)) ptr (OE _) (Kn _).1 (Kn _).2.1).run (by rw [(Kn _).2.2];exact kb) a4 W2 ⟨_,QG⟩
  rw [(Kn _).1] at Cy
  refine wp_mono Cy ?_
  rintro ex a5 W3 ⟨s5,QH,Sn⟩
  cases ex with
  |normal=>
   obtain ⟨E5,QI⟩:=Rel.le QH Sn
   refine ⟨⟨seen.push y.born,by rw [Jo];exact ⟨E5,QI⟩⟩, ?_⟩
   show (leftOf es (W3.iterSeen IT)).size<(leftOf es (W.iterSeen IT)).size
   rw [Iy (Al QI).1,Iy Nb]
   exact left_shrinks es seen y hy
  |_=>exact QH.elim
end Go.Ab
end
section
namespace Go.Ab
theorem gO {X:Ctx} {o:Oper} {s:ASt} {K:LA→Prop} (hX:X.Ok) {C:Cfg} (hC:X.C=C) {P:Program} (hP:X.P=P) {c:Call} {fo:Operand} {f:Nat} {first caps Jq Jr:List AV} {ob:AObj} (d:Nat)
 (hs:Spec P f (Args Jr) [] (.ref 10000) [(10000,ob)]) (ho:o.op= .call c) (hc:c.callee= .value fo) (hf:aev C 0 s fo= .fn f first caps) (has:evA C s c.args.toList c.argTypes.toList=Jq)
 (qU:cvts (fun a x=>rdX C (fun _=>false) true (reach s 3 (AV.idss (first++Jq++caps))) 4 a=some x) (first++Jq++caps) Jr)
 (Ad:∃e sz rows,ob= .own e sz rows∧∀r∈rows,∀x∈r,∃v,x=D.sc v) (hd:o.dst=some d) (hdl:d<10000)
 (hK:K ⟨rsOf s (fo::c.args.toList),reach s 3 (AV.idss (first++Jq++caps)), [(d,none)], [(d,ob)],some d, .ref d⟩):ACall X o (.fn f first caps) Jq s K:=by
 subst hC;subst hP
 refine ⟨_,⟨hd.symm, ?_⟩,⟨aC s _,ko s _ _⟩,hK⟩
 rintro s' a w hdn fT ⟨E,hE⟩
 have hfo:=hE.evs fT.1 X.C 0 (x:=fo) (by simp)
 rw [hf] at hfo
 obtain ⟨us,vs,hfo,nL,uF⟩:=hfo
 have hargs:=lX (s:=s) hE c.args.toList c.argTypes.toList (fun p hp=>fT.1 p (by cases fo<;>simp [rsOf,hp]))
 rw [has] at hargs
 have sx:AVrs w E (first++Jq++caps) (us++c.args.toList.map a.eval++vs):=(nL.append hargs).append uF
 obtain ⟨fn,cd,hfn,hname,hbody⟩:=hs.can
 have hrun:(execOp a.eval o).run X.P w= .ok (.enter f (us++c.args.toList.map a.eval++vs).toArray) w:=by
  have h1:us.toArray++c.args.map a.eval++vs.toArray=(us++c.args.toList.map a.eval++vs).toArray:=by
   apply Array.toList_inj.1;simp
  have h2:=cQ (P:=X.P) hfn hname hbody (us.toArray++c.args.map a.eval++vs.toArray) w
  rw [h1] at h2
  simp only [execOp,ho,resolve,hc,hfo,Deferred.ofValue,Sem.run_bind,Sem.run_pure,Result.andThen_ok,invoke]
  rw [h1];exact h2
 have fN:∀l,bC [] l=none:=fun l=>by unfold bC;split<;>rfl
 have yf:aH w E.z w (fun b=>max (E.z b) (cl w b)):=fun b=>⟨Nat.le_max_left _ _,fun _ _=>rfl⟩
 have sS:Good [] ⟨E.ρ,E.σ,fun b=>max (E.z b) (cl w b)⟩ w:=by
  refine ⟨fun l h=>by simp [look] at h,fun l l' b h=>by simp [fN] at h,fun l o h=>by simp [fN] at h,fun b hb=> ?_⟩
  simp [hE.good.fresh b hb,cl,Array.getElem?_eq_none hb]
 have hA:AVrs w ⟨E.ρ,E.σ,fun b=>max (E.z b) (cl w b)⟩ Jr (us++c.args.toList.map a.eval++vs):=
  dX (E':=⟨E.ρ,E.σ,fun b=>max (E.z b) (cl w b)⟩) ⟨yf,fun _ _=>rfl,fun _ _=>rfl⟩ (fun a x v GD hr=>nS hE.good yf (fun l o b _ _ _ _=>Nat.le_max_right _ _) (sR (fun l o hl=>fT.2 _ (aR hl)) GD) hr) qU sx
 unfold Oper.wp
 rw [hrun]
 refine (hs.calls _ w _ sS hA).mono ?_
 rintro e w' ⟨v,E',rfl,hst,hg',jw,hres⟩
 have hheap:∀b,b<w.heap.size→w'.heap[b]? =w.heap[b]? :=fun b hb=>(hst.frame b hb (by rintro ⟨l,o,hl,_⟩;simp [fN] at hl)).1
 obtain ⟨e0,sz,rows,rfl,hfl⟩:=Ad
 have ES:bC [(10000,AObj.own e0 sz rows)] 10000=some (.own e0 sz rows):=by rw [bZ (by omega)];simp [look]
 have jZ:=hg'.fh 10000 _ ES
 have yj:∀b,E'.ρ 10000=some b→w.heap.size≤b:=fun b hb=>by
  rcases jw 10000 _ b ES rfl hb with h|⟨l,q,hl,_⟩
  ·exact h
  ·simp [fN] at hl
 obtain ⟨E2,hρ,hσ,Jk,Jl,hz1,CG⟩:∃E2:Env,(∀l,l≠d→E2.ρ l=E.ρ l)∧(∀l,l≠d→E2.σ l=E.σ l)∧E2.ρ d=E'.ρ 10000∧E2.σ d=E'.σ 10000∧(∀b,b<w.heap.size→E2.z b=E.z b)∧(∀b,w.heap.size≤b→E2.z b=E'.z b):=
  ⟨⟨fun l=>if l=d then E'.ρ 10000 else E.ρ l,fun l=>if l=d then E'.σ 10000 else E.σ l,fun b=>if b<w.heap.size then E.z b else E'.z b⟩,fun l h=>by simp [h],fun l h=>by simp [h],by simp,by simp,fun b h=>by simp [h],fun b h=>by simp [show ¬b<w.heap.size by omega]⟩
 have cw:∀l,kl [(d,(none:Option D))] l=if d=l then some none else none:=fun l=>by simp only [kl]
 have hlk:∀l,look [(d,AObj.own e0 sz rows)] l=if d=l then some (.own e0 sz rows) else none:=fun l=>by simp only [look]
 refine ⟨E2,hd ▸ hE.app' ⟨rsOf s (fo::c.args.toList),reach s 3 (AV.idss (first++Jq++caps)), [(d,none)], [(d, .own e0 sz rows)],some d, .ref d⟩ E2 w' v (fun b=> ?_) hst.os hst.tape hst.output hst.size (fun l hl=> ?_) (fun l x hl=> ?_) (fun l hl=> ?_) (fun l hl=> ?_) (fun l q hl=> ?_) (fun b hb=> .inl ⟨hheap b hb,hz1 b hb⟩) (fun l q hl=> ?_) (fun l l' b hl hl' _ _=> ?_) (fun l b hl hb=> ?_) (fun b hb=> ?_) ?_ (fun k hk=>hdn k (hd ▸ hk))⟩
 ·by_cases hb:b<w.heap.size
  ·exact ⟨by rw [hz1 b hb];exact Nat.le_refl _,fun o _=>cell?_of_heap (hheap b hb) o⟩
  ·have:=hE.good.fresh b (by omega)
   exact ⟨by omega,fun o ho=>by omega⟩
 ·have:l≠d:=fun e=>by subst e;simp [kl] at hl
  exact ⟨hρ l this,hσ l this⟩
 ·simp only [cw] at hl;split at hl<;>simp at hl
 ·have:l≠d:=fun e=>by
   subst e
   have:=hX.low l hl
   omega
  exact ⟨hρ l this,hσ l this⟩
 ·simp only [cw] at hl
  split at hl
  ·omega
  ·exact absurd rfl hl
 ·simp only [hlk] at hl
  split at hl
  ·cases hl;exact ⟨by omega,rfl⟩
  ·cases hl
 ·simp only [hlk] at hl
  split at hl
  ·rename_i he;subst he
   cases hl
   obtain ⟨g1,g2,g3⟩:=jZ
   refine ⟨g1,g2, ?_⟩
   rcases g3 with ⟨h1,h2,h3⟩|⟨b,cur,cap,h1,h2,h3,h4,h5,h6,h7,h8⟩
   ·exact .inl ⟨by rw [Jk];exact h1,h2,by rw [Jl];exact h3⟩
   ·refine .inr ⟨b,cur,cap,by rw [Jk];exact h1,h2,by rw [Jl];exact h3,h4,h5,h6,by rw [CG b (yj b h1)];exact h7,fun i j r x hi hj=> ?_⟩
    obtain ⟨v,hv,hx⟩:=h8 i j r x hi hj
    obtain ⟨u,rfl⟩:=hfl r (List.mem_of_getElem? hi) x (List.mem_of_getElem? hj)
    cases hx with
    |sc _ h=>exact ⟨_,hv, .sc _ h⟩
  ·cases hl
 ·simp only [hlk] at hl hl'
  split at hl
  ·rename_i he;split at hl'
   ·rename_i he';rw [← he, ← he']
   ·exact absurd rfl hl'
  ·exact absurd rfl hl
 ·simp only [hlk] at hl
  split at hl
  ·rename_i he;subst he
   rw [Jk] at hb;exact .inl (yj b hb)
  ·exact absurd rfl hl
 ·rw [CG b (Nat.le_trans hst.size hb)];exact hg'.fresh b hb
 ·exact ⟨by rw [Jl];exact hres.1,hres.2⟩
end Go.Ab
end
