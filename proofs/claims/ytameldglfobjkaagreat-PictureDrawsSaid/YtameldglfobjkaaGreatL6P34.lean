/- A part of the proof. -/
import Derived.WalkKit
import Derived.Deep.QuietTactic
import Derived.Tactics2
import Derived.LoopN
import Derived.LoopTactic
import Derived.Laws.IdiomRangeMap
import Derived.Test.YtameldglfobjkaaGreatL6P33
set_option linter.unusedSimpArgs false
set_option linter.unusedVariables false
set_option linter.unusedSectionVars false
section
set_option maxRecDepth 10000
set_option maxHeartbeats 4000000
namespace Go.Ab
open Go.Proofs Go.RowKit
def Uv:Value->Nat
 | .int _ k=>k.toNat
 |_=>0
def Uw:Value->Int
 | .int _ v=>v
 |_=>0
def ir(T:Nat->Int)(x:Int)(e:Nat)(k:Nat)(v:Int):Bool:=decide (v=x)&&decide (k≠e)&&decide (T k=T e)
def mJ{α:Type}(P:Program)(s:Sem α):Prop:=∀W v W',s.run P W= .ok v W'->W'.tape=W.tape
theorem mJ.bind{α β:Type}{P:Program}{s:Sem α}{k:α->Sem β}(h:mJ P s)(hk:∀a,mJ P (k a)):mJ P (s>>= k):=by
 intro W v W' e
 rw[Sem.run_bind]at e
 cases hs:s.run P W with
 |ok a W1=>
  rw[hs]at e
  exact(hk a W1 v W' e).trans (h W a W1 hs)
 |halt hh W1=>rw[hs]at e;cases e
theorem TB{α:Type}{P:Program}(a:α):mJ P (pure a:Sem α):=by
 intro W v W' e
 cases e;rfl
theorem TC{α:Type}{P:Program}(h:Halt):mJ P (.halt h:Sem α):=by
 intro W v W' e
 cases e
theorem Wg{P:Program}(r:Nat):mJ P (getObj r):=by
 intro W v W' e
 simp only[getObj,Sem.run]at e
 split at e
 ·cases e
 ·cases e;rfl
 ·cases e
theorem Wh{P:Program}(r:Nat)(o:Obj):mJ P (setObj r o):=by
 intro W v W' e
 simp only[setObj,Sem.run]at e
 split at e
 ·cases e
 ·cases e;rfl
 ·cases e
theorem ND{P:Program}(q:Question):mJ P (choose q):=by
 intro W v W' e
 simp only[choose,Sem.run]at e
 split at e
 ·cases e;rfl
 ·cases e;rfl
theorem NF{P:Program}(it:Value)(b:Bool)(ty:TypeId):mJ P (Instr.next it b ty):=by
 unfold Instr.next
 repeat' (first|exact TB _|exact TC _|exact Wg _|exact Wh _ _|exact ND _|(refine mJ.bind ?_ fun _=> ?_)|split)
theorem J2(B bm be ne ce:Nat)(es:Array MapEntry)(T:Nat->Int)(x:Int)(e:Nat)(w:World)(hB:B<w.heap.size)(j9:be<w.heap.size)
 (h1:w.cell? ⟨B,1,none⟩=some (.slice (some ⟨be,0,none⟩) ne ce)) (h4:w.cell? ⟨B,4,none⟩=some (.map (some bm)))
 (hb:w.heap[bm]? =some (.map es es.size)) (hT:∀i,i<ne->w.cell? ⟨be,i*2,none⟩=some (.int .i64 (T i))) (he:e<ne) (hne:ne<=1000)
 (hst:(∀y∈es.toList,y.born<es.size)/\(es.toList.map (·.born)).Nodup) (hE:∀y∈es.toList,∃(k:Nat) (v:Int),y.key= .int .i64 k/\y.val= .int .i64 v/\k<ne):
 Calls Tryz.prog 152 #[.pointer (some ⟨B,0,none⟩), .int .i64 x, .int .i64 e] w fun en w'=>en= .returned (.bool (es.toList.any fun y=>ir T x e (Uv y.key) (Uw y.val)))/\
  ∃(w1:World) (seen:Array Nat),(w1.Alike w/\w1.tape=w.tape)/\w'=w1.alloc (.mapIter (some bm) es.size seen es.size):=by
 have Vw:=run_range_map (P:=Tryz.prog) w 45 3 3 bm es es.size Tryz.underlying45 hb
 go_enter Tryz.func152,Tryz.ntmps152
 go_wp2
 go_loopw [] (fun w'=>∃(w1:World) (seen:Array Nat),(w1.Alike w/\w1.tape=w.tape)/\w'=w1.alloc (.mapIter (some bm) es.size seen es.size)/\∀y∈es.toList,seen.contains y.born=true->ir T x e (Uv y.key) (Uw y.val)=false) (fun w'=>(leftOf es (w'.iterSeen w.heap.size)).size)
 case atStart=>exact⟨w, #[],⟨⟨rfl,rfl,rfl⟩,rfl⟩,rfl,fun y _ h=>by simp at h⟩
 case round=>
  obtain⟨w1,seen,⟨y6,ZG⟩,rfl,hno⟩:=hrel
  have hsz:w1.heap.size=w.heap.size:=by rw[y6.1]
  have hb1:w1.heap[bm]? =some (.map es es.size):=by rw[y6.1];exact hb
  have law:=run_next_map (P:=Tryz.prog) w1 0 bm es.size es.size seen es es.size hb1 hst.1 (adg _)
  rw[hsz]at law
  rcases law with ⟨h0,hrun⟩|⟨y,hy,w2,Rp,hrun⟩
  ·have dw:∀ty,(Instr.next (.pointer (some ⟨w.heap.size,0,none⟩)) false ty).run Tryz.prog (w1.alloc (.mapIter (some bm) es.size seen es.size))=_:=fun _=>hrun
   go_wp2
   go_ret
   have hf:(es.toList.any fun y=>ir T x e (Uv y.key) (Uw y.val))=false:=by
    rw[adU]
    intro y hy
    rw[hno y hy (all_seen es seen h0 y hy)];decide
   rw[hf]
   exact⟨rfl,w1,seen,⟨y6,ZG⟩,rfl⟩
  ·obtain⟨k,v,hkey,hval,hk⟩:=hE y (mem_left hy).1
   rw[hkey,hval]at hrun
   have dw:∀ty,(Instr.next (.pointer (some ⟨w.heap.size,0,none⟩)) false ty).run Tryz.prog (w1.alloc (.mapIter (some bm) es.size seen es.size))=_:=fun _=>hrun
   have Wi:w2.heap.size=w.heap.size:=by rw[Rp.1,y6.1]
   have hb2:w2.heap[bm]? =some (.map es es.size):=by rw[Rp.1];exact hb1
   have XW:=run_entry_map (P:=Tryz.prog) w2 bm es.size seen es es.size y hb2 (mem_left hy).1 hst.2
   rw[Wi,hkey,hval]at XW
   have TD:w2.tape=w.tape:=(NF _ _ _ _ _ _ hrun).trans ZG
   have Rq:w2.Alike w:=⟨Rp.1.trans y6.1,Rp.2.1.trans y6.2.1,Rp.2.2.trans y6.2.2⟩
   have hc:∀(o:Obj) (a:Addr),a.block<w.heap.size->(w2.alloc o).cell? a=w.cell? a:=fun o a ha=>by
    have:(w2.alloc o).heap[a.block]? =w.heap[a.block]? :=by rw[tC _ _ (by rw[Wi];exact ha),Rq.1]
    simp only[World.cell?,this]
   have g1:∀s,(w2.alloc (.mapIter (some bm) es.size s es.size)).cell? ⟨B,1,none⟩=some (.slice (some ⟨be,0,none⟩) ne ce):=fun s=>(hc _ _ hB).trans h1
   have g2:∀s,(w2.alloc (.mapIter (some bm) es.size s es.size)).cell? ⟨be,k*2,none⟩=some (.int .i64 (T k)):=fun s=>(hc _ _ j9).trans (hT k hk)
   have g3:∀s,(w2.alloc (.mapIter (some bm) es.size s es.size)).cell? ⟨be,e*2,none⟩=some (.int .i64 (T e)):=fun s=>(hc _ _ j9).trans (hT e he)
   have hyv:ir T x e (Uv y.key) (Uw y.val)=ir T x e k v:=by rw[hkey,hval];simp[Uv,Uw]
   have J3:ir T x e k v=false->∀z∈es.toList,(seen.push y.born).contains z.born=true->ir T x e (Uv z.key) (Uw z.val)=false:=fun hm z hz hcz=>by
    rw[contains_push]at hcz
    rcases adK _ _ ▸ hcz with h1|h1
    ·exact hno z hz h1
    ·have:z=y:=born_inj hst.2 hz (mem_left hy).1 (beq_iff_eq.1 h1)
     subst this
     rw[hyv];exact hm
   have hyes:ir T x e k v=true->(es.toList.any fun y=>ir T x e (Uv y.key) (Uw y.val))=true:=fun hm=>adQ.2 ⟨y,(mem_left hy).1,by rw[hyv];exact hm⟩
   have hi2:∀n,((w2.alloc (.mapIter (some bm) es.size (seen.push y.born) es.size)).drewN n).iterSeen w.heap.size=seen.push y.born:=fun n=>by
    show(w2.alloc _).iterSeen _=_
    rw[<- Wi,World.iterSeen_alloc]
   have hi1:(w1.alloc (.mapIter (some bm) es.size seen es.size)).iterSeen w.heap.size=seen:=by rw[<- hsz,World.iterSeen_alloc]
   clear hE hT hno hc h1 h4 hst
   by_cases c1:v=x
   ·by_cases c2:k=e
    ·have hm:ir T x e k v=false:=by simp[ir,c1,c2]
     subst c1 c2
     go_wp2
     go_quiet (fail)
     go_wp2
     go_roundw
     case rel=>exact⟨w2.drewN nq,seen.push y.born,⟨Rq,TD⟩,rfl,J3 hm⟩
     case measure=>
      rw[hi2,hi1]
      exact left_shrinks es seen y hy
    ·have c2':¬((k:Int)=(e:Int)):=by omega
     by_cases c3:T k=T e
     ·have hm:ir T x e k v=true:=by simp[ir,c1,c2,c3]
      go_wp2
      go_quiet (fail)
      go_wp2
      go_ret
      rw[hyes hm]
      exact⟨rfl,w2.drewN nq,_,⟨Rq,TD⟩,rfl⟩
     ·have hm:ir T x e k v=false:=by simp[ir,c3]
      have b3:(T k==T e)=false:=by simpa using c3
      go_wp2
      go_quiet (fail)
      go_wp2
      go_roundw
      case rel=>exact⟨w2.drewN nq,seen.push y.born,⟨Rq,TD⟩,rfl,J3 hm⟩
      case measure=>
       rw[hi2,hi1]
       exact left_shrinks es seen y hy
   ·have hm:ir T x e k v=false:=by simp[ir,c1]
    have b1:(v==x)=false:=by simpa using c1
    clear c1
    go_wp2
    go_quiet (fail)
    go_wp2
    go_roundw
    case rel=>exact⟨w2.drewN nq,seen.push y.born,⟨Rq,TD⟩,rfl,J3 hm⟩
    case measure=>
     rw[hi2,hi1]
     exact left_shrinks es seen y hy
end Go.Ab
end
section
set_option maxHeartbeats 4000000
set_option maxRecDepth 10000
namespace Go.Ab
attribute [local congr] ACall.congr gd.congr Ny.congr vcOps.congr
open Go.Proofs Go.RowKit
theorem Spec.of_same{P:Program}{f:Nat}{A:Env->World->List Value->Prop}{m:List (Nat × AObj)}{res:AV}(hc:zN P f)
 (h:∀E w vals,Good m E w->A E w vals->Calls P f vals.toArray w fun e w'=>∃v,e= .returned v/\w'.os=w.os/\w'.tape=w.tape/\w'.output=w.output/\w.heap.size<=w'.heap.size/\(∀b,b<w.heap.size->w'.heap[b]? =w.heap[b]?)/\cG w' E res v):Spec P f A m res m:=by
 refine⟨hc,fun E w vals hg hA=>(h E w vals hg hA).mono ?_⟩
 rintro e w' ⟨v,rfl,h1,h2,h3,h4,h5,h6⟩
 have hst:aK w E.z w' E.z:=fun b=>⟨adg _,fun o ho=>by
  by_cases hb:b<w.heap.size
  ·simp only[World.cell?,h5 b hb]
  ·have:=hg.fresh b (by omega);omega⟩
 refine⟨v,E,rfl,⟨h1,h2,h3,h4,hst,fun b hb _=>⟨h5 b hb,rfl⟩,fun _ _=>⟨rfl,rfl⟩⟩,⟨hg.low,hg.inj,fun l o hl=> ?_,fun b hb=>hg.fresh b (by omega)⟩,fun l o b hl hro hb=> .inr ⟨l,o,hl,hro,hb⟩,h6⟩
 have h0:=hg.gw l o hl
 have:=bF.keep (k:= []) (E':=E) hst (fun _ _=>⟨rfl,rfl⟩) (fun l x hx=>by cases hx) rfl (fun _ _=>rfl) (fun b hb=>⟨h5 b (h0.lt hb),rfl⟩) h0
 rwa [AObj.mR]at this
theorem Fs{ak:List (List Int × Int)}{es:Array MapEntry}(h:lP 0 ak es){y:MapEntry} :y∈es.toList↔∃i p,ak[i]? =some p/\y=⟨kV 0 p.1, .int .i64 p.2,i⟩:=by
 constructor
 ·intro hy
  obtain⟨i,hi,e⟩:=adr.1 hy
  have hi':i<es.size:=by simpa using hi
  have hp:=acF (l:=ak) (i:=i) (by rw[<- h.size];exact hi')
  refine⟨i,_,hp, ?_⟩
  have:=h.N9 i _ hp
  rw[adX hi']at this
  rw[<- e]
  simpa using aeU this
 ·rintro⟨i,p,hp,rfl⟩
  have:=h.N9 i p hp
  obtain⟨hi,e⟩:=adq.1 this
  rw[<- e]
  simp
theorem Rr{ak:List (List Int × Int)}{es:Array MapEntry}(h:lP 0 ak es):es.toList.map (·.born)=List.range es.size:=by
 refine adY fun i=> ?_
 rw[adm,ael]
 by_cases hi:i<es.size
 ·have hp:=acF (l:=ak) (i:=i) (by rw[<- h.size];exact hi)
  rw[h.N9 i _ hp,adp hi]
  rfl
 ·rw[aeg (by omega),ado (by simpa using hi)]
  rfl
def tJ(n:Int)(es:List Edge)(ord:List Int)(outs:List (List Int))(ak:List (List Int × Int)):List (Nat × AObj):=
 [(10000, .box [eN n, .ref 10001, .ref 10002, .ref 10003, .mref 10004]),(10001, .own 56 2 (es.map rE)),(10002, .own 3 1 (ord.map rI)),(10003, .own 25 1 (vI outs)),(10004, .mp 0 ak)]
def Cm(es:List Edge)(ak:List (List Int × Int))(x:Int)(e:Nat):Bool:=ak.any fun p=>ir (fun i=>(es.getD i (0,0)).1) x e (p.1.getD 0 0).toNat p.2
theorem NG(n:Int)(es:List Edge)(ord:List Int)(outs:List (List Int))(ak:List (List Int × Int))(x:Int)(e:Nat)(he:e<es.length)(hne:es.length<=1000)(hE:∀p∈ak,0<=p.1.getD 0 0/\p.1.getD 0 0<es.length):
 Spec Tryz.prog 152 (Args [.ptr 10000 0,eN x,eN e]) (tJ n es ord outs ak) (eB (Cm es ak x e)) (tJ n es ord outs ak):=by
 refine Spec.of_same ⟨Tryz.f152,_,Tryz.func152,by kernel_rfl,rfl⟩ fun E w vals hg hA=> ?_
 obtain⟨v,vs,rfl,h0,h3⟩:=hA
 obtain⟨v2,vs2,rfl,h1,h4⟩:=h3
 obtain⟨v3,vs3,rfl,h2,h5⟩:=h4
 simp only[AVrs]at h5
 subst h5
 have h1:=mq h1
 have h2:=mq h2
 subst h1 h2
 obtain⟨B,hB,rfl⟩:=h0
 obtain⟨B',cs,ty,g1,g2,g3,g4,g5⟩:=hg.gw 10000 (.box [eN n, .ref 10001, .ref 10002, .ref 10003, .mref 10004]) rfl
 obtain rfl:B'=B:=by rw[g1]at hB;exact aeU hB
 obtain⟨_,_,o1⟩:=hg.gw 10001 (.own 56 2 (es.map rE)) rfl
 obtain⟨bm,me,m1,m2,m3,m4⟩:=hg.gw 10004 (.mp 0 ak) rfl
 obtain⟨u0,r0,rfl,_,g4⟩:=g4
 obtain⟨u1,r1,rfl,c1,g4⟩:=g4
 obtain⟨u2,r2,rfl,_,g4⟩:=g4
 obtain⟨u3,r3,rfl,_,g4⟩:=g4
 obtain⟨u4,r4,rfl,c4,g4⟩:=g4
 obtain⟨rfl,_⟩:=c1
 obtain⟨bm',c5,rfl⟩:=c4
 obtain rfl:bm'=bm:=by rw[m1]at c5;exact(aeU c5).symm
 obtain⟨be,cur,ce,p1,p2,p3,p4,p5,p6,p7,p8⟩:∃b cur cap,E.ρ 10001=some b/\w.heap[b]? =some (.cells cur 56 (0,0))/\E.σ 10001= .slice (some ⟨b,0,none⟩) (es.map rE).length cap/\(es.map rE).length<=cap/\cap*2=cur.size/\cap<=maxLen/\
  E.z b=0/\∀(i j:Nat) (r:List D) (y:D),(es.map rE)[i]? =some r->r[j]? =some y->∃v,cur[i*2+j]? =some v/\Rd w E.z v y:=by
  rcases o1 with ⟨_,h,_⟩|h
  ·rw[aeF]at h
   subst h
   simp at he
  ·exact h
 rw[adn]at p3 p4
 have RW:B'<w.heap.size:=(adq.1 g2).1
 have Ct:be<w.heap.size:=(adq.1 p2).1
 have key:=J2 B' bm' be es.length ce me (fun i=>(es.getD i (0,0)).1) x e w RW Ct ?_ ?_ m2 (fun i hi=> ?_) he hne ⟨fun y hy=> ?_, ?_⟩ (fun y hy=> ?_)
 ·refine key.mono ?_
  rintro en w' ⟨rfl,w1,seen,⟨y6,ZG⟩,rfl⟩
  refine⟨_,rfl,y6.2.1,ZG,y6.2.2, ?_,fun b hb=> ?_, ?_⟩
  ·have:=vh w1 (.mapIter (some bm') me.size seen me.size)
   rw[y6.1]at this
   exact this
  ·rw[tC _ _ (by rw[y6.1];exact hb),y6.1]
  ·have:(me.toList.any fun y=>ir (fun i=>(es.getD i (0,0)).1) x e (Uv y.key) (Uw y.val))=Cm es ak x e:=by
    rw[ad0,Cm,adQ,adQ]
    constructor
    ·rintro⟨y,hy,hm⟩
     obtain⟨i,p,hp,rfl⟩:=(Fs m4).1 hy
     exact⟨p,adM hp,hm⟩
    ·rintro⟨p,hp,hm⟩
     obtain⟨i,hi⟩:=aei.1 hp
     exact⟨_,(Fs m4).2 ⟨i,p,hi,rfl⟩,hm⟩
   rw[this]
   exact .sc _ rfl
 ·simp[World.cell?,g2,p3]
 ·simp[World.cell?,g2]
 ·obtain⟨v,q1,q2⟩:=p8 i 0 (rE es[i]) (.sc (.int .i64 es[i].1)) (by simp[acF hi]) rfl
  rw[mq q2]at q1
  simp only[World.cell?,p2,Option.isSome_none,aec,if_false]
  rw[aas,acF hi]
  exact q1
 ·obtain⟨i,p,hp,rfl⟩:=(Fs m4).1 hy
  have:=(adh.1 hp).1
  have:=m4.size
  show i<me.size
  omega
 ·rw[Rr m4];exact afV
 ·obtain⟨i,p,hp,rfl⟩:=(Fs m4).1 hy
  obtain⟨h1,h2⟩:=hE p (adM hp)
  refine⟨(p.1.getD 0 0).toNat,p.2, ?_,rfl,by omega⟩
  show Value.int .i64 (p.1.getD 0 0)=_
  rw[afj h1]
end Go.Ab
end
section
set_option maxHeartbeats 8000000
set_option maxRecDepth 20000
namespace Go.Ab
attribute [local congr] ACall.congr gd.congr Ny.congr vcOps.congr
open Go.Proofs
def TE(n:Int)(es:List Edge)(ord:List Int)(outs:List (List Int))(ak:List (List Int × Int)):List (Nat × AObj):=
 [(10000, .box [eN n, .ref 10011, .ref 10012, .ref 10013, .mref 10004]),(10011, .own 56 2 (es.map rE)),(10012, .own 3 1 (ord.map rI)),(10013, .own 25 1 (vI outs)),(10004, .mp 0 ak)]
theorem Rt{ak:List (List Int × Int)}{k:List Int}{v:Int}(h:∀p∈ak,k≠p.1):zo ak k v=ak++ [(k,v)]:=by
 have hf:cA ak k=none:=by
  rw[cA,aeN]
  intro p hp
  exact ac5 (h p hp)
 unfold zo eH jF
 rw[hf]
 simp only[mL]
 refine adY fun i=> ?_
 rw[aff]
 rcases aew i ak.length with h1|h1|h1
 ·rw[adx h1,adx h1]
  simp[show ¬ak.length=i by omega]
 ·subst h1;simp
 ·rw[ado (by simp;omega),ado (by simp;omega)];rfl
theorem Wj{a b:List (List Int)} :vI (a++b)=vI a++vI b:=by simp[vI]
theorem TF{A B:List Int}{t:Int}(h:t∉A):jg (A++t::B) t=A.length:=by
 refine b9 (d:=0) (by simp) (fun j hj=>ac5 fun e=>h ?_) (ac6 ?_)
 ·rw[e,aas,adx hj,acF hj];exact ad2 _
 ·rw[aas,adw (by omega)];simp
theorem Wk{A O B:List Int}{t:Int}{j:Nat}(hj:j<O.length):(A++t::(O++B)).getD (A.length+1+j) 0=O.getD j 0:=by
 rw[aas,adw (by omega),show A.length+1+j - A.length=j+1 by omega,List.getElem?_cons_succ,adx hj, <- List.getD_eq_getElem?_getD]
theorem TG{A O B:List Int}{t u:Int} :(A++t::(O++u::B)).getD (A.length+1+O.length) 0=u:=by
 rw[aas,adw (by omega),show A.length+1+O.length - A.length=O.length+1 by omega,List.getElem?_cons_succ,adw (by omega)]
 simp
theorem TH{A O B:List Int}{t x:Int} :zI (A++t::(O++B)) (A.length+1+O.length) x=A++t::(O++x::B):=by
 unfold zI
 rw[show A++t::(O++B)=(A++t::O)++B by simp,List.take_left' (by simp;omega),List.drop_left' (by simp;omega)]
 simp
theorem Ft{es:List Edge}{a b:Int} :List.map rE es++ [[D.sc (.int .i64 a),D.sc (.int .i64 b)]]=List.map rE (es++ [(a,b)]):=by simp[rE]
theorem Fu{es:List Edge}{e:Nat}{a b:Int}(h:es.getD e (0,0)=(a,b)):(List.map rE es).getD e [D.sc (.int .i64 0),D.sc (.int .i64 0)]= [D.sc (.int .i64 a),D.sc (.int .i64 b)]:=by
 rw[show [D.sc (.int .i64 0),D.sc (.int .i64 0)]=rE (0,0) from rfl,aas,adm]
 rw[aas]at h
 cases hq:es[e]? with
 |none=>rw[hq]at h;cases h;rfl
 |some q=>rw[hq]at h;cases h;rfl
theorem J4{es:List Edge}{e:Nat}{a b:Int} :(List.map rE es).set e [D.sc (.int .i64 a),D.sc (.int .i64 b)]=List.map rE (es.set e (a,b)):=by
 rw[aeR];rfl
theorem NH(n:Int)(es:List Edge)(outs:List (List Int))(ak:List (List Int × Int))(e:Nat)(A O B:List Int)(t:Int)(hn:0<=n/\n<1000)(he:e<es.length)(hne:es.length<1000)(Ax:outs.length<1000)(hAl:(A++t::(O++B)).length<1000)
 (hE:∀p∈ak,0<=p.1.getD 0 0/\p.1.getD 0 0<es.length) (hnew:∀p∈ak, [(e:Int)]≠p.1) (ht:(es.getD e (0,0)).1=t) (WM:t∉A)
 (hO:∀u∈O,Cm ((es++ [(n,(es.getD e (0,0)).2)]).set e (t,n)) (ak++ [([(e:Int)],n)]) u e=true) (hB:∀u r,B=u::r->Cm ((es++ [(n,(es.getD e (0,0)).2)]).set e (t,n)) (ak++ [([(e:Int)],n)]) u e=false):
 Spec Tryz.prog 103 (Args [.ptr 10000 0,eN e]) (tJ n es (A++t::(O++B)) outs ak) (.tup []) (TE (n+1) ((es++ [(n,(es.getD e (0,0)).2)]).set e (t,n)) (A++t::(O++n::B)) (outs++ [[(es.length:Int)]]) (ak++ [([(e:Int)],n)])):=by
 have hi:=iR (A++t::(O++B)) t (by omega)
 rw[TF WM]at hi
 have hmu:=Rt (v:=n) hnew
 obtain⟨hd,VK⟩:∃hd,(es.getD e (0,0)).2=hd:=⟨_,rfl⟩
 rw[VK]at hO hB ⊢
 have Sb:(List.map rE es).getD e [D.sc (.int .i64 0),D.sc (.int .i64 0)]= [D.sc (.int .i64 t),D.sc (.int .i64 hd)]:=Fu (afr ht VK)
 have uu:(List.map rE (es++ [(n,hd)])).getD e [D.sc (.int .i64 0),D.sc (.int .i64 0)]= [D.sc (.int .i64 t),D.sc (.int .i64 hd)]:=Fu (by
  rw[aas,adx he, <- List.getD_eq_getElem?_getD];exact afr ht VK)
 have tQ:(List.map rE ((es++ [(n,hd)]).set e (t,n))).getD e [D.sc (.int .i64 0),D.sc (.int .i64 0)]= [D.sc (.int .i64 t),D.sc (.int .i64 n)]:=Fu (by
  rw[aas,af7 (by simp;omega)];rfl)
 have Iz:((es++ [(n,hd)]).set e (t,n)).length=es.length+1:=by simp
 have L8:∀p∈ak++ [([(e:Int)],n)],0<=p.1.getD 0 0/\p.1.getD 0 0<((es++ [(n,hd)]).set e (t,n)).length:=fun p hp=>by
  rw[Iz]
  rcases ac8.1 hp with h|h
  ·have:=hE p h;omega
  ·rw[adu]at h
   subst h
   simp only[afl]
   omega
 have qg:=fun (outs:List (List Int)) (u:Int)=>NG (n+1) ((es++ [(n,hd)]).set e (t,n)) (A++t::(O++B)) outs (ak++ [([(e:Int)],n)]) u e (by rw[Iz];omega) (by rw[Iz];omega) L8
 have hins:=HQ (A++t::(O++B)) (A.length+1+O.length) n (by simp;omega) (by omega)
 rw[TH]at hins
 have hlen:(A++t::(O++B)).length=A.length+1+O.length+B.length:=by simp;omega
 generalize T8:(es++ [(n,hd)]).set e (t,n)=E2 at hO hB tQ Iz L8 qg ⊢
 have hv:vI outs++ [[D.sl 1 [[D.sc (.int .i64 (es.length:Int))]]]]=vI (outs++ [[(es.length:Int)]]):=by simp[vI,sI,rI]
 generalize M8:A++t::(O++n::B)=ac0 at hins ⊢
 unfold tJ TE
 (refine T.hR [51,73,125,126,72] [] [] [(10011,51),(10013,73),(10012,126)] Tryz.func103 rfl rfl (by kernel_rfl) fun X hX hP hC aA bB=> ?_)
 repeat' (first|refine Rn.p ?_|((first|refine Rs.p ?_|with_reducible intro K hK|(refine hK _ ?_;clear hK K)|(refine cr (hi) ?_ ?_ ?_;iterate 2 (focus(simp only[go_sem,simprocAttr,hmu,Ft,J4,Sb,uu,tQ,T8,hv,adi,List.length_cons,List.length_nil];done))));try simp only[go_sem,simprocAttr,hmu,Ft,J4,Sb,uu,tQ,T8,hv,adi,List.length_cons,List.length_nil])|with_reducible (first|apply And.intro|refine oD (by kernel_rfl) ?_)|omega)
 refine ag (fun j:Nat=>j<=O.length) (fun j=>⟨[(0, .ptr 10000 0),(1,eN e),(4,eN n),(6,eN ((A.length+1+j:Nat):Int))], [(10000, .box [eN (n+1), .ref 51, .ref 10002, .ref 73, .mref 10004]),(51, .own 56 2 (E2.map rE)),(10002, .own 3 1 ((A++t::(O++B)).map rI)),(73, .own 25 1 (vI (outs++ [[(es.length:Int)]]))),(10004, .mp 0 (ak++ [([(e:Int)],n)]))]⟩) (fun j=>O.length - j) 0 (by omega) ?_ ?_
 ·refine Le.of ?_ ?_<;>simp[go_sem,simprocAttr,hmu,Ft,J4,Sb,uu,tQ,T8,hv,adi,List.length_cons,List.length_nil]
 rintro j hj
 obtain⟨L,hL⟩:∃L,L=A++t::(O++B):=⟨_,rfl⟩
 rcases adj j O.length with hlt|hge
 ·have hb:decide (((A.length+1+j:Nat):Int)<(L.length:Int))=true:=ac6 (by rw[hL];omega)
  have qy:L.getD (A.length+1+j) 0=O.getD j 0:=by rw[hL];exact Wk hlt
  have hm:=hO _ (az (d:=0) hlt)
  have hm2:=qg (outs++ [[(es.length:Int)]]) (O.getD j 0)
  rw[hm]at hm2
  rw[<- hL]at hm2 ⊢
  have hjl:A.length+1+j<L.length:=by rw[hL];omega
  repeat' (first|refine Rn.p ?_|((first|refine Rs.p ?_|with_reducible intro K hK|(refine hK _ ?_;clear hK K)|(refine aS [(10000,10000),(10001,51),(10002,10002),(10003,73),(10004,10004)] (hm2) ?_ ?_;(focus(simp[go_sem,simprocAttr,tJ,hb,qy];done))));try simp only[go_sem,simprocAttr,tJ,hb,qy])|with_reducible (apply And.intro)|omega)
  refine⟨j+1,by omega, ?_,by omega⟩
  refine Le.of ?_ ?_<;>simp[go_sem,simprocAttr,tJ,hb,qy]
  omega
 ·obtain rfl:j=O.length:=by omega
  have hm2:=qg (outs++ [[(es.length:Int)]])
  rw[<- hL]at hm2 hins ⊢
  cases YQ:B with
  |nil=>
   have hb:decide (((A.length+1+O.length:Nat):Int)<(L.length:Int))=false:=ac5 (by rw[hL,hlen,YQ];simp)
   repeat' (first|refine Rn.p ?_|((first|refine Rs.p ?_|with_reducible intro K hK|(refine hK _ ?_;clear hK K)|(refine aS [(10000,10002),(10002,125),(10001,126)] (hins) ?_ ?_;(focus(simp[go_sem,simprocAttr,tJ,rI,hb];done))));try simp only[go_sem,simprocAttr,tJ,rI,hb])|with_reducible (apply And.intro))
   all_goals rfl
  |cons u r=>
   have hb:decide (((A.length+1+O.length:Nat):Int)<(L.length:Int))=true:=ac6 (by rw[hL,hlen,YQ];simp;omega)
   have qy:L.getD (A.length+1+O.length) 0=u:=by rw[hL,YQ];exact TG
   have WG:=hm2 u
   rw[hB u r YQ]at WG
   have hjl:A.length+1+O.length<L.length:=by rw[hL,hlen,YQ];simp
   repeat' (first|refine Rn.p ?_|((first|refine Rs.p ?_|with_reducible intro K hK|(refine hK _ ?_;clear hK K)|(refine aS [(10000,10002),(10002,125),(10001,126)] (hins) ?_ ?_;(focus(simp[go_sem,simprocAttr,tJ,rI,hb,qy];done)))|(refine aS [(10000,10000),(10001,51),(10002,10002),(10003,73),(10004,10004)] (WG) ?_ ?_;(focus(simp[go_sem,simprocAttr,tJ,rI,hb,qy];done))));try simp only[go_sem,simprocAttr,tJ,rI,hb,qy])|with_reducible (apply And.intro)|omega)
   all_goals rfl
end Go.Ab
end
section
set_option maxHeartbeats 8000000
set_option maxRecDepth 20000
namespace Go.Ab
attribute [local congr] ACall.congr gd.congr Ny.congr vcOps.congr
open Go.Proofs
def qv(g:Gr)(bs:List Int)(k:Nat):List (List Int × Int):=(List.range k).map fun j:Nat=>([bs.getD j 0],g.n+(j:Int))
theorem NI{g:Gr}{bs:List Int}{k:Nat} :qv g bs (k+1)=qv g bs k++ [([bs.getD k 0],g.n+(k:Int))]:=by simp[qv,adV]
theorem rW{g:Gr}{bs:List Int}{k:Nat}{p:List Int × Int} :p∈qv g bs k↔∃j:Nat,j<k/\p=([bs.getD j 0],g.n+(j:Int)):=by
 simp only[qv,ada,adk]
 constructor
 ·rintro⟨j,h,rfl⟩;exact⟨j,h,rfl⟩
 ·rintro⟨j,h,rfl⟩;exact⟨j,h,rfl⟩
theorem NJ{g:Gr}{k:Nat} :mQ g (k+1)=mQ g k++ [[((g.es.length+k:Nat):Int)]]:=by simp[mQ,adV]
theorem Ru{g:Gr}{bs:List Int} :(mP g bs).length=g.es.length+bs.length:=by simp[mP]
section
variable {g:Gr} {p:Pl} {bs:List Int} (h:aG g p) (hb:Cf g bs) (hs1:g.n+bs.length<=64) (hs2:g.es.length+bs.length<=128)
include h hb hs1 hs2
theorem HR:∀ {k:Nat},k<=bs.length->(gJ g bs k p.ord).length=g.n.toNat+k
 |0,_=>by rw[DM,aI h.2.1];rfl
 |k+1,hk=>by
  have hm:=ah h.1
  have uZ:∀u∈p.ord,u<g.n:=fun u hu=>by
   have:=h.2.1.2.1.mem_iff.1 hu
   simp only[dD,ada,adk]at this
   obtain⟨k,hk,e⟩:=this
   have e:(k:Int)=u:=e
   omega
  have Cr:=hb.lg _ (az (d:=0) hk)
  have Sx:bt g (bs.getD k 0)∈p.ord:=by
   have htr:=aT hm (i:=(bs.getD k 0).toNat) (by omega)
   obtain⟨l,hl,e⟩:=cq h.2.1 htr.1 htr.2
   show tl g (bs.getD k 0).toNat∈p.ord
   rw[<- e,aq,aas,acF (by rw[aI h.2.1];exact hl)]
   exact ad2 _
  obtain⟨A,B,o1,o2,_,_⟩:=DN (k:=k) (cF h.2.1) uZ Sx
  have ih:=HR (k:=k) (by omega)
  rw[o1]at ih
  rw[o2]
  simp only[adi,List.length_cons]at ih ⊢
  omega
theorem Rv{k:Nat}(hk:k<bs.length):Spec Tryz.prog 103 (Args [.ptr 10000 0,eN (bs.getD k 0)]) (tJ (g.n+(k:Int)) (mP g (bs.take k)) (gJ g bs k p.ord) (p.outs++mQ g k) (qv g bs k)) (.tup [])
 (TE (g.n+((k+1:Nat):Int)) (mP g (bs.take (k+1))) (gJ g bs (k+1) p.ord) (p.outs++mQ g (k+1)) (qv g bs (k+1))):=by
 have hm:=ah h.1
 have hn:=aB hm
 have dI:=h.2.1.1
 have bR:=cF h.2.1
 have Cr:=hb.lg _ (az (d:=0) hk)
 obtain⟨e,he⟩:∃e:Nat,bs.getD k 0=(e:Int):=⟨(bs.getD k 0).toNat,by omega⟩
 obtain⟨e1,e2,e3⟩:=Nz hb hk he
 have hbt:(bs.take k).length=k:=by simp;omega
 have ac1:(bs.take (k+1)).length=k+1:=by simp;omega
 have hel:(mP g (bs.take k)).length=g.es.length+k:=by rw[Ru,hbt]
 have ht:bt g (bs.getD k 0)=tl g e:=by rw[he];rfl
 have uZ:∀u∈p.ord,u<g.n:=fun u hu=>by
  have:=h.2.1.2.1.mem_iff.1 hu
  simp only[dD,ada,adk]at this
  obtain⟨k,hk,e⟩:=this
  have e:(k:Int)=u:=e
  omega
 have Sx:bt g (bs.getD k 0)∈p.ord:=by
  rw[ht]
  have htr:=aT hm e1
  obtain⟨l,hl,e⟩:=cq h.2.1 htr.1 htr.2
  rw[<- e,aq,aas,acF (by rw[aI h.2.1];exact hl)]
  exact ad2 _
 obtain⟨A,B,o1,o2,o3,o4⟩:=DN (k:=k) bR uZ Sx
 rw[ht]at o1 o2 o3
 have qy:∀i,i<g.es.length->((mP g (bs.take (k+1))).getD i (0,0)).1=tl g i:=fun i hi=>by
  have:=(de (g:=g) (bs:=bs.take (k+1)) (e:=(i:Int)) (by omega) (by omega)).1
  exact this
 have YR:(gJ g bs k p.ord).length<1000:=by
  rw[HR h hb hs1 hs2 (by omega)];omega
 have hoN:(mQ g k).length=k:=by simp[mQ]
 have hinj:∀j,j<bs.length->bs.getD j 0=bs.getD k 0->j=k:=fun j hj hjk=>by
  have a:=gN hb.nd hj
  have b:=gN hb.nd hk
  rw[hjk]at a
  omega
 have key:=NH (g.n+(k:Int)) (mP g (bs.take k)) (p.outs++mQ g k) (qv g bs k) e A (vf g bs k (tl g e)) B (tl g e) (by omega) (by omega) (by omega) (by rw[adi,dI,hoN];omega) (by rw[<- o1];exact YR)
  (fun q hq=> ?_) (fun q hq=> ?_) (by rw[e2]) o3 (fun u hu=> ?_) (fun u r hB=> ?_)
 ·rw[e2,show((tl g e,hd g e):Edge).2=hd g e from rfl, <- e3, <- o1, <- o2,hel]at key
  rw[he,NJ,NI,he, <- List.append_assoc,show g.n+((k+1:Nat):Int)=g.n+(k:Int)+1 by omega]
  exact key
 ·obtain⟨j,hj,rfl⟩:=rW.1 hq
  have:=hb.lg _ (az (d:=0) (show j<bs.length by omega))
  simp only[afl]
  omega
 ·obtain⟨j,hj,rfl⟩:=rW.1 hq
  intro e'
  simp only[adA,afc]at e'
  have:=hinj j (by omega) (by rw[he];exact e'.symm)
  omega
 ·obtain⟨j,j1,j2,rfl⟩:=j5.1 hu
  rw[e2,show((tl g e,hd g e):Edge).2=hd g e from rfl, <- e3]
  have CV:=hb.lg _ (az (d:=0) (show j<bs.length by omega))
  unfold Cm
  rw[adQ]
  refine⟨([bs.getD j 0],g.n+(j:Int)),adR _ (rW.2 ⟨j,j1,rfl⟩), ?_⟩
  simp only[ir,afl,adf,adb]
  refine⟨⟨trivial,fun e'=> ?_⟩, ?_⟩
  ·have:=hinj j (by omega) (by rw[he];omega)
   omega
  ·rw[qy _ (by omega),qy _ e1]
   exact j2
 ·rw[e2,show((tl g e,hd g e):Edge).2=hd g e from rfl, <- e3]
  have hu:=o4 u r hB
  unfold Cm
  rw[adU]
  intro q hq
  have Mb:g.n<=q.2:=by
   rcases ac8.1 hq with hq|hq
   ·obtain⟨j,hj,rfl⟩:=rW.1 hq
    show g.n<=g.n+(j:Int)
    omega
   ·rw[adu]at hq
    subst hq
    show g.n<=g.n+(k:Int)
    omega
  simp only[ir,adf,adb]
  rintro⟨⟨h1,_⟩,_⟩
  omega
end
end Go.Ab
end
section
set_option maxHeartbeats 16000000
set_option maxRecDepth 20000
namespace Go.Ab
attribute [local congr] ACall.congr gd.congr Ny.congr vcOps.congr
open Go.Proofs
theorem Fv(ps:List Edge)(hl:ps.length<=1000000):
 Spec Tryz.prog 92 (Args [.d (sE ps)]) [] (.ref 10000) [(10000, .own 56 2 (ps.map rE))]:=by
 (refine T.hR [5,7] [] [.t 2] [(10000,7)] Tryz.func92 rfl rfl (by kernel_rfl) fun X hX hP hC aA bB=> ?_)
 repeat' (first|(show cR _ .ret _ _;(try simp only[go_sem,simprocAttr]);refine dQ hX 2 7 (.own 56 2 []) ?_ ?_ (by decide) ⟨56,2,by decide, .inl rfl⟩ ?_;(iterate 2 (focus(simp only[go_sem,simprocAttr];done)));simp only[go_sem,simprocAttr])|refine Rn.p ?_|((first|refine Rs.p ?_|with_reducible intro K hK|(refine hK _ ?_;clear hK K));try simp only[go_sem,simprocAttr])|with_reducible (first|apply And.intro|(intro h;try simp only[go_sem,simprocAttr]at h))|omega)
 exact h.symm
theorem kI{g:Gr} :Cf g (cO g):=by
 unfold cO
 split
 ·refine⟨?_,fun i hi=> ?_⟩
  ·unfold Ih
   exact aex _ (fun a b hab=>by omega) (List.nodup_range.filter _)
  ·simp only[Ih,ada,adI,adk]at hi
   obtain⟨j,⟨h1,_⟩,rfl⟩:=hi
   omega
 ·exact⟨ae0,by simp⟩
theorem J5(g:Gr)(hl:g.es.length<=1000)(p:Pl)(hp:uc p)(b:Bool)(hr:b=true↔(bX g).1=0/\bq g p)(h0:(dF b g p).2.1=0)(Uo:q8 g=true)(hbig:64<g.n+(cO g).length\/128<g.es.length+(cO g).length):
 Spec Tryz.prog 58 (Args [eG g,ePl p]) [] (.tup [.d (.sc (.pointer none)),eN 10]) []:=by
 have hO:=ig g hl p hp b hr
 have hI:=u5 g hl
 have hT:=LJ g (by omega)
 obtain⟨hrun,hR⟩:=sZ hr h0
 rw[hR]at hO
 simp only at hO
 rw[Uo]at hI
 have hn:=aB (ah hrun.1)
 have Eh:(cO g).length<=1000:=by
  unfold cO
  split
  ·have:=LI (g:=g) (k:=g.es.length);omega
  ·simp
 generalize cO g=bs at hT hbig Eh
 by_cases hA:64<g.n+(bs.length:Int)
 ·have hb1:decide (64<g.n+(bs.length:Int))=true:=ac6 hA
  (refine T.h [] [] [.t 4, .t 5] Tryz.func58 rfl rfl (by kernel_rfl) fun X hX hP hC aA bB=> ?_)
  repeat' (first|refine Rn.p ?_|((first|refine Rs.p ?_|with_reducible intro K hK|(refine hK _ ?_;clear hK K)|refine aa (hO) rfl ?_|refine aa (hI) rfl ?_|refine aa (hT) rfl ?_);try simp only[go_sem,simprocAttr,hb1])|with_reducible (apply And.intro)|omega)
 ·have hb1:decide (64<g.n+(bs.length:Int))=false:=ac5 hA
  have hb2:decide (128<(g.es.length:Int)+(bs.length:Int))=true:=ac6 (by omega)
  (refine T.h [] [] [.t 4, .t 5] Tryz.func58 rfl rfl (by kernel_rfl) fun X hX hP hC aA bB=> ?_)
  repeat' (first|refine Rn.p ?_|((first|refine Rs.p ?_|with_reducible intro K hK|(refine hK _ ?_;clear hK K)|refine aa (hO) rfl ?_|refine aa (hI) rfl ?_|refine aa (hT) rfl ?_);try simp only[go_sem,simprocAttr,hb1,hb2])|with_reducible (apply And.intro)|omega)
theorem NK(g:Gr)(hl:g.es.length<=1000)(p:Pl)(hp:uc p)(hrun:aG g p)(Uo:q8 g=true)(bs:List Int)(Tp:cO g=bs)(hs1:g.n+bs.length<=64)(hs2:g.es.length+bs.length<=128):
 Spec Tryz.prog 58 (Args [eG g,ePl p]) [] (.tup [.ptr 10000 0,eN 0]) (tJ (g.n+bs.length) (mP g bs) (gJ g bs bs.length p.ord) (p.outs++mQ g bs.length) (qv g bs bs.length)):=by
 have hO:=ig g hl p hp true ⟨fun _=>⟨hrun.1,hrun.2.1⟩,fun _=>rfl⟩
 rw[p9 ⟨fun _=>⟨hrun.1,hrun.2.1⟩,fun _=>rfl⟩ hrun]at hO
 simp only at hO
 have hI:=u5 g hl
 rw[Uo]at hI
 have hT:=LJ g (by omega)
 have hbk:=kI (g:=g)
 rw[Tp]at hT hbk
 have hn:=aB (ah hrun.1)
 have dI:=hrun.2.1.1
 have Ax:=aI hrun.2.1
 have hb1:decide (64<g.n+(bs.length:Int))=false:=ac5 (by omega)
 have hb2:decide (128<(g.es.length:Int)+(bs.length:Int))=false:=ac5 (by omega)
 have hC1:=Fv g.es (by omega)
 have hC2:=xA p.ord (by omega)
 have hC3:∀k,k<p.outs.length->Spec Tryz.prog 44 (Args [.d (sI (p.outs.getD k []))]) [] (.d (sI (p.outs.getD k []))) []:=fun k hk=>qL _ (by
  have h1:=(hrun.2.1.2.2 k (by omega)).length_eq
  have h2:(b8 g (k:Int)).length<=g.es.length:=iU
  omega)
 unfold tJ
 (refine T.hR [51,55,76,75,200] [] [.t 4, .t 5] [(10000,59),(10001,51),(10002,55),(10003,200),(10004,57)] Tryz.func58 rfl rfl (by kernel_rfl) fun X hX hP hC aA bB=> ?_)
 repeat' (first|(show cR _ (.seq (.region 8 _ _) _) _ _;(refine jj hX 59 3 200 (.own 25 1 []) rfl rfl rfl (by simp only[go_sem,simprocAttr,hb1,hb2]) (by decide) (by simp[go_sem,simprocAttr,hb1,hb2]) ⟨25,1,by decide, .inl rfl⟩ ?_;simp only[List.set_cons_zero,List.set_cons_succ,go_sem,simprocAttr,hb1,hb2]))|refine Rn.p ?_|((first|refine Rs.p ?_|with_reducible intro K hK|(refine hK _ ?_;clear hK K)|refine aa (hO) rfl ?_|refine aa (hI) rfl ?_|refine aa (hT) rfl ?_|(refine aS [(10000,51)] (hC1) ?_ ?_;(focus(simp[go_sem,simprocAttr,hb1,hb2];done)))|(refine aS [(10000,55)] (hC2) ?_ ?_;(focus(simp[go_sem,simprocAttr,hb1,hb2];done))));try simp only[go_sem,simprocAttr,hb1,hb2])|with_reducible (first|apply And.intro|refine oD (by kernel_rfl) ?_)|omega)
 refine ag (fun k:Nat=>k<=p.outs.length) (fun k=>⟨[(4, .d (.sc (.pointer none))),(5,eN 0),(9, .d (sI bs)),(10, .ptr 59 0),(61, .d (.sl 1 (vI p.outs))),(62,eN p.outs.length),(63,eN k)], [(59, .box [eN g.n, .ref 51, .ref 55, .ref 200, .mref 57]),(51, .own 56 2 (g.es.map rE)),(55, .own 3 1 (p.ord.map rI)),(200, .own 25 1 (vI (p.outs.take k))),(57, .mp 0 [])]⟩) (fun k=>p.outs.length - k) 0 (by omega) ?_ ?_
 ·refine Le.of ?_ ?_<;>simp[go_sem,simprocAttr,vI]
 rintro k hk
 rcases adj k p.outs.length with hlt|hge
 ·have hb:decide ((k:Int)<(p.outs.length:Int))=true:=ac6 (by omega)
  have hc:=hC3 k hlt
  have Db:(p.outs.take k).length=k:=by simp;omega
  have hv:vI (p.outs.take k)++ [[D.sl 1 ((p.outs.getD k []).map rI)]]=vI (p.outs.take (k+1)):=by
   rw[ad1,acF hlt,Option.toList_some,Wj,aas,acF hlt]
   rfl
  repeat' (first|(show cR _ (.region 12 _ _) _ _;(refine dY hX 59 3 76 200 rfl rfl rfl (by first|exact .inl rfl|exact .inr rfl) (by decide) (by decide) ?_;simp only[List.set_cons_zero,List.set_cons_succ,go_sem,simprocAttr,hb,hv,jr hlt,Db,sI]))|refine Rn.p ?_|((first|refine Rs.p ?_|with_reducible intro K hK|(refine hK _ ?_;clear hK K)|refine aa (hc) rfl ?_);try simp only[go_sem,simprocAttr,hb,hv,jr hlt,Db,sI])|with_reducible (first|apply And.intro|refine oD (by kernel_rfl) ?_)|omega)
  refine⟨k+1,by omega, ?_,by omega⟩
  refine Le.of ?_ ?_<;>simp[go_sem,simprocAttr,hb,hv,jr hlt,Db,sI]
 ·have hb:decide ((k:Int)<(p.outs.length:Int))=false:=ac5 (by omega)
  obtain rfl:k=p.outs.length:=by omega
  rw[aee]
  repeat' (first|refine Rn.p ?_|((first|refine Rs.p ?_|with_reducible intro K hK|(refine hK _ ?_;clear hK K));try simp only[go_sem,simprocAttr,hb]))
  refine ag (fun k:Nat=>k<=bs.length) (fun k=>⟨[(4, .d (.sc (.pointer none))),(5,eN 0),(10, .ptr 59 0),(81, .d (sI bs)),(82,eN bs.length),(83,eN k)], [(59, .box [eN (g.n+(k:Int)), .ref 51, .ref 55, .ref 200, .mref 57]),(51, .own 56 2 ((mP g (bs.take k)).map rE)),(55, .own 3 1 ((gJ g bs k p.ord).map rI)),(200, .own 25 1 (vI (p.outs++mQ g k))),(57, .mp 0 (qv g bs k))]⟩) (fun k=>bs.length - k) 0 (by omega) ?_ ?_
  ·refine Le.of ?_ ?_<;>simp[go_sem,simprocAttr,NB,DM,mQ,qv]
  rintro k hk
  rcases adj k bs.length with hlt|hge
  ·have hb3:decide ((k:Int)<(bs.length:Int))=true:=ac6 (by omega)
   have hL:=Rv hrun hbk hs1 hs2 hlt
   repeat' (first|(show cR _ (.region 17 _ _) _ _;(refine dY hX 59 1 301 51 rfl rfl rfl (by first|exact .inl rfl|exact .inr rfl) (by decide) (by decide) ?_;simp only[List.set_cons_zero,List.set_cons_succ,go_sem,simprocAttr,hb3,tJ,TE]);(refine dY hX 59 2 302 55 rfl rfl rfl (by first|exact .inl rfl|exact .inr rfl) (by decide) (by decide) ?_;simp only[List.set_cons_zero,List.set_cons_succ,go_sem,simprocAttr,hb3,tJ,TE]);(refine dY hX 59 3 303 200 rfl rfl rfl (by first|exact .inl rfl|exact .inr rfl) (by decide) (by decide) ?_;simp only[List.set_cons_zero,List.set_cons_succ,go_sem,simprocAttr,hb3,tJ,TE]))|refine Rn.p ?_|((first|refine Rs.p ?_|with_reducible intro K hK|(refine hK _ ?_;clear hK K)|(refine aS [(10000,59),(10001,51),(10002,55),(10003,200),(10004,57),(10011,301),(10012,302),(10013,303)] (hL) ?_ ?_;(focus(simp[go_sem,simprocAttr,hb3,tJ,TE];done))));try simp only[go_sem,simprocAttr,hb3,tJ,TE])|with_reducible (apply And.intro)|omega)
   refine⟨k+1,by omega, ?_,by omega⟩
   refine Le.of ?_ ?_<;>simp[go_sem,simprocAttr,hb3,tJ,TE]
  ·have hb3:decide ((k:Int)<(bs.length:Int))=false:=ac5 (by omega)
   obtain rfl:k=bs.length:=by omega
   rw[aee]
   repeat' (first|refine Rn.p ?_|((first|refine Rs.p ?_|with_reducible intro K hK|(refine hK _ ?_;clear hK K));try simp only[go_sem,simprocAttr,hb3]))
noncomputable def ac2 (b:Bool) (g:Gr) (p:Pl):Gr × Pl × Int:=
 if(dF b g p).2.1=0/\q8 g=true then(if 64<g.n+(cO g).length\/128<g.es.length+(cO g).length then(gz,pz,10) else(aO g (cO g),HH g p (cO g),0)) else(gz,pz,1)
end Go.Ab
end
section
set_option maxHeartbeats 8000000
set_option maxRecDepth 20000
namespace Go.Ab
attribute [local congr] ACall.congr gd.congr Ny.congr vcOps.congr
open Go.Proofs
def Ii(xs ys:List Int)(v:Nat):Pt:=(xs.getD v 0,ys.getD v 0)
def HS(N:Int)(bs xs ys:List Int)(i:Nat):List Pt:=if(i:Int)∈bs then [Ii xs ys (N+(bs.idxOf (i:Int):Nat)).toNat] else []
def N7(g:Gr)(N:Int)(bs xs ys:List Int)(i:Nat):List Pt:=Ii xs ys (tl g i).toNat::(HS N bs xs ys i++ [Ii xs ys (hd g i).toNat])
def vi(xs ys:List Int)(k:Nat):List Pt:=(List.range k).map (Ii xs ys)
def tK(g:Gr)(N:Int)(bs xs ys:List Int)(k:Nat):List (List Pt):=(List.range k).map (N7 g N bs xs ys)
def YS(g:Gr)(N:Int)(bs xs ys:List Int):Dr:=⟨vi xs ys g.n.toNat,tK g N bs xs ys g.es.length⟩
theorem Rw{xs ys:List Int}{k:Nat} :vi xs ys (k+1)=vi xs ys k++ [Ii xs ys k]:=by simp[vi,adV]
theorem Ai{xs ys:List Int}{k:Nat} :(vi xs ys k).length=k:=by simp[vi]
theorem Wl{xs ys:List Int}{k v:Nat}(h:v<k):(vi xs ys k).getD v (0,0)=Ii xs ys v:=by simp[vi,aas,adp h]
theorem Rx{g:Gr}{N:Int}{bs xs ys:List Int}{k:Nat} :tK g N bs xs ys (k+1)=tK g N bs xs ys k++ [N7 g N bs xs ys k]:=by simp[tK,adV]
theorem Fw{g:Gr}{N:Int}{bs xs ys:List Int}{k:Nat} :(tK g N bs xs ys k).length=k:=by simp[tK]
def dz:Dr:=⟨[], []⟩
noncomputable def Aj (g:Gr) (p:Pl) (rev:Bool):List Int:=gl (aO (aj g p) (cO (aj g p))) (HH (aj g p) (bK g p) (cO (aj g p))) rev ((aj g p).n+(cO (aj g p)).length).toNat
noncomputable def DQ (b:Bool) (g:Gr) (p:Pl):Dr × Int:=
 if(tI b g p).2.2≠0 then(dz,(tI b g p).2.2) else if 64<(aj g p).n+(cO (aj g p)).length\/128<(aj g p).es.length+(cO (aj g p)).length then(dz,10) else(YS g (aj g p).n (cO (aj g p)) (Aj g p false) (Aj g p true),0)
theorem Ry{g:Gr}{p:Pl}(h:aG g p):p.ord.length<=64/\p.outs.length<=64/\∀l∈p.outs,l.length<=128:=by
 have hn:=aB (ah h.1)
 have h1:=aI h.2.1
 have h2:=h.2.1.1
 refine⟨by omega,by omega,fun l hl=> ?_⟩
 obtain⟨k,hk,rfl⟩:=adr.1 hl
 have h3:=(h.2.1.2.2 k (by omega)).length_eq
 rw[aas,acF hk,Option.getD_some]at h3
 have h4:(b8 g (k:Int)).length<=g.es.length:=iU
 omega
theorem Fx{g:Gr}{p:Pl}(h:aG g p):uc p:=by
 obtain⟨h1,h2,h3⟩:=Ry h
 exact⟨by omega,by omega,fun l hl=>by have:=h3 l hl;omega⟩
theorem xK{g:Gr}{p:Pl}(h:aG g p):(true=true)↔(bX g).1=0/\bq g p:=⟨fun _=>⟨h.1,h.2.1⟩,fun _=>rfl⟩
structure Room (g:Gr) (p:Pl):Prop where
 ok:qn g p
 h1:(aj g p).n+(cO (aj g p)).length<=64
 h2:(aj g p).es.length+(cO (aj g p)).length<=128
theorem HT{g:Gr}{p:Pl}(h:Room g p):aG (aO (aj g p) (cO (aj g p))) (HH (aj g p) (bK g p) (cO (aj g p))):=LG (ij h.ok) kI (Fj (ij h.ok) kI) h.h1 h.h2
theorem LP{g:Gr}{p:Pl}(h:Room g p):q8 (aO (aj g p) (cO (aj g p)))=true:=Wd (ij h.ok) kI (Fj (ij h.ok) kI) h.h1 h.h2 (QB h.ok)
theorem HU{b:Bool}{g:Gr}{p:Pl}(hr:b=true↔(bX g).1=0/\bq g p)(h:(DQ b g p).2=0):Room g p/\DQ b g p=(YS g (aj g p).n (cO (aj g p)) (Aj g p false) (Aj g p true),0):=by
 unfold DQ at h ⊢
 split at h
 ·rename_i hc;exact absurd h hc
 rename_i h0
 split at h
 ·cases h
 rename_i h1
 rw[ac7 h0,ac7 h1]
 have h0:(tI b g p).2.2=0:=by simpa using h0
 exact⟨⟨(Ll hr h0).1,by omega,by omega⟩,rfl⟩
theorem LS{g:Gr}{p:Pl}{rev:Bool} :(Aj g p rev).length=((aj g p).n+(cO (aj g p)).length).toNat:=by unfold Aj;exact sX
theorem HV{g:Gr}{bs:List Int}(hb:bs.Nodup){i:Int} :cA (qv g bs bs.length) [i]=if i∈bs then some (bs.idxOf i) else none:=by
 by_cases h:i∈bs
 ·rw[ac9 h]
  obtain⟨h1,h2⟩:=ve h
  unfold cA
  rw[aem]
  refine⟨by simp[qv,h1], ?_,fun j hj=> ?_⟩
  ·simp only[qv,afY,List.getElem_range,adb,h2]
  ·simp only[qv,afY,List.getElem_range,adb]
   intro e
   have e:i=bs.getD j 0:=by simpa using e
   have:=gN hb (i:=j) (by omega)
   rw[<- e]at this
   omega
 ·rw[ac7 h]
  unfold cA
  rw[aeN]
  intro q hq
  obtain⟨j,hj,rfl⟩:=rW.1 hq
  rw[adL]
  intro e
  have e:i=bs.getD j 0:=by simpa using e
  rw[e]at h
  exact h (az hj)
theorem TJ{g:Gr}{bs:List Int}(hb:bs.Nodup){i:Int}(h:i∈bs):gO (qv g bs bs.length) [i]=g.n+(bs.idxOf i:Nat):=by
 unfold gO
 rw[HV hb,ac9 h]
 have:=(ve h).1
 simp[qv,adp this]
end Go.Ab
end
section
set_option maxRecDepth 10000
namespace Go.Ab
open Go.Proofs
noncomputable def fh (g:Gr) (p:Pl):Gr:=aO (aj g p) (cO (aj g p))
noncomputable def tL (g:Gr) (p:Pl):Pl:=HH (aj g p) (bK g p) (cO (aj g p))
noncomputable def xS (g:Gr) (p:Pl):Dr:=YS g (aj g p).n (cO (aj g p)) (Aj g p false) (Aj g p true)
noncomputable def xL (g:Gr) (p:Pl) (v:Int):Pt:=iC (fh g p) (tL g p) v
theorem Fy{g:Gr}{p:Pl}(v:Nat):Ii (Aj g p false) (Aj g p true) v=xL g p (v:Int):=rfl
theorem YT{g:Gr}{N:Int}{bs xs ys:List Int}{k i:Nat}(h:i<k):(tK g N bs xs ys k).getD i []=N7 g N bs xs ys i:=by
 simp[tK,aas,adp h]
theorem TL{a b c e v w:Int}(h1:a≠b)(h2:c≠e)(v1:v=a\/v=b)(v2:v=c\/v=e)(w1:w=a\/w=b)(w2:w=c\/w=e)(hne:v≠w):(a=c/\b=e)\/(a=e/\b=c):=by omega
section
variable {g:Gr} {p:Pl} (h:Room g p)
include h
theorem rX:aG (fh g p) (tL g p):=HT h
theorem J6:q8 (fh g p)=true:=LP h
theorem Cn:cO (fh g p)= []:=Rg (ah (ij h.ok).1) (ah (rX h).1)
theorem J7:HE (aj g p) (bK g p) (cO (aj g p)) (tL g p):=Fj (ij h.ok) kI
theorem Co:aG g p:=h.ok.run
theorem Wm{i:Nat}(hi:i<g.es.length):tl (aj g p) i=tl g i/\hd (aj g p) i=hd g i:=by
 unfold tl hd
 rw[yq i hi]
 exact⟨rfl,rfl⟩
theorem J8:g.es.length<=(aj g p).es.length:=by
 show g.es.length<=(g.es++bg g p).length
 simp
theorem vj{v:Int}(hv:fN (fh g p) v):bC (xL g p v):=by
 have hr:=rX h
 have hn:=aB (ah hr.1)
 obtain⟨i,i1,_,i3⟩:=oS hr false hv
 obtain⟨j,j1,_,j3⟩:=oS hr true hv
 show(-262144<=jy (fh g p) (tL g p) false v/\jy (fh g p) (tL g p) false v<=262144)/\(-262144<=jy (fh g p) (tL g p) true v/\jy (fh g p) (tL g p) true v<=262144)
 omega
theorem qe{v:Int}(hv:fN g v):fN (fh g p) v:=by
 have:=hv.1;have:=hv.2
 have:=e9 (g:=g) (p:=p)
 refine⟨hv.1, ?_⟩
 show v<(aj g p).n+((cO (aj g p)).length:Int)
 omega
theorem oU{i:Nat}(hi:i<g.es.length):
 (((i:Int)∉cO (aj g p)/\bt (fh g p) i=tl g i/\bA (fh g p) i=hd g i/\(xS g p).ls.getD i []= [xL g p (tl g i),xL g p (hd g i)]))\/
 ((i:Int)∈cO (aj g p)/\∃j:Int,j=(((aj g p).es.length+(cO (aj g p)).idxOf (i:Int):Nat):Int)/\Ag (fh g p) j/\rO (aj g p) (cO (aj g p)) j=i/\bt (fh g p) i=tl g i/\bA (fh g p) i=qo (aj g p) (cO (aj g p)) i/\bt (fh g p) j=qo (aj g p) (cO (aj g p)) i/\bA (fh g p) j=hd g i/\
   (xS g p).ls.getD i []= [xL g p (tl g i),xL g p (qo (aj g p) (cO (aj g p)) i),xL g p (hd g i)]):=by
 have hm:=ah (Co h).1
 have t:=aT hm hi
 have d:=aU hm hi
 have hle:=J8 h
 have Eh:(xS g p).ls.getD i []=N7 g (aj g p).n (cO (aj g p)) (Aj g p false) (Aj g p true) i:=YT hi
 obtain⟨a1,a2⟩:=Wm h hi
 obtain⟨r1,r2⟩:=de (g:=aj g p) (bs:=cO (aj g p)) (e:=(i:Int)) (by omega) (by omega)
 have r1:bt (fh g p) i=tl g i:=r1.trans a1
 have hn:=e9 (g:=g) (p:=p)
 unfold N7 at Eh
 rw[Fy,Fy,show((tl g i).toNat:Int)=tl g i by omega,show((hd g i).toNat:Int)=hd g i by omega]at Eh
 unfold HS at Eh
 by_cases hin:(i:Int)∈cO (aj g p)
 ·right
  rw[ac9 hin]at Eh r2
  obtain⟨k1,k2⟩:=ve hin
  obtain⟨s1,s2⟩:=gG (g:=aj g p) (bs:=cO (aj g p)) k1
  rw[k2]at s2
  refine⟨hin,(((aj g p).es.length+(cO (aj g p)).idxOf (i:Int):Nat):Int),rfl,⟨by omega, ?_⟩, ?_,r1,r2,s1,s2.trans a2, ?_⟩
  ·show _<(((aO (aj g p) (cO (aj g p))).es.length:Nat):Int)
   rw[dV];omega
  ·unfold rO
   rw[ac7 (by omega),show((((aj g p).es.length+(cO (aj g p)).idxOf (i:Int):Nat):Int) - ((aj g p).es.length:Nat)).toNat=(cO (aj g p)).idxOf (i:Int) by omega,k2]
  ·rw[Eh,Fy,show(((aj g p).n+(((cO (aj g p)).idxOf (i:Int):Nat):Int)).toNat:Int)=qo (aj g p) (cO (aj g p)) i by unfold qo;omega]
   rfl
 ·left
  rw[ac7 hin]at Eh r2
  exact⟨hin,r1,r2.trans a2,Eh⟩
theorem Cp{i:Nat}(hi:i<g.es.length):Ag (fh g p) i/\rO (aj g p) (cO (aj g p)) i=i:=by
 have hle:=J8 h
 refine⟨⟨by omega, ?_⟩, ?_⟩
 ·show _<(((aO (aj g p) (cO (aj g p))).es.length:Nat):Int)
  rw[dV];omega
 ·unfold rO
  rw[ac9 (by omega)]
theorem Ak{i:Nat}(hi:i<g.es.length){a:Pc}(ha:a∈fe ((xS g p).ls.getD i [])):∃e,Ag (fh g p) e/\rO (aj g p) (cO (aj g p)) e=i/\a=(xL g p (bt (fh g p) e),xL g p (bA (fh g p) e))/\
 ∀v,v=bt (fh g p) e\/v=bA (fh g p) e->(v=tl g i\/v=hd g i)\/((i:Int)∈cO (aj g p)/\v=qo (aj g p) (cO (aj g p)) i):=by
 obtain⟨o1,o2⟩:=Cp h hi
 rcases oU h hi with ⟨hin,c1,c2,c3⟩|⟨hin,j,_,j1,j2,c1,c2,c4,c5,c3⟩
 ·rw[c3]at ha
  have:a=(xL g p (tl g i),xL g p (hd g i)):=by simpa[fe,MC]using ha
  exact⟨i,o1,o2,by rw[this,c1,c2],fun v hv=> .inl (by rw[c1,c2]at hv;exact hv)⟩
 ·rw[c3]at ha
  have:a=(xL g p (tl g i),xL g p (qo (aj g p) (cO (aj g p)) i))\/a=(xL g p (qo (aj g p) (cO (aj g p)) i),xL g p (hd g i)):=by simpa[fe,MC,adV]using ha
  rcases this with this|this
  ·refine⟨i,o1,o2,by rw[this,c1,c2],fun v hv=> ?_⟩
   rw[c1,c2]at hv
   rcases hv with hv|hv
   ·exact .inl (.inl hv)
   ·exact .inr ⟨hin,hv⟩
  ·refine⟨j,j1,j2,by rw[this,c4,c5],fun v hv=> ?_⟩
   rw[c4,c5]at hv
   rcases hv with hv|hv
   ·exact .inr ⟨hin,hv⟩
   ·exact .inl (.inr hv)
theorem rY{v:Int}(hv:fN g v):(xS g p).pts.getD v.toNat (0,0)=xL g p v:=by
 have h0:=hv.1;have h1:=hv.2
 have:(xS g p).pts.getD v.toNat (0,0)=Ii (Aj g p false) (Aj g p true) v.toNat:=Wl (by omega)
 rw[this,Fy,show(v.toNat:Int)=v by omega]
theorem Al{i:Nat}(hin:(i:Int)∈cO (aj g p)):g.n<=qo (aj g p) (cO (aj g p)) i:=by
 have:=(c7 (kI (g:=aj g p)) hin).1
 have:=e9 (g:=g) (p:=p)
 omega
theorem TM{i k:Nat}(hi:(i:Int)∈cO (aj g p))(hk:(k:Int)∈cO (aj g p))(e:qo (aj g p) (cO (aj g p)) i=qo (aj g p) (cO (aj g p)) k):i=k:=by
 have h1:=(c7 (kI (g:=aj g p)) hi).2.2.2
 have h2:=(c7 (kI (g:=aj g p)) hk).2.2.2
 rw[e]at h1
 omega
theorem HW:uP g (xS g p):=by
 have hr:=Co h
 have hm:=ah hr.1
 have hn:=aB hm
 have hR:=rX h
 have hI:=J6 h
 have hT:=Cn h
 have dI:(xS g p).pts.length=g.n.toNat:=Ai
 have iF:(xS g p).ls.length=g.es.length:=Fw
 have hE:=fun (i:Nat) (hi:i<g.es.length)=>show fN g (tl g i)/\fN g (hd g i) from⟨aT hm hi,aU hm hi⟩
 have SJ:=fun (e:Int) (he:Ag (fh g p) e)=>show bC (xL g p (bt (fh g p) e))/\bC (xL g p (bA (fh g p) e)) from⟨vj h (fI hR hI he).1,vj h (fI hR hI he).2.1⟩
 refine⟨?_, ?_,fun i hi=> ?_,fun i hi=> ?_,fun x hx=> ?_,fun i hi=> ?_,fun i hi=> ?_⟩
 ·unfold ga
  rw[hr.1,dI,iF]
  simp only[decide_true,aeY,aeo,adb]
  omega
 ·unfold dZ
  simp only[adf,adJ,adU]
  refine⟨fun q hq=> ?_,fun l hl=> ?_⟩
  ·obtain⟨k,hk,rfl⟩:=adr.1 hq
   have:=rY h (v:=(k:Int)) ⟨by omega,by omega⟩
   rw[Int.toNat_natCast,aas,acF hk,Option.getD_some]at this
   rw[this,Ac (vj h (qe h ⟨by omega,by omega⟩))];simp
  ·obtain⟨i,hi,rfl⟩:=adr.1 hl
   have hi':i<g.es.length:=by omega
   have e:(xS g p).ls[i]=(xS g p).ls.getD i []:=by rw[aas,acF hi,Option.getD_some]
   have t:=Ac (vj h (qe h (hE i hi').1))
   have d:=Ac (vj h (qe h (hE i hi').2))
   rw[e]
   unfold jC
   rcases oU h hi' with ⟨_,_,_,c3⟩|⟨hin,j,_,j1,_,_,_,c4,_,c3⟩
   ·rw[c3];simp[t,d]
   ·have w:=Ac (vj h (v:=qo (aj g p) (cO (aj g p)) i) (by rw[<- c4];exact(fI hR hI j1).1))
    rw[c3];simp[t,d,w]
 ·unfold qT
  have e1:(xS g p).pts.getD (g.es.getD i (0,0)).1.toNat (0,0)=xL g p (tl g i):=rY h (hE i hi).1
  have e2:(xS g p).pts.getD (g.es.getD i (0,0)).2.toNat (0,0)=xL g p (hd g i):=rY h (hE i hi).2
  rw[e1,e2]
  rcases oU h hi with ⟨_,_,_,c3⟩|⟨_,j,_,_,_,_,_,_,_,c3⟩
  ·rw[c3];simp
  ·rw[c3];simp
 ·unfold gL
  simp only[adJ,adU,adb]
  intro q hq
  obtain⟨e,he,_,rfl,_⟩:=Ak h hi hq
  have:=(rS hR hI he).2
  show ¬(iC (fh g p) (tL g p) (bA (fh g p) e)).2<=(iC (fh g p) (tL g p) (bt (fh g p) e)).2
  omega
 ·unfold fD
  simp only[adJ,adL]
  intro hmem
  obtain⟨k,hk,e⟩:=adr.1 hmem
  rw[adG]at hk
  rw[af9]at e
  have e1:=rY h (v:=(k:Int)) ⟨by omega,by omega⟩
  have e2:=rY h (v:=(x:Int)) ⟨by omega,by omega⟩
  rw[Int.toNat_natCast]at e1 e2
  rw[aas,acF (by omega),Option.getD_some,e,e2]at e1
  have e3:jy (fh g p) (tL g p) false (x:Int)=jy (fh g p) (tL g p) false (k:Int):=congrArg Prod.fst e1
  have:=nu hR false (qe h (v:=(x:Int)) ⟨by omega,by omega⟩) (qe h (v:=(k:Int)) ⟨by omega,by omega⟩) e3
  omega
 ·unfold kL oq
  rw[ad7]
  intro x hx
  have hx:=adk.1 hx
  have Fz:fN g (x:Int):=⟨by omega,by omega⟩
  simp only[adK,adb,adJ]
  refine ae9 fun hc=> ?_
  have n1:(x:Int)≠tl g i:=fun e=>hc (.inl (.inl e))
  have n2:(x:Int)≠hd g i:=fun e=>hc (.inl (.inr e))
  refine hc (.inr ?_)
  unfold SE
  rw[adU]
  intro q hq
  obtain⟨e,he,_,rfl,hv⟩:=Ak h hi hq
  have ex:=rY h Fz
  rw[Int.toNat_natCast]at ex
  rw[ex]
  intro ho
  unfold nG at ho
  rw[adf]at ho
  have:=Tz hR hI hT he (qe h Fz) (dr (rS hR hI he).2 ho.2)
  rcases hv _ this with h1|⟨h1,h2⟩
  ·rcases h1 with h1|h1
   ·exact n1 h1
   ·exact n2 h1
  ·have:=Al h h1
   omega
 ·unfold fZ jm
  rw[ad7]
  intro k hk
  have hk:=adk.1 hk
  rw[ad7]
  intro a ha
  rw[ad7]
  intro b hb
  obtain⟨e,he,e1,rfl,ev⟩:=Ak h hi ha
  obtain⟨f,hf,f1,rfl,fv⟩:=Ak h (show k<g.es.length by omega) hb
  have hne:e≠f:=fun q=>by rw[q,f1]at e1;omega
  have ue:=(rS hR hI he).2
  have uf:=(rS hR hI hf).2
  rw[adJ]
  by_cases hc:∃y X:Rat,Cv (xL g p (bt (fh g p) e)) (xL g p (bA (fh g p) e)) y X/\Cv (xL g p (bt (fh g p) f)) (xL g p (bA (fh g p) f)) y X
  rotate_left
  ·exact Ri ue uf fun y X a b=>hc ⟨y,X,a,b⟩
  obtain⟨y,X,ca,cb⟩:=hc
  obtain⟨v,v1,v2,v3⟩:=HN hR hI hT he hf hne ca cb
  have hold:(v=tl g i\/v=hd g i)/\(v=tl g k\/v=hd g k):=by
   have ti:=(hE i hi).1.2;have di:=(hE i hi).2.2
   have tk:=(hE k (by omega)).1.2;have dk:=(hE k (by omega)).2.2
   rcases ev v v1 with q1|⟨q1,q2⟩<;>rcases fv v v2 with r1|⟨r1,r2⟩
   ·exact⟨q1,r1⟩
   ·have:=Al h r1;omega
   ·have:=Al h q1;omega
   ·have:=TM h q1 r1 (q2.symm.trans r2);omega
  have N8:fN g v:=by
   rcases hold.1 with q|q
   ·rw[q];exact(hE i hi).1
   ·rw[q];exact(hE i hi).2
  refine Tw (c:=xL g p v) ue uf ⟨(SJ e he).1,(SJ e he).2,(SJ f hf).1,(SJ f hf).2,vj h (qe h N8)⟩ ?_ ?_ ?_ fun y' X' ca' cb'=> ?_
  ·unfold gW uN
   refine ada.2 ⟨v,adI.2 ⟨?_, ?_⟩,rY h N8⟩
   ·have:=hold.1
    simpa[tl,hd]using this
   ·have:=hold.2
    simpa[MF,tl,hd]using this
  ·rcases v1 with q|q
   ·rw[q];exact eV
   ·rw[q,fV];exact eV
  ·rcases v2 with q|q
   ·rw[q];exact eV
   ·rw[q,fV];exact eV
  ·obtain⟨w,w1,w2,w3⟩:=HN hR hI hT he hf hne ca' cb'
   by_cases hvw:v=w
   ·rw[hvw];exact w3
   exfalso
   rcases TL (fI hR hI he).2.2 (fI hR hI hf).2.2 v1 v2 w1 w2 hvw with ⟨q1,q2⟩|⟨q1,q2⟩
   ·have:=he.1;have:=he.2;have:=hf.1;have:=hf.2
    have:=mI hR.1 (i:=e.toNat) (k:=f.toNat) (by omega) (by omega) (afr q1 q2)
    omega
   ·have a1:=(rS hR hI he).1
    have a2:=(rS hR hI hf).1
    rw[q1,q2]at a1
    omega
end
theorem Cq{α:Type}{R:α->α->Prop} :∀ {l:List α},(∀u e v f w,l=u++e::(v++f::w)->R e f)->l.Pairwise R
 | [],_=>List.Pairwise.nil
 |a::l,h=>aeV.2 ⟨fun b hb=>by
   obtain⟨v,w,rfl⟩:=aeW hb
   exact h [] a v b w rfl,Cq fun u e v f w e'=>h (a::u) e v f w (by rw[e'];rfl)⟩
section
variable {P:PS} (h:P.Ok) {L R:Int->Int} {f0 f1:Int} {low:Int->Int} (F:P.fM L R f0 f1 low)
include h F
theorem Rz{l u v w:List Int}{s e f:Int}(hE:∀a∈l,P.E a)(hl:ja L R s l)(e1:l=u++e::(v++f::w)):P.Lp L R (R e) (L f):=by
 rw[e1,show u++e::(v++f::w)=(u++ [e])++(v++f::w) by simp,cw,cW]at hl
 obtain⟨_,hl⟩:=hl
 rw[cw]at hl
 have h1:=w8 (P:=P) (A:=v) (fun b hb=>hE b (by rw[e1];simp[hb])) hl.1
 rw[<- hl.2.1]at h1
 exact h1
theorem RA{x:Int}{u v w:List Int}{e f:Int}(e1:P.outs x=u++e::(v++f::w)):P.Lp L R (R e) (L f):=by
 refine Rz h F (s:=L ((P.outs x).headD 0)) (fun a ha=>((h.bI x a).1 ha).1) ?_ e1
 cases hI:P.outs x with
 |nil=>trivial
 |cons b z=>rw[<- hI];exact sW h F fun b' w' e'=>by rw[hI];rw[hI]at e';simp only[adA]at e';simp[e'.1]
theorem TN{x:Int}{u v w:List Int}{e f:Int}(e1:P.ins x=u++e::(v++f::w)):P.Lp L R (R e) (L f):=by
 refine Rz h F (s:=L ((P.ins x).headD 0)) (fun a ha=>((h.cz x a).1 ha).1) ?_ e1
 cases hI:P.ins x with
 |nil=>trivial
 |cons b z=>rw[<- hI];exact GR h F fun b' w' e'=>by rw[hI];rw[hI]at e';simp only[adA]at e';simp[e'.1]
end
section
variable {g:Gr} {p:Pl} (h:aG g p) (hI:q8 g=true) (hT:cO g= [])
include h hI hT
theorem NL{e f:Int}(he:Ag g e)(hf:Ag g f)(hne:e≠f)(c3:bt g e=bt g f)(hl:(aP g p).Lp (Lf g p) (Rf g p) (Rf g p e) (Lf g p f)):
 (iC g p (bA g e)).1<(iC g p (bA g f)).1/\(iC g p (bA g f)).2<(iC g p (bA g e)).2:=by
 obtain⟨eu,ev,en⟩:=fI h hI he
 obtain⟨ew,ez,fn⟩:=fI h hI hf
 have YO:bA g e≠bA g f:=fun c4=>by
  have e0:=he.1;have e1:=he.2;have f0:=hf.1;have f1:=hf.2
  have:=mI h.1 (i:=e.toNat) (k:=f.toNat) (by omega) (by omega) (afr c3 c4)
  omega
 have j1:¬(aP g p).gD (bA g e) (bA g f):=fun hr=>by
  rcases fc h hI hT hf ev (c3 ▸ Ck h hI he) hr with q|q
  ·exact en (c3.trans q.symm)
  ·exact YO q
 have j2:¬(aP g p).gD (bA g f) (bA g e):=fun hr=>by
  rcases fc h hI hT he ez (c3 ▸ Ck h hI hf) hr with q|q
  ·exact fn (c3.symm.trans q.symm)
  ·exact YO q.symm
 rcases yG h hI hT ev ez j1 j2 with q|q
 ·exact q
 exfalso
 have ok:=nj h hI
 have F:=eA h hI
 have ne:e∈(aP g p).ins (bA g e):=(ok.cz _ _).2 ⟨he,rfl⟩
 have nf:f∈(aP g p).ins (bA g f):=(ok.cz _ _).2 ⟨hf,rfl⟩
 have l2:=xI ok F ((qc h hI ez ev j2 j1).2 q) (.inl nf) (.inl ne)
 exact mz ok F he hf hl l2
theorem NM{e f:Int}(he:Ag g e)(hf:Ag g f)(hne:e≠f)(c3:bA g e=bA g f)(hl:(aP g p).Lp (Lf g p) (Rf g p) (Rf g p e) (Lf g p f)):
 (iC g p (bt g e)).1<(iC g p (bt g f)).1/\(iC g p (bt g f)).2<(iC g p (bt g e)).2:=by
 obtain⟨eu,ev,en⟩:=fI h hI he
 obtain⟨ew,ez,fn⟩:=fI h hI hf
 have ZA:bt g e≠bt g f:=fun c4=>by
  have e0:=he.1;have e1:=he.2;have f0:=hf.1;have f1:=hf.2
  have:=mI h.1 (i:=e.toNat) (k:=f.toNat) (by omega) (by omega) (afr c4 c3)
  omega
 have i1:¬(aP g p).gD (bt g e) (bt g f):=fun hr=>by
  rcases fc h hI hT he ew hr (c3 ▸ Ck h hI hf) with q|q
  ·exact ZA q.symm
  ·exact fn (q.trans c3)
 have i2:¬(aP g p).gD (bt g f) (bt g e):=fun hr=>by
  rcases fc h hI hT hf eu hr (c3 ▸ Ck h hI he) with q|q
  ·exact ZA q
  ·exact en (q.trans c3.symm)
 rcases yG h hI hT eu ew i1 i2 with q|q
 ·exact q
 exfalso
 have ok:=nj h hI
 have F:=eA h hI
 have me:e∈(aP g p).outs (bt g e):=(ok.bI _ _).2 ⟨he,rfl⟩
 have mf:f∈(aP g p).outs (bt g f):=(ok.bI _ _).2 ⟨hf,rfl⟩
 have l1:=xI ok F ((qc h hI ew eu i2 i1).2 q) (.inr mf) (.inr me)
 exact mz ok F he hf hl l1
end
section
variable {g:Gr} {p:Pl} (h:Room g p)
include h
theorem RB:yx g (xS g p):=(VP (GF.2 (HW h))).2
theorem LU{i:Nat}(hi:i<g.es.length):jv (xS g p) (i:Int)=xL g p (bA (fh g p) i):=by
 unfold jv ff
 rw[Int.toNat_natCast]
 rcases oU h hi with ⟨_,_,c2,c3⟩|⟨_,j,_,_,_,_,c2,_,_,c3⟩
 ·rw[c3,c2];rfl
 ·rw[c3,c2];rfl
theorem RC{x:Nat}(hx:x<g.n.toNat):(p.outs.getD x []).Pairwise (mD (xS g p) (x:Int)):=by
 have hr:=Co h
 have hR:=rX h
 have hI:=J6 h
 have hT:=Cn h
 have Fz:fN g (x:Int):=⟨by omega,by omega⟩
 have Ut:=qe h Fz
 have ok:=nj hR hI
 have F:=eA hR hI
 have hn:=e9 (g:=g) (p:=p)
 have YE:bE p (x:Int)=p.outs.getD x []:=by unfold bE;rw[Int.toNat_natCast]
 rw[<- YE]
 by_cases h0:bE p (x:Int)= []
 ·rw[h0];exact List.Pairwise.nil
 have e1:(aP (fh g p) (tL g p)).outs (x:Int)=bE p (x:Int):=by
  rw[eo Ut]
  have e2:bE (tL g p) (x:Int)=bE (bK g p) (x:Int):=by
   unfold bE
   rw[Int.toNat_natCast]
   exact(J7 h).Q5 x (by omega)
  rw[e2,EZ hr (by exact⟨Fz.1,Fz.2⟩),ac9 h0]
 refine Cq fun u e v f w es=> ?_
 have el:∀a∈bE p (x:Int),(0<=a/\a<g.es.length)/\bt (fh g p) a=(x:Int):=fun a ha=>by
  have:=(ok.bI (x:Int) a).1 (by rw[e1];exact ha)
  exact⟨(aX.1 ((aW hr.2.1 Fz.1 Fz.2).mem_iff.1 ha)).1,this.2⟩
 obtain⟨⟨a0,a1⟩,a2⟩:=el e (by rw[es];simp)
 obtain⟨⟨b0,b1⟩,b2⟩:=el f (by rw[es];simp)
 obtain⟨i,rfl⟩:∃i:Nat,e=(i:Int):=⟨e.toNat,by omega⟩
 obtain⟨k,rfl⟩:∃k:Nat,f=(k:Int):=⟨f.toNat,by omega⟩
 have he:=(Cp h (i:=i) (by omega)).1
 have hf:=(Cp h (i:=k) (by omega)).1
 have hlp:=RA ok F (by rw[e1];exact es)
 have bR:(bE p (x:Int)).Nodup:=(aW hr.2.1 Fz.1 Fz.2).nodup_iff.2 b7
 have hne:(i:Int)≠(k:Int):=fun q=>by
  rw[es,q]at bR
  simp[adt]at bR
 obtain⟨q1,q2⟩:=NL hR hI hT he hf hne (a2.trans b2.symm) hlp
 have ue:=rS hR hI he
 have uf:=rS hR hI hf
 rw[a2]at ue
 rw[b2]at uf
 have ex:eD (xS g p) (x:Int)=xL g p (x:Int):=rY h Fz
 unfold mD yy
 rw[ex,LU h (by omega),LU h (by omega)]
 show 0<tm (iC (fh g p) (tL g p) x) (iC (fh g p) (tL g p) (bA (fh g p) k)) (iC (fh g p) (tL g p) x) (iC (fh g p) (tL g p) (bA (fh g p) i))
 generalize iC (fh g p) (tL g p) x=o at*
 generalize iC (fh g p) (tL g p) (bA (fh g p) k)=c at*
 generalize iC (fh g p) (tL g p) (bA (fh g p) i)=d at*
 unfold tm
 have m1:=afm (show 0<c.1 - d.1 by omega) (show 0<d.2 - o.2 by omega)
 have m2:=afm (show 0<d.1 - o.1 by omega) (show 0<d.2 - c.2 by omega)
 have:(c.1 - o.1)*(d.2 - o.2) - (c.2 - o.2)*(d.1 - o.1)=(c.1 - d.1)*(d.2 - o.2)+(d.1 - o.1)*(d.2 - c.2):=by grind
 omega
theorem LV{i:Nat}(hi:i<g.es.length){e x:Int}(hx:fN g x)(he:Ag (fh g p) e)(hd':bA (fh g p) e=x)(hb:rO (aj g p) (cO (aj g p)) e=i):
 ∃j,j+1<(ff (xS g p) (i:Int)).length/\(ff (xS g p) (i:Int)).getD j (0,0)=xL g p (bt (fh g p) e)/\(ff (xS g p) (i:Int)).getD (j+1) (0,0)=xL g p (bA (fh g p) e):=by
 unfold ff
 rw[Int.toNat_natCast]
 have hx1:=hx.2
 have Tp:=kI (g:=aj g p)
 rcases dA (ij h.ok) Tp (J7 h) he.1 he.2 with ⟨h3,h4⟩|⟨k,h3,h6,h7,h4,h5⟩
 ·rw[hb]at h4
  subst h4
  rcases oU h hi with ⟨_,c1,c2,c3⟩|⟨hin,j,_,_,_,c1,c2,_,_,c3⟩
  ·refine⟨0,by rw[c3];simp,by rw[c3,c1];rfl,by rw[c3,c2];rfl⟩
  ·have:=Al h hin
   omega
 ·rw[h7]at hb
  have hin:(i:Int)∈cO (aj g p):=by rw[<- hb];exact h4
  have hk:=gN Tp.nd h3
  rw[hb]at hk
  rcases oU h hi with ⟨hno,_⟩|⟨_,j,hj,_,_,_,_,c4,c5,c3⟩
  ·exact absurd hin hno
  ·have:e=j:=by rw[h6,hj,hk]
   subst this
   refine⟨1,by rw[c3];simp,by rw[c3,c4];rfl,by rw[c3,c5];rfl⟩
theorem TO{x:Int}(hx:fN g x):(dP g p x).Pairwise (LQ (xS g p)):=by
 have hr:=Co h
 have hR:=rX h
 have hI:=J6 h
 have hT:=Cn h
 have Ut:=qe h hx
 have ok:=nj hR hI
 have F:=eA hR hI
 have hle:=J8 h
 have hxA:fN (aj g p) x:=by
  have:=e9 (g:=g) (p:=p)
  have:=hx.1;have:=hx.2
  exact⟨hx.1,by omega⟩
 have e1:(aP (fh g p) (tL g p)).ins x=dP (fh g p) (tL g p) x:=gR Ut
 have base:(dP (fh g p) (tL g p) x).Pairwise fun e f=>rO (aj g p) (cO (aj g p)) e<g.es.length->rO (aj g p) (cO (aj g p)) f<g.es.length->0<=rO (aj g p) (cO (aj g p)) e->0<=rO (aj g p) (cO (aj g p)) f->LQ (xS g p) (rO (aj g p) (cO (aj g p)) e) (rO (aj g p) (cO (aj g p)) f):=by
  refine Cq fun u e v f w es l1 l2 l3 l4=> ?_
  rw[<- e1]at es
  obtain⟨he,a2⟩:=(ok.cz x e).1 (by rw[es];simp)
  obtain⟨hf,b2⟩:=(ok.cz x f).1 (by rw[es];simp)
  have he:Ag (fh g p) e:=he
  have hf:Ag (fh g p) f:=hf
  have a2:bA (fh g p) e=x:=a2
  have b2:bA (fh g p) f=x:=b2
  have hlp:=TN ok F es
  have bR:((aP (fh g p) (tL g p)).ins x).Nodup:=by rw[e1];exact(er hR Ut).1
  have hne:e≠f:=fun q=>by
   rw[es,q]at bR
   simp[adt]at bR
  obtain⟨q1,q2⟩:=NM hR hI hT he hf hne (a2.trans b2.symm) hlp
  obtain⟨i,hi⟩:∃i:Nat,rO (aj g p) (cO (aj g p)) e=(i:Int):=⟨(rO (aj g p) (cO (aj g p)) e).toNat,by omega⟩
  obtain⟨k,hk⟩:∃k:Nat,rO (aj g p) (cO (aj g p)) f=(k:Int):=⟨(rO (aj g p) (cO (aj g p)) f).toNat,by omega⟩
  obtain⟨j,j1,j2,j3⟩:=LV h (i:=i) (by omega) hx he a2 hi
  obtain⟨m,m1,m2,m3⟩:=LV h (i:=k) (by omega) hx hf b2 hk
  have ue:=rS hR hI he
  have uf:=rS hR hI hf
  rw[hi,hk]
  have hxy:(iC (fh g p) (tL g p) (bt (fh g p) e)).2<=(iC (fh g p) (tL g p) (bA (fh g p) f)).2:=by rw[b2, <- a2];omega
  obtain⟨Z,hZ⟩:=zh (p:=iC (fh g p) (tL g p) (bt (fh g p) f)) (q:=iC (fh g p) (tL g p) (bA (fh g p) f)) (y:=((iC (fh g p) (tL g p) (bt (fh g p) e)).2:Rat)) uf.2 (by exact_mod_cast ahc q2) (by exact_mod_cast hxy)
  have hz:=(NC uf.1 uf.2 hZ).1
  refine⟨(iC (fh g p) (tL g p) (bt (fh g p) e)).2,(iC (fh g p) (tL g p) (bt (fh g p) e)).1,Z,⟨j,j1, ?_⟩,⟨m,m1, ?_⟩, ?_⟩
  ·rw[j2,j3]
   exact dr ue.2 eV
  ·rw[m2,m3]
   exact hZ
  ·have:((iC (fh g p) (tL g p) (bt (fh g p) e)).1:Rat)<(iC (fh g p) (tL g p) (bt (fh g p) f)).1:=by exact_mod_cast q1
   grind
 have hmap:=Ts (ij h.ok) (kI (g:=aj g p)) (J7 h) h.h1 h.h2 hxA
 have hs:=Tt h.ok hx
 have hP:(dP (aj g p) (bK g p) x).Pairwise fun (a b:Int)=>a<g.es.length->b<g.es.length->0<=a->0<=b->LQ (xS g p) a b:=by
  rw[<- hmap,aeI]
  exact base
 refine(hP.sublist hs).imp_of_mem fun {a b} ha hb hab=> ?_
 have a1:=((er hr hx).2 a).1 ha
 have b1:=((er hr hx).2 b).1 hb
 exact hab a1.1.2 b1.1.2 a1.1.1 b1.1.1
theorem NN{q:Pl}(hq:ug g (xS g p) q):gr g q=gr g p:=by
 have hr:=Co h
 have hD:=RB h
 have hr':=Hy hD hq
 have hl:p.outs.length=g.n.toNat:=hr.2.1.1
 unfold gr
 rw[hq.len,hl]
 refine ae5 fun x hx=> ?_
 have hx:=adk.1 hx
 have Fz:fN g (x:Int):=⟨by omega,by omega⟩
 rw[Ce hr' hx,Ce hr hx]
 have e1:q.outs.getD x []=p.outs.getD x []:=by
  refine agw (le:=mD (xS g p) (x:Int)) (fun a b _ _ h1 h2=>absurd h2 fun h2=>xw h1 h2) (hq.Lo x hx) (RC h hx) ?_
  exact(hq.outs x hx).trans (hr.2.1.2.2 x hx).symm
 have e2:dP g q (x:Int)=dP g p (x:Int):=by
  obtain⟨n1,m1⟩:=er hr Fz
  obtain⟨n2,m2⟩:=er hr' Fz
  obtain⟨k,hk,ek⟩:=cq hq.ok Fz.1 Fz.2
  have p2:=Ur hr' (Hw hD hq) (k:=k) (by omega)
  rw[ek]at p2
  refine agw (le:=LQ (xS g p)) (fun a b ha hb h1 h2=> ?_) p2 (TO h Fz) ((aeb n2 n1).2 fun e=>by rw[m2,m1])
  exfalso
  have XP:zj g a:=((m2 a).1 ha).1
  have j9:zj g b:=((m1 b).1 hb).1
  obtain⟨y,X,Z,l1,l2,l3⟩:=h1
  obtain⟨z,X2,Z2,l4,l5,l6⟩:=h2
  have:=rN hD XP j9 l1 l2 l3 l5 l4
  grind
 rw[e1,e2]
end
end Go.Ab
end
section
set_option maxHeartbeats 16000000
set_option maxRecDepth 20000
namespace Go.Ab
attribute [local congr] ACall.congr gd.congr Ny.congr vcOps.congr
open Go.Proofs
def ab1(x:Int):Bool:=decide (-4096<=x)&&decide (x<=4096)
def Nr(q:Pt):Prop:=(-4096<=q.1/\q.1<=4096)/\(-4096<=q.2/\q.2<=4096)
def rb(b:Pt):List (Nat × AObj):= [(10000, .rob [eN b.1,eN b.2])]
theorem HX(l:List Int)(hl:l.length<=100000):Spec Tryz.prog 81 (Args [.d (sI l), .d (sI l)]) [] (eB true) []:=by
 cases l with
 |nil=>
  (refine T.h [] [] [.t 4] Tryz.func81 rfl rfl (by kernel_rfl) fun X hX hP hC aA bB=> ?_)
  repeat' (first|refine Rn.p ?_|((first|refine Rs.p ?_|with_reducible intro K hK|(refine hK _ ?_;clear hK K));try simp only[go_sem,simprocAttr]))
  refine ag (ι:=Unit) (fun _=>True) (fun _=>⟨[(0, .d (sI [])),(1, .d (sI [])),(7,eN (0:Nat)),(8,eN (0:Nat))], []⟩) (fun _=>0) () trivial ?_ ?_
  ·refine Le.of ?_ ?_<;>simp[go_sem,simprocAttr]
  rintro _ _
  repeat' (first|refine Rn.p ?_|((first|refine Rs.p ?_|with_reducible intro K hK|(refine hK _ ?_;clear hK K));try simp only[go_sem,simprocAttr]))
 |cons a r=>
  have hCo:=yS [a::r, []] (by simp) (by simp) (by simp at hl ⊢;omega)
  have hE:=ki (a::r) (a::r) (by simp at hl ⊢;omega)
  have e: [a::r, []].flatten=a::r:=by simp
  rw[e]at hCo
  simp only[decide_true]at hE
  generalize hL:a::r=L at*
  have hb:decide ((0:Int)<(L.length:Int))=true:=ac6 (by rw[<- hL];simp)
  have Db:List.take L.length (L.map rI)=L.map rI:=adB (by simp)
  simp only[vL,adC,adO,sI]at hCo
  (refine T.h [] [] [.t 4] Tryz.func81 rfl rfl (by kernel_rfl) fun X hX hP hC aA bB=> ?_)
  repeat' (first|refine Rn.p ?_|((first|refine Rs.p ?_|with_reducible intro K hK|(refine hK _ ?_;clear hK K));try simp only[go_sem,simprocAttr,hb,Db]))
  refine ag (ι:=Unit) (fun _=>True) (fun _=>⟨[(0, .d (sI L)),(1, .d (sI L)),(7,eN L.length),(8,eN (0:Nat))], []⟩) (fun _=>0) () trivial ?_ ?_
  ·refine Le.of ?_ ?_<;>simp[go_sem,simprocAttr,hb,Db]
  rintro _ _
  repeat' (first|refine Rn.p ?_|((first|refine Rs.p ?_|with_reducible intro K hK|(refine hK _ ?_;clear hK K)|(refine dN (hCo) ?_ rfl ?_;(focus(simp only[go_sem,simprocAttr,hb,Db];done)))|refine aa (hE) rfl ?_);try simp only[go_sem,simprocAttr,hb,Db])|with_reducible (first|apply And.intro|refine oD (by kernel_rfl) ?_)|omega)
theorem HY(ls:List (List Int))(hn:ls.length<=1000)(hl:∀l∈ls,l.length<=100000):Spec Tryz.prog 80 (Args [.d (.sl 1 (vI ls)), .d (.sl 1 (vI ls)), .fn 81 [] []]) [] (eB true) []:=by
 (refine T.h [] [] [.t 6] Tryz.func80 rfl rfl (by kernel_rfl) fun X hX hP hC aA bB=> ?_)
 repeat' (first|refine Rn.p ?_|((first|refine Rs.p ?_|with_reducible intro K hK|(refine hK _ ?_;clear hK K));try simp only[go_sem,simprocAttr,vI_length]))
 refine ag (fun k:Nat=>k<=ls.length) (fun k=>⟨[(1, .d (.sl 1 (vI ls))),(2, .fn 81 [] []),(15, .d (.sl 1 (vI ls))),(16,eN ls.length),(17,eN k)], []⟩) (fun k=>ls.length - k) 0 (by omega) ?_ ?_
 ·refine Le.of ?_ ?_<;>simp[go_sem,simprocAttr,vI_length]
 rintro k hk
 rcases adj k ls.length with hlt|hge
 ·have hb:decide ((k:Int)<(ls.length:Int))=true:=ac6 (by omega)
  have hv:=jr (ls:=ls) (k:=k) hlt
  have hT:=HX (ls.getD k []) (hl _ (az hlt))
  repeat' (first|refine Rn.p ?_|((first|refine Rs.p ?_|with_reducible intro K hK|(refine hK _ ?_;clear hK K)|refine aa (hT) rfl ?_);try simp only[go_sem,simprocAttr,vI_length,hb,hv])|with_reducible (apply And.intro)|omega)
  refine⟨k+1,by omega, ?_,by omega⟩
  refine Le.of ?_ ?_<;>simp[go_sem,simprocAttr,vI_length,hb,hv]
 ·have hb:decide ((k:Int)<(ls.length:Int))=false:=ac5 (by omega)
  repeat' (first|refine Rn.p ?_|((first|refine Rs.p ?_|with_reducible intro K hK|(refine hK _ ?_;clear hK K));try simp only[go_sem,simprocAttr,hb]))
theorem J9(ls:List (List Int))(hn:ls.length<=1000)(hl:∀l∈ls,l.length<=100000):Spec Tryz.prog 30 (Args [.d (.sl 1 (vI ls)), .d (.sl 1 (vI ls))]) [] (eB true) []:=by
 have hE:=HY ls hn hl
 (refine T.h [] [] [.t 4] Tryz.func30 rfl rfl (by kernel_rfl) fun X hX hP hC aA bB=> ?_)
 repeat' (first|refine Rn.p ?_|((first|refine Rs.p ?_|with_reducible intro K hK|(refine hK _ ?_;clear hK K)|refine aa (hE) rfl ?_);try simp only[go_sem,simprocAttr]))
theorem NO{k:Nat} :(dD (k+1)).map rI=(dD k).map rI++ [rI (k:Int)]:=by simp[dD,adV]
end Go.Ab
end
