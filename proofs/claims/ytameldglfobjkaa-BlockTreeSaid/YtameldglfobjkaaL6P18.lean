/- A part of the proof. -/
import Derived.Deep.SlicePairs
import Derived.Test.YtameldglfobjkaaL6P17
set_option linter.unusedSimpArgs false
set_option linter.unusedVariables false
section
namespace Go.Ab
open Go.ChangeShapes Go.WideShapes Go.ChangeAt Go.RowKit
theorem mL {H:Type} {enc:TypeId × Value→H} {P:Program} (hl:laidOutB P=true) {W W':World} (hb:Below W.heap.size W W'):
 ∀ {ts:List TypeId} {vs:List Value} {ds:List (DataW H)} {ps:List MemPlace},(ts.all fun t=>P.readableRec t&&decide (t<P.types.size))=true→
   DataW.TrodAll enc P W 0 (fun _=>true) true ts vs ds ps→DataW.TrodAll enc P W' 0 (fun b=>decide (b<W.heap.size)) true ts vs ds ps
 | [], [], [],_,_,h=>h
 |t::ts,v::vs,d::ds,ps,ht,h=>by
  have hlt:=h.lt
  obtain ⟨p,q,h1,h2,rfl⟩:=h
  simp only [List.all_cons,Bool.and_eq_true,decide_eq_true_eq] at ht
  exact ⟨p,q,Below.trod hl ht.1.1 ht.1.2 h1 hb (fun x hx=>hlt x (List.mem_append_left _ hx)),mL hl hb (by simpa using ht.2) h2,rfl⟩
 | [],_::_,_,_,_,h=>h.elim
 | [], [],_::_,_,_,h=>h.elim
 |_::_, [],_,_,_,h=>h.elim
 |_::_,_::_, [],_,_,h=>h.elim
theorem wT {H:Type} {enc:TypeId × Value→H} {P:Program} {W:World} {t e:TypeId} {f0 f1:Field} {fuel:Nat} {v:Value} {x:DataW H × List MemPlace} (ht:P.underlying t=some (.slice e)) (he:P.underlying e=some (.struct #[f0,f1]))
 (ce:P.cellsOf e=2) (o0:f0.offset=0) (o1:f1.offset=1) (c0:P.cellsOf f0.type=1) (c1:P.cellsOf f1.type=1) (i0:P.underlying f0.type=some (.int .i64)) (i1:P.underlying f1.type=some (.int .i64))
 (h:DataW.trod enc P W 0 (fun _=>true) true fuel t [v]=some x):∃es:List Edge,Rd W (o9 W).z v (sE es)∧es.length≤maxLen∧∀p∈es,(-9223372036854775808≤p.1∧p.1≤9223372036854775807)∧(-9223372036854775808≤p.2∧p.2≤9223372036854775807):=by
 rcases Go.Deep.open_slice_pairs ht he ce o0 o1 c0 c1 h with ⟨h1,_⟩|⟨a,len,cap,m,n,V0,V1,D0,D1,P0,P1,h1,_,hlc,A8,hm,_,hc⟩
 ·simp only [List.cons.injEq,and_true] at h1
  exact ⟨[],by rw [h1];exact .nil _ _,by simp,by simp⟩
 ·simp only [List.cons.injEq,and_true] at h1
  simp only [if_true] at hm
  subst hm
  have hx:∀i,i<m→∃q:Int × Int,V0 i= .int .i64 q.1∧V1 i= .int .i64 q.2∧(-9223372036854775808≤q.1∧q.1≤9223372036854775807)∧(-9223372036854775808≤q.2∧q.2≤9223372036854775807):=by
   intro i hi
   obtain ⟨_,_,g3,g4⟩:=hc i hi
   obtain ⟨p,tQ,_,hp2⟩:=DataW.trod_int i0 g3
   obtain ⟨q,qx,_,zx⟩:=DataW.trod_int i1 g4
   simp only [List.cons.injEq,and_true] at tQ qx
   exact ⟨(p,q),tQ,qx,wf_i64 hp2,wf_i64 zx⟩
  rcases Nat.eq_zero_or_pos m with h0|hpos
  ·subst h0
   have:len=0:=by omega
   subst this
   exact ⟨[],by rw [h1];exact .nil _ _,by simp,by simp⟩
  ·obtain ⟨q,hq⟩:=Go.Deep.choose_lt hx
   have yV:a.spot=none:=by
    have:=World.cell?_spot (hc 0 hpos).1
    simpa [Addr.add] using this
   obtain ⟨b,off,sp⟩:=a
   simp only at yV
   subst yV
   have hcell:∀k,k<m*2→W.cell? ⟨b,off+k,none⟩=some (if k % 2=0 then V0 (k / 2) else V1 (k / 2)):=by
    intro k hk
    obtain ⟨g1,g2,_⟩:=hc (k / 2) (by omega)
    simp only [Addr.add_mid,Nat.add_assoc] at g1 g2
    split
    ·rw [← g1];congr 2;omega
    ·rw [← g2];congr 2;omega
   have hz:off+m*2≤(o9 W).z b:=by
    have:=hcell (m*2 - 1) (by omega)
    unfold World.cell? at this
    simp only [o9]
    split at this
    ·rename_i c _ _ hb
     simp only [Option.isSome_none,Bool.false_eq_true,if_false] at this
     have hlt:=(Array.getElem?_eq_some_iff.1 this).1
     simp only [hb];omega
    ·cases this
   refine ⟨(List.range len).map q, ?_,by simp;omega, ?_⟩
   ·rw [h1]
    refine .sl b off len m 2 _ (fun k=>if k % 2=0 then V0 (k / 2) else V1 (k / 2)) (by simp) (by simp [rE]) (by have:=Nat.mul_le_mul_right 2 hlc;omega) hlc (fun k hk=>hcell k (by have:=Nat.mul_le_mul_right 2 hlc;omega)) ?_
    intro i j r y hi hj
    have hil:i<len:=by have:=(List.getElem?_eq_some_iff.1 hi).1;simpa using this
    simp only [List.map_map,List.getElem?_map,List.getElem?_range hil,Option.map_some,Option.some.injEq,Function.comp] at hi
    subst hi
    obtain ⟨e0,e1,_⟩:=hq i (by omega)
    match j,hj with
    |0,hj=>
     simp only [rE,List.getElem?_cons_zero,Option.some.injEq] at hj
     subst hj
     simp only [Nat.add_zero,Nat.mul_mod_left,if_true,Nat.mul_div_cancel _ (show 0<2 by omega),e0]
     exact .sc _ rfl
    |1,hj=>
     simp only [rE,List.getElem?_cons_succ,List.getElem?_cons_zero,Option.some.injEq] at hj
     subst hj
     rw [if_neg (by omega),show (i*2+1) / 2=i from by omega,e1]
     exact .sc _ rfl
    |j+2,hj=>simp [rE] at hj
   ·intro p hp
    obtain ⟨i,hi,rfl⟩:=List.mem_map.1 hp
    have:=List.mem_range.1 hi
    exact (hq i (by omega)).2.2
end Go.Ab
end
section
namespace Go.Ab
open Go.Proofs
attribute [local congr] ACall.congr gd.congr Nx.congr
set_option maxRecDepth 10000
set_option maxHeartbeats 1000000
structure Fr where
 row:List It
 pl:List Int
def Jh (g:Gr) (f:Fr):D:= .pt [sT f.row,vw g,sI f.pl]
def p5 (row:List It) (x:Int):Nat→Int × Int × Int
 |0=>(-1,0,0)
 |k+1=>if (row.getD k (0,0,0)).2.2=x then (if (p5 row x k).1= -1 then (k:Int) else (p5 row x k).1,(k:Int)+1,(p5 row x k).2.2+1) else p5 row x k
def gE (row:List It) (x:Int):Int × Int × Int:=p5 row x row.length
def Ao (x:Int) (t:It):Bool:=decide (t.2.2≠x)&&decide (t.2.2≠ -1)
def CI (row:List It) (x:Int) (a b:Nat):Bool:= !((row.take b).drop a).any (Ao x)
end Go.Ab
end
section
namespace Go.Ab
open Go.Proofs
attribute [local congr] ACall.congr gd.congr Nx.congr
set_option maxRecDepth 10000
set_option maxHeartbeats 2000000
def wU (g:Gr) (f:Fr) (x:Int):Bool:=
 if x<0∨g.n≤x∨x∈f.pl then false else
 decide ((gE f.row x).2.2=((qG (·.2) g x).length:Int))&&(decide ((qG (·.2) g x).length=0)||CI f.row x (gE f.row x).1.toNat (gE f.row x).2.1.toNat)
end Go.Ab
end
section
namespace Go.Ab
open Go.Proofs
attribute [local congr] ACall.congr gd.congr Nx.congr
set_option maxRecDepth 10000
set_option maxHeartbeats 2000000
def CJ (g:Gr) (x:Int) (i:Int):It:=(i,x,(g.es.getD i.toNat (0,0)).2)
def wV (g:Gr) (x:Int) (outs:List Int):List It:=if outs= [] then [(-1,x, -1)] else outs.map (CJ g x)
def Ji (g:Gr) (f:Fr):List (Nat × AObj):= [(10000, .box [.d (sT f.row), .d (vw g), .ref 10001]),(10001, .tip 3 1 (f.pl.map rI))]
end Go.Ab
end
section
namespace Go.Ab
open Go.Proofs
attribute [local congr] ACall.congr gd.congr Nx.congr
set_option maxRecDepth 10000
set_option maxHeartbeats 4000000
def Jj (g:Gr) (f:Fr):List (Nat × AObj):= [(10000, .box [.d (sT f.row), .d (vw g), .ref 10002]),(10002, .tip 3 1 (f.pl.map rI))]
def FC (g:Gr) (f:Fr) (x:Int) (outs:List Int):(List It × Int) × Fr:=
 if wU g f x=false then (([],3),f) else if td outs≠qG (·.1) g x then (([],1),f) else
 (((f.row.take (gE f.row x).2.1.toNat).drop (max (gE f.row x).1 0).toNat,0),⟨f.row.take (max (gE f.row x).1 0).toNat++wV g x outs++f.row.drop (gE f.row x).2.1.toNat,f.pl++ [x]⟩)
end Go.Ab
end
section
namespace Go.Ab
open Go.Proofs
attribute [local congr] ACall.congr gd.congr Nx.congr
set_option maxRecDepth 10000
set_option maxHeartbeats 4000000
def Ap (g:Gr) (f:Fr) (k:Nat):List Int:=((List.range k).filter fun x:Nat=>wU g f (x:Int)).map Int.ofNat
def FD (g:Gr) (f:Fr):List Int:=Ap g f g.n.toNat
end Go.Ab
end
section
namespace Go.Ab
open Go.Proofs
attribute [local congr] ACall.congr gd.congr Nx.congr
set_option maxRecDepth 10000
set_option maxHeartbeats 4000000
def Jk (g:Gr) (f:Fr):List AV:= [eN g.n, .d (sE g.es), .d (sT f.row), .d (sI f.pl)]
def wW (row:List It) (x:Int):Nat→Int
 |0=>0
 |k+1=>if (row.getD k (0,0,0)).2.2=x then wW row x k+1 else wW row x k
def CK (row:List It) (x:Int) (need:Nat) (j:Nat):Bool:=decide ((row.getD j (0,0,0)).2.2≠x)&&decide (0≤(row.getD j (0,0,0)).1)&&decide (0<wW row x j)&&decide (wW row x j<need)
def sG (g:Gr) (x:Int):Nat:=(vp (·.2) g.es g.es.length x).length
def kC (g:Gr) (f:Fr) (x:Int):Bool:=
 if x<0∨g.n≤x∨x∈f.pl then false else if sG g x=0 then true else
 !(List.range f.row.length).any (CK f.row x (sG g x))&&decide (wW f.row x f.row.length=sG g x)
end Go.Ab
end
section
namespace Go.Ab
open Go.Proofs
attribute [local congr] ACall.congr gd.congr Nx.congr
set_option maxRecDepth 10000
set_option maxHeartbeats 4000000
end Go.Ab
end
section
namespace Go.Ab
open Go.Proofs
attribute [local congr] ACall.congr gd.congr Nx.congr
set_option maxRecDepth 10000
set_option maxHeartbeats 8000000
def nS (g:Gr) (x:Int):List Int:=vp (·.1) g.es g.es.length x
def p6 (g:Gr) (f:Fr) (x:Int) (outs:List Int):(List It × Int) × Fr:=
 (((f.row.take (gE f.row x).2.1.toNat).drop (max (gE f.row x).1 0).toNat,0),⟨f.row.take (max (gE f.row x).1 0).toNat++wV g x outs++f.row.drop (gE f.row x).2.1.toNat,f.pl++ [x]⟩)
def yq (g:Gr) (f:Fr) (x:Int) (outs:List Int):(List It × Int) × Fr:=
 if kC g f x=false then (([],3),f) else
 if outs.length≠(nS g x).length∨∃i∈nS g x,i∉outs then (([],1),f) else p6 g f x outs
end Go.Ab
end
section
namespace Go.Ab
open Go.Proofs
attribute [local congr] ACall.congr gd.congr Nx.congr
set_option maxRecDepth 10000
set_option maxHeartbeats 4000000
def vI (ls:List (List Int)):List (List D):=ls.map fun l=> [sI l]
theorem vI_length {ls:List (List Int)} :(vI ls).length=ls.length:=by simp [vI]
attribute [go_sem] vI_length
def sH (l:List Int) (i:Nat):List Int:=l.take i++l.drop (i+1)
def yu:Nat→List Int→List (List Int)
 |0,_=> [[]]
 |n+1,l=>(List.range l.length).flatMap fun i=>(yu n (sH l i)).map fun t=>l.getD i 0::t
def Iv (n:Nat) (l:List Int) (k:Nat):List (List Int):=(List.range k).flatMap fun i=>(yu n (sH l i)).map fun t=>l.getD i 0::t
def Iw:Nat→Nat
 |0=>1
 |n+1=>(n+1)*Iw n
end Go.Ab
end
section
namespace Go.Ab
open Go.Proofs
attribute [local congr] ACall.congr gd.congr Nx.congr
set_option maxRecDepth 10000
set_option maxHeartbeats 8000000
def CL (g:Gr):Nat→Fr→Bool
 |0,f=>decide ((f.pl.length:Int)=g.n)
 |m+1,f=>decide ((f.pl.length:Int)=g.n)||(List.range g.n.toNat).any fun x=>kC g f (x:Int)&&(yu (nS g (x:Int)).length (nS g (x:Int))).any fun o=>CL g m (p6 g f (x:Int) o).2
def Iy (g:Gr) (m:Nat) (f:Fr) (x:Nat):Bool:=kC g f (x:Int)&&(yu (nS g (x:Int)).length (nS g (x:Int))).any fun o=>CL g m (p6 g f (x:Int) o).2
end Go.Ab
end
section
namespace Go.Ab
open Go.Proofs
attribute [local congr] ACall.congr gd.congr Nx.congr
set_option maxRecDepth 10000
set_option maxHeartbeats 4000000
end Go.Ab
end
section
namespace Go.Ab
open Go.Proofs
attribute [local congr] ACall.congr gd.congr Nx.congr
set_option maxRecDepth 10000
set_option maxHeartbeats 4000000
def g9:Gr:=⟨3, [(0,1),(0,2),(1,2)]⟩
def Jl:Fr:=⟨[], []⟩
def Jm:Fr:=⟨[(0,0,1),(1,0,2)], [0]⟩
def Jn:Fr:=⟨[(2,1,2),(1,0,2)], [0,1]⟩
def Jo:Fr:=⟨[(-1,2, -1)], [0,1,2]⟩
end Go.Ab
end
section
namespace Go.Ab
open Go.Proofs
set_option maxRecDepth 10000
def Aq (g:Gr) (t:It):Prop:=(t.1= -1∧t.2.2= -1)∨(0≤t.1∧t.1<g.es.length∧t.2.1=(g.es.getD t.1.toNat (0,0)).1∧t.2.2=(g.es.getD t.1.toNat (0,0)).2)
structure CM (g:Gr) (f:Fr):Prop where
 it:∀t∈f.row,Aq g t
 pl:f.pl.Nodup
 Jp:∀x∈f.pl,0≤x∧x<g.n
theorem Aq.head {g:Gr} (hm:aT g=true) {t:It} (h:Aq g t):(0≤t.1↔t.2.2≠ -1)∧ -1≤t.2.2:=by
 rcases h with ⟨h1,h2⟩|⟨h1,h2,_,h4⟩
 ·omega
 ·obtain ⟨_,h5,_⟩:=dU hm (k:=t.1.toNat) (by omega)
  omega
end Go.Ab
end
section
namespace Go.Ab
open Go.Proofs
set_option maxRecDepth 10000
def Jq (x:Int) (t:It):Bool:=decide (t.2.2=x)
structure Dm (x:Int) (X:List It):Prop where
 fst:∃p X',X=p::X'∧p.2.2=x
 AG:∃X' q,X=X'++ [q]∧q.2.2=x
 al:∀t∈X,t.2.2=x∨t.2.2= -1
def tN (x:Int) (l:List It):Prop:=∀t∈l,t.2.2≠x
theorem tN.app {x:Int} {l m:List It} (h:tN x l) (h':tN x m):tN x (l++m):=fun t ht=>(List.mem_append.1 ht).elim (h t) (h' t)
theorem tN.left {x:Int} {l m:List It} (h:tN x (l++m)):tN x l:=fun t ht=>h t (List.mem_append.2 (.inl ht))
theorem tN.right {x:Int} {l m:List It} (h:tN x (l++m)):tN x m:=fun t ht=>h t (List.mem_append.2 (.inr ht))
theorem Dm.GI {x y:Int} {X:List It} (h:Dm x X) (hxy:x≠y) (hy:0≤y):tN y X:=fun t ht e=>by
 rcases h.al t ht with h1|h1<;>omega
end Go.Ab
end
section
namespace Go.Ab
open Go.Proofs
set_option maxRecDepth 10000
structure Jr (g:Gr) (f:Fr):Prop extends CM g f where
 tail:∀t∈f.row,0≤t.1→t.2.1∈f.pl
 head:∀t∈f.row,0≤t.1→t.2.2∉f.pl
 once:f.row.Pairwise fun s t=>0≤s.1→s.1≠t.1
 low:∀i,i<g.es.length→hd g i∈f.pl→tl g i∈f.pl
 src:(f.pl= []∧f.row= [])∨∃s∈f.pl,sG g s=0
theorem apart {x y:Int} (hx:0≤x) (hy:0≤y) (hxy:x≠y) {A X C B Y D:List It} (h:A++X++C=B++Y++D) (hX:Dm x X) (hY:Dm y Y):
 (∃M,B=A++X++M∧C=M++Y++D)∨(∃M,A=B++Y++M∧D=M++X++C):=by
 obtain ⟨p,X',Iz,hp⟩:=hX.fst
 obtain ⟨q,Y',IA,hq⟩:=hY.fst
 have nX:q∉X:=fun h=>hX.GI hxy hy q h hq
 have nY:p∉Y:=fun h=>hY.GI (Ne.symm hxy) hx p h hp
 rw [show B++Y++D=B++(Y++D) by simp,List.append_eq_append_iff] at h
 rcases h with ⟨es,h1,h2⟩|⟨cs,h1,h2⟩
 ·exact .inl ⟨es,h1,by rw [h2];simp⟩
 ·match cs,h1,h2 with
  | [],h1,h2=>exact .inl ⟨[],by simpa using h1.symm,by simpa using h2.symm⟩
  |c::cs,h1,h2=>
   have De:c=q:=by rw [IA] at h2;simp at h2;exact h2.1.symm
   rw [List.append_eq_append_iff] at h1
   rcases h1 with ⟨es,h3,h4⟩|⟨ds,h3,h4⟩
   ·exfalso;refine nX ?_
    rw [h4, ← De];simp
   ·rw [h4,List.append_assoc,List.append_eq_append_iff] at h2
    rcases h2 with ⟨es,h5,h6⟩|⟨bs,h5,h6⟩
    ·exact .inr ⟨es,by rw [h3,h5];simp,by rw [h6];simp⟩
    ·match bs,h5,h6 with
     | [],h5,h6=>exact .inr ⟨[],by rw [h3,h5];simp,by simpa using h6.symm⟩
     |b::bs,h5,h6=>
      exfalso;refine nY ?_
      have Ct:b=p:=by rw [Iz] at h6;simp at h6;exact h6.1.symm
      rw [h5, ← Ct];simp
end Go.Ab
end
section
namespace Go.Ab
open Go.Proofs
attribute [local congr] ACall.congr gd.congr Nx.congr
set_option maxRecDepth 10000
set_option maxHeartbeats 4000000
def sJ (row:List It) (a b:Int):Nat→Int × Int
 |0=>(-1,0)
 |k+1=>if ((row.getD k (0,0,0)).2.2=a∨(row.getD k (0,0,0)).2.2=b)∧(row.getD k (0,0,0)).2.2≠(sJ row a b k).1 then ((row.getD k (0,0,0)).2.2,(sJ row a b k).2+1) else sJ row a b k
end Go.Ab
end
section
namespace Go.Ab
open Go.Proofs
attribute [local congr] ACall.congr gd.congr Nx.congr
set_option maxRecDepth 10000
set_option maxHeartbeats 4000000
def AT (row:List It) (i:Nat):Int:=(row.getD i (0,0,0)).2.2
def FE (row:List It) (i j:Nat):Bool:=decide (AT row i≠ -1)&&decide (AT row j≠ -1)&&decide (AT row i≠AT row j)&&decide (4≤(sJ row (AT row i) (AT row j) row.length).2)
def GJ (row:List It):Bool:=(List.range row.length).any fun i=>(List.range row.length).any (FE row i)
end Go.Ab
end
section
namespace Go.Ab
open Go.Proofs
attribute [local congr] ACall.congr gd.congr Nx.congr
set_option maxRecDepth 10000
set_option maxHeartbeats 8000000
def T4 (row:List It) (a b c d:Nat):Prop:=0≤(row.getD a (0,0,0)).2.2∧0≤(row.getD b (0,0,0)).2.2∧(row.getD a (0,0,0)).2.2≠(row.getD b (0,0,0)).2.2∧(row.getD a (0,0,0)).2.2=(row.getD c (0,0,0)).2.2∧(row.getD b (0,0,0)).2.2=(row.getD d (0,0,0)).2.2
def IB (row:List It):Prop:=∃a b c d,a<b∧b<c∧c<d∧d<row.length∧T4 row a b c d
end Go.Ab
end
section
namespace Go.Ab
open Go.Proofs
set_option maxRecDepth 10000
def Tg (a b:Int) (row:List It):Prop:=∃l:List It,l.Sublist row∧l.map (fun t=>t.2.2)= [a,b,a,b]
def wX (a b:Int) (t:It):Bool:=decide (t.2.2=a)||decide (t.2.2=b)
theorem Tg.FF {a b:Int} {row:List It} :Tg a b row↔Tg a b (row.filter (wX a b)):=by
 constructor
 ·rintro ⟨l,h,e⟩
  refine ⟨l, ?_,e⟩
  have h1:=h.filter (wX a b)
  rw [List.filter_eq_self.2] at h1
  ·exact h1
  ·intro t ht
   have:t.2.2∈l.map (fun t=>t.2.2):=List.mem_map.2 ⟨t,ht,rfl⟩
   rw [e] at this
   simp only [wX,Bool.or_eq_true,decide_eq_true_eq]
   simp only [List.mem_cons,List.not_mem_nil,or_false] at this
   omega
 ·rintro ⟨l,h,e⟩
  exact ⟨l,h.trans List.filter_sublist,e⟩
theorem Tg.keep {a b x:Int} (ha:0≤a) (hb:0≤b) (yE:a≠x) (qf:b≠x) {A X C u:List It} (hX:∀t∈X,t.2.2=x∨t.2.2= -1) (h:Tg a b (A++X++C)):Tg a b (A++u++C):=by
 rw [Tg.FF] at h ⊢
 obtain ⟨l,h,e⟩:=h
 refine ⟨l,h.trans ?_,e⟩
 rw [List.filter_append,List.filter_append,List.filter_append,List.filter_append]
 have:X.filter (wX a b)= []:=List.filter_eq_nil_iff.2 fun t ht=>by
  simp only [wX,Bool.or_eq_true,decide_eq_true_eq]
  rcases hX t ht with h|h<;>omega
 rw [this,List.append_nil]
 exact List.Sublist.append_right (List.sublist_append_left _ _) _
theorem Tg.not {a b x:Int} (hab:a≠b) (hb0:0≤b) (ha0:0≤a) (hx:x=a∨x=b) {A X C:List It} (hA:tN x A) (hC:tN x C) (hX:∀t∈X,t.2.2=x∨t.2.2= -1):¬Tg a b (A++X++C):=by
 rintro ⟨l,h,e⟩
 rw [List.append_assoc,List.sublist_append_iff] at h
 obtain ⟨l1,l',rfl,h1,h'⟩:=h
 rw [List.sublist_append_iff] at h'
 obtain ⟨l2,l3,rfl,h2,h3⟩:=h'
 have k1:∀t∈l1,t.2.2≠x:=fun t ht=>hA t (h1.subset ht)
 have k2:∀t∈l2,t.2.2=x∨t.2.2= -1:=fun t ht=>hX t (h2.subset ht)
 have k3:∀t∈l3,t.2.2≠x:=fun t ht=>hC t (h3.subset ht)
 clear h1 h2 h3
 match l1,k1,e with
 |t1::t2::_,k1,e=>
  simp only [List.cons_append,List.map_cons,List.cons.injEq] at e
  rcases hx with h|h
  ·exact k1 t1 (by simp) (by omega)
  ·exact k1 t2 (by simp) (by omega)
 | [t1],k1,e=>
   simp only [List.cons_append,List.nil_append,List.map_cons,List.cons.injEq] at e
   rcases hx with h|h
   ·exact k1 t1 (by simp) (by omega)
   ·match l2,k2,e with
    | [],_,e=>
      match l3,k3,e with
      | [s1,s2,s3],k3,e=>
        simp only [List.nil_append,List.map_cons,List.map_nil,List.cons.injEq,and_true] at e
        exact k3 s1 (by simp) (by omega)
      | [],_,e=>simp at e
      | [_],_,e=>simp at e
      | [_,_],_,e=>simp at e
      |_::_::_::_::_,_,e=>simp at e
    |s1::s2::_,k2,e=>
     simp only [List.cons_append,List.map_cons,List.cons.injEq] at e
     rcases k2 s2 (by simp) with h|h<;>omega
    | [s1],k2,e=>
      match l3,k3,e with
      | [u1,u2],k3,e=>
        simp only [List.cons_append,List.nil_append,List.map_cons,List.map_nil,List.cons.injEq,and_true] at e
        exact k3 u2 (by simp) (by omega)
      | [],_,e=>simp at e
      | [_],_,e=>simp at e
      |_::_::_::_,_,e=>simp at e
 | [],_,e=>
   simp only [List.nil_append] at e
   match l2,k2,e with
   | [],_,e=>
     match l3,k3,e with
     | [],_,e=>simp at e
     | [_],_,e=>simp at e
     |s1::s2::_,k3,e=>
      simp only [List.nil_append,List.map_cons,List.cons.injEq] at e
      rcases hx with h|h
      ·exact k3 s1 (by simp) (by omega)
      ·exact k3 s2 (by simp) (by omega)
   |s1::s2::_,k2,e=>
    simp only [List.cons_append,List.map_cons,List.cons.injEq] at e
    have q1:=k2 s1 (by simp)
    have q2:=k2 s2 (by simp)
    omega
   | [s1],k2,e=>
     match l3,k3,e with
     | [],_,e=>simp at e
     | [_],_,e=>simp at e
     | [_,_],_,e=>simp at e
     |u1::u2::u3::_,k3,e=>
      simp only [List.cons_append,List.nil_append,List.map_cons,List.cons.injEq] at e
      have q1:=k2 s1 (by simp)
      exact k3 u2 (by simp) (by omega)
end Go.Ab
end
section
namespace Go.Ab
open Go.Proofs
set_option maxRecDepth 10000
def FG (a b:Int):List It→Prop
 | []=>True
 | [t]=>t.2.2=a∨t.2.2=b
 |s::t::l=>(s.2.2=a∨s.2.2=b)∧s.2.2≠t.2.2∧FG a b (t::l)
end Go.Ab
end
section
namespace Go.Ab
open Go.Proofs
attribute [local congr] ACall.congr gd.congr Nx.congr
set_option maxRecDepth 10000
end Go.Ab
end
section
namespace Go.Ab
open Go.Proofs
attribute [local congr] ACall.congr gd.congr Nx.congr
set_option maxRecDepth 10000
def FH (g:Gr) (out:List Int) (x:Nat) (i:Nat):Bool:=(List.range i).all fun j=> !decide (hd g j=(x:Int))||decide (tl g j∈out)
def IC (g:Gr) (out:List Int) (k:Nat) (f:Bool):Prop:=k≤g.n.toNat∧(if f then 0<k∧wt g out (k - 1)=0∧∀j,j<k - 1→wt g out j≠0 else ∀j,j<k→wt g out j≠0)
def ID (out:List Int) (k:Nat) (f:Bool):List Int:=if f then out++ [((k - 1:Nat):Int)] else out
end Go.Ab
end
section
namespace Go.Ab
open Go.Proofs
attribute [local congr] ACall.congr gd.congr Nx.congr
set_option maxRecDepth 10000
end Go.Ab
end
section
namespace Go.Ab
open Go.Proofs
set_option maxRecDepth 10000
structure Pl where
 ord:List Int
 outs:List (List Int)
def Ar (p:Pl) (k:Nat):Int:=p.ord.getD k 0
def GK (p:Pl) (x:Int):List Int:=p.outs.getD x.toNat []
def As (g:Gr) (p:Pl):Prop:=p.outs.length=g.n.toNat∧p.ord.Perm (E7 g.n.toNat)∧∀x:Nat,x<g.n.toNat→(p.outs.getD x []).Perm (nS g x)
def fK (g:Gr) (p:Pl):Nat→Fr
 |0=>⟨[], []⟩
 |k+1=>(p6 g (fK g p k) (Ar p k) (GK p (Ar p k))).2
def yW (g:Gr) (p:Pl) (k:Nat):List It:=(p6 g (fK g p k) (Ar p k) (GK p (Ar p k))).1.1
def GL (g:Gr) (p:Pl) (k:Nat):Bool:=kC g (fK g p k) (Ar p k)
def CN (g:Gr) (p:Pl):Nat→List (List It)
 |0=>List.replicate g.n.toNat []
 |k+1=>(CN g p k).set (Ar p k).toNat (yW g p k)
def yX (g:Gr) (p:Pl):Nat→Option Nat
 |0=>none
 |k+1=>match yX g p k with
  |some i=>some i
  |none=>if GL g p k=true then none else some k
def GM (g:Gr) (p:Pl):Prop:=(B3 g).1=0∧As g p∧∀k,k<g.n.toNat→GL g p k=true
end Go.Ab
end
section
namespace Go.Ab
open Go.Proofs
set_option maxRecDepth 10000
def loose (l:List It):List Int:=(l.filter fun t=>decide (t.1<0)).map fun t=>t.2.1
def CO (g:Gr) (p:Pl):Nat→List Edge
 |0=> []
 |k+1=>CO g p k++(loose (yW g p k)).map fun v=>(v,Ar p k)
def p7 (g:Gr) (p:Pl):List It:=(fK g p g.n.toNat).row
def newL (g:Gr) (p:Pl):List Edge:=if 1<(p7 g p).length then (loose (p7 g p)).map fun v=>(v,g.n) else []
def CP (g:Gr) (p:Pl):List Edge:=CO g p g.n.toNat++newL g p
def Au (g:Gr) (p:Pl):Gr:=⟨if 1<(p7 g p).length then g.n+1 else g.n,g.es++CP g p⟩
def CQ:Nat→List Edge→List (List Int)→List (List Int)
 |_, [],O=>O
 |m,e::N,O=>CQ (m+1) N (O.set e.1.toNat [(m:Int)])
def FI (g:Gr) (p:Pl):Pl:=⟨if 1<(p7 g p).length then p.ord++ [g.n] else p.ord,CQ g.es.length (CP g p) (if 1<(p7 g p).length then p.outs++ [[]] else p.outs)⟩
def IE (g:Gr) (p:Pl) (x:Gr):List (List Int):=(List.range x.n.toNat).map fun v=>if 0<(p.outs.getD v []).length then p.outs.getD v [] else nS x (v:Int)
end Go.Ab
end
section
namespace Go.Ab
open Go.Proofs
set_option maxRecDepth 10000
abbrev Act:=Int × List Int
def rA (a:Act):List D:= [.sc (.int .i64 a.1),sI a.2]
def sA (as':List Act):D:= .sl 2 (as'.map rA)
attribute [go_sem] sA
def CR (g:Gr) (Av:List Act):Nat→Fr
 |0=>⟨[], []⟩
 |k+1=>(yq g (CR g Av k) (Av.getD k (0, [])).1 (Av.getD k (0, [])).2).2
end Go.Ab
end
section
namespace Go.Ab
open Go.Proofs
attribute [local congr] ACall.congr gd.congr Nx.congr
set_option maxRecDepth 10000
set_option maxHeartbeats 4000000
def ePl (p:Pl):AV:= .agg [.d (sI p.ord), .d (.sl 1 (vI p.outs))]
attribute [go_sem] ePl
structure GN (p:Pl):Prop where
 ord:p.ord.length≤17592186043904
 outs:p.outs.length≤9223372036854775807
 each:∀l∈p.outs,l.length≤17592186043904
end Go.Ab
end
section
namespace Go.Ab
open Go.Proofs
attribute [local congr] ACall.congr gd.congr Nx.congr
set_option maxRecDepth 10000
set_option maxHeartbeats 8000000
def IF (m:Nat) (fl:List Int):List Int:=(List.range m).map fun i:Nat=>if (i:Int)∈fl then (1:Int) else 0
end Go.Ab
end
section
namespace Go.Ab
open Go.Proofs
attribute [local congr] ACall.congr gd.congr Nx.congr
set_option maxRecDepth 10000
set_option maxHeartbeats 8000000
def Aw (b:Bool) (g:Gr) (p:Pl):(List (List It) × List It) × Int × Int:=
 if b=false then (([], []),(1,0)) else
 match yX g p g.n.toNat with
 |some i=>(([], []),(3,(i:Int)))
 |none=>((CN g p g.n.toNat,(fK g p g.n.toNat).row),(0,0))
end Go.Ab
end
section
namespace Go.Ab
open Go.Proofs
attribute [local congr] ACall.congr gd.congr Nx.congr
set_option maxRecDepth 10000
set_option maxHeartbeats 8000000
end Go.Ab
end
section
namespace Go.Ab
open Go.Proofs
attribute [local congr] ACall.congr gd.congr Nx.congr
set_option maxRecDepth 10000
set_option maxHeartbeats 8000000
def Js (n:Int) (es:List Edge) (ord:List Int) (O:List (List Int)):List (Nat × AObj):= [(10000, .box [eN n, .ref 10001, .ref 10002, .ref 10003]),(10001, .tip 42 2 (es.map rE)),(10002, .tip 3 1 (ord.map rI)),(10003, .own 25 1 (vI O))]
def Jt (n:Int) (es:List Edge) (ord:List Int) (O:List (List Int)):List (Nat × AObj):= [(10000, .box [eN n, .ref 10004, .ref 10002, .ref 10003]),(10004, .tip 42 2 (es.map rE)),(10002, .tip 3 1 (ord.map rI)),(10003, .own 25 1 (vI O))]
def IG (x:Int) (items:List It):List Edge:=(loose items).map fun v=>(v,x)
end Go.Ab
end
section
namespace Go.Ab
open Go.Proofs
attribute [local congr] ACall.congr gd.congr Nx.congr
set_option maxRecDepth 10000
set_option maxHeartbeats 16000000
def pz:Pl:=⟨[], []⟩
def II (b:Bool) (g:Gr) (p:Pl):Gr × Pl × Int:=
 if (Aw b g p).2.1≠0 then (gz,pz,1) else if 64<(Au g p).n∨128<(Au g p).es.length then (gz,pz,10) else (Au g p,FI g p,0)
end Go.Ab
end
section
namespace Go.Ab
open Go.Proofs
attribute [local congr] ACall.congr gd.congr Nx.congr
set_option maxRecDepth 10000
set_option maxHeartbeats 16000000
def IJ (p:Pl) (x:Gr) (k:Nat):List (List Int):=(List.range k).map fun v=>if 0<(p.outs.getD v []).length then p.outs.getD v [] else nS x (v:Int)
end Go.Ab
end
section
namespace Go.Ab
open Go.Proofs
attribute [local congr] ACall.congr gd.congr Nx.congr
set_option maxRecDepth 10000
set_option maxHeartbeats 8000000
def IK (g:Gr) (p:Pl):Bool:=decide (200<g.es.length)||decide (100<p.ord.length)||decide (100<p.outs.length)||p.outs.any fun l=>decide (200<l.length)
structure GO (p:Pl):Prop where
 ord:p.ord.length≤9223372036854775807
 outs:p.outs.length≤9223372036854775807
 each:∀l∈p.outs,l.length≤9223372036854775807
def Ju (g:Gr):Bool:=decide ((B3 g).1=0)&&decide ((vl (·.1) g).length=1)
end Go.Ab
end
section
namespace Go.Ab
open Go.Proofs
attribute [local congr] ACall.congr gd.congr Nx.congr
set_option maxRecDepth 10000
set_option maxHeartbeats 8000000
def g16:Gr:=⟨3, [(0,1),(0,2)]⟩
def Jv:Pl:=⟨[0,1,2], [[0,1], [], []]⟩
def Jw:Gr:=⟨4, [(0,1),(0,2),(1,3),(2,3)]⟩
def Jy:Pl:=⟨[0,1,2,3], [[0,1], [2], [3], []]⟩
end Go.Ab
end
section
namespace Go.Ab
open Go.ChangeShapes Go.WideShapes Go.ChangeAt Go.RowKit
end Go.Ab
end
