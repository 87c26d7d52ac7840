/- A part of the proof. -/
import Derived.Deep.SlicePairs
import Derived.Test.YtameldglfobjkaaL5P17
set_option linter.unusedSimpArgs false
set_option linter.unusedVariables false
section
namespace Go.Ab
open Go.ChangeShapes Go.WideShapes Go.ChangeAt Go.RowKit
theorem lU {H:Type} {enc:TypeId × Value→H} {P:Program} (hl:laidOutB P=true) {W W':World} (hb:Below W.heap.size W W'):
 ∀ {ts:List TypeId} {vs:List Value} {ds:List (DataW H)} {ps:List MemPlace},(ts.all fun t=>P.readableRec t&&decide (t<P.types.size))=true→
   DataW.TrodAll enc P W 0 (fun _=>true) true ts vs ds ps→DataW.TrodAll enc P W' 0 (fun b=>decide (b<W.heap.size)) true ts vs ds ps
 | [], [], [],_,_,h=>h
 |t::ts,v::vs,d::ds,ps,ht,h=>by
  have hlt:=h.lt
  obtain ⟨p,q,h1,h2,rfl⟩:=h
  simp only [List.all_cons,Bool.and_eq_true,decide_eq_true_eq] at ht
  exact ⟨p,q,Below.trod hl ht.1.1 ht.1.2 h1 hb (fun x hx=>hlt x (List.mem_append_left _ hx)),lU hl hb (by simpa using ht.2) h2,rfl⟩
 | [],_::_,_,_,_,h=>h.elim
 | [], [],_::_,_,_,h=>h.elim
 |_::_, [],_,_,_,h=>h.elim
 |_::_,_::_, [],_,_,h=>h.elim
theorem u6 {H:Type} {enc:TypeId × Value→H} {P:Program} {W:World} {t e:TypeId} {f0 f1:Field} {fuel:Nat} {v:Value} {x:DataW H × List MemPlace} (ht:P.underlying t=some (.slice e)) (he:P.underlying e=some (.struct #[f0,f1]))
 (ce:P.cellsOf e=2) (o0:f0.offset=0) (o1:f1.offset=1) (c0:P.cellsOf f0.type=1) (c1:P.cellsOf f1.type=1) (i0:P.underlying f0.type=some (.int .i64)) (i1:P.underlying f1.type=some (.int .i64))
 (h:DataW.trod enc P W 0 (fun _=>true) true fuel t [v]=some x):∃es:List Edge,Rd W (nT W).z v (sE es)∧es.length≤maxLen∧∀p∈es,(-9223372036854775808≤p.1∧p.1≤9223372036854775807)∧(-9223372036854775808≤p.2∧p.2≤9223372036854775807):=by
 rcases Go.Deep.open_slice_pairs ht he ce o0 o1 c0 c1 h with ⟨h1,_⟩|⟨a,len,cap,m,n,V0,V1,D0,D1,P0,P1,h1,_,hlc,zx,hm,_,hc⟩
 ·simp only [List.cons.injEq,and_true] at h1
  exact ⟨[],by rw [h1];exact .nil _ _,by simp,by simp⟩
 ·simp only [List.cons.injEq,and_true] at h1
  simp only [if_true] at hm
  subst hm
  have hx:∀i,i<m→∃q:Int × Int,V0 i= .int .i64 q.1∧V1 i= .int .i64 q.2∧(-9223372036854775808≤q.1∧q.1≤9223372036854775807)∧(-9223372036854775808≤q.2∧q.2≤9223372036854775807):=by
   intro i hi
   obtain ⟨_,_,g3,g4⟩:=hc i hi
   obtain ⟨p,pE,_,hp2⟩:=DataW.trod_int i0 g3
   obtain ⟨q,q9,_,x2⟩:=DataW.trod_int i1 g4
   simp only [List.cons.injEq,and_true] at pE q9
   exact ⟨(p,q),pE,q9,wf_i64 hp2,wf_i64 x2⟩
  rcases Nat.eq_zero_or_pos m with h0|hpos
  ·subst h0
   have:len=0:=by omega
   subst this
   exact ⟨[],by rw [h1];exact .nil _ _,by simp,by simp⟩
  ·obtain ⟨q,hq⟩:=Go.Deep.choose_lt hx
   have xz:a.spot=none:=by
    have:=World.cell?_spot (hc 0 hpos).1
    simpa [Addr.add] using this
   obtain ⟨b,off,sp⟩:=a
   simp only at xz
   subst xz
   have hcell:∀k,k<m*2→W.cell? ⟨b,off+k,none⟩=some (if k % 2=0 then V0 (k / 2) else V1 (k / 2)):=by
    intro k hk
    obtain ⟨g1,g2,_⟩:=hc (k / 2) (by omega)
    simp only [Addr.add_mid,Nat.add_assoc] at g1 g2
    split
    ·rw [← g1];congr 2;omega
    ·rw [← g2];congr 2;omega
   have hz:off+m*2≤(nT W).z b:=by
    have:=hcell (m*2 - 1) (by omega)
    unfold World.cell? at this
    simp only [nT]
    split at this
    ·rename_i c _ _ hb
     simp only [Option.isSome_none,Bool.false_eq_true,if_false] at this
     have hlt:=(Array.getElem?_eq_some_iff.1 this).1
     simp only [hb];omega
    ·cases this
   refine ⟨(List.range len).map q, ?_,by simp;omega, ?_⟩
   ·rw [h1]
    refine .sl b off len m 2 _ (fun k=>if k % 2=0 then V0 (k / 2) else V1 (k / 2)) (by simp) (by simp [rE]) (by have:=Nat.mul_le_mul_right 2 hlc;omega) hlc (fun k hk=>hcell k (by have:=Nat.mul_le_mul_right 2 hlc;omega)) ?_
    intro i j r y hi hj
    have hil:i<len:=by have:=(List.getElem?_eq_some_iff.1 hi).1;simpa using this
    simp only [List.map_map,List.getElem?_map,List.getElem?_range hil,Option.map_some,Option.some.injEq,Function.comp] at hi
    subst hi
    obtain ⟨e0,e1,_⟩:=hq i (by omega)
    match j,hj with
    |0,hj=>
     simp only [rE,List.getElem?_cons_zero,Option.some.injEq] at hj
     subst hj
     simp only [Nat.add_zero,Nat.mul_mod_left,if_true,Nat.mul_div_cancel _ (show 0<2 by omega),e0]
     exact .sc _ rfl
    |1,hj=>
     simp only [rE,List.getElem?_cons_succ,List.getElem?_cons_zero,Option.some.injEq] at hj
     subst hj
     rw [if_neg (by omega),show (i*2+1) / 2=i from by omega,e1]
     exact .sc _ rfl
    |j+2,hj=>simp [rE] at hj
   ·intro p hp
    obtain ⟨i,hi,rfl⟩:=List.mem_map.1 hp
    have:=List.mem_range.1 hi
    exact (hq i (by omega)).2.2
end Go.Ab
end
section
namespace Go.Ab
open Go.Proofs
attribute [local congr] ACall.congr gd.congr Nx.congr
set_option maxRecDepth 10000
set_option maxHeartbeats 1000000
structure Fr where
 row:List It
 pl:List Int
def HD (g:Gr) (f:Fr):D:= .pt [sT f.row,vw g,sI f.pl]
def oJ (row:List It) (x:Int):Nat→Int × Int × Int
 |0=>(-1,0,0)
 |k+1=>if (row.getD k (0,0,0)).2.2=x then (if (oJ row x k).1= -1 then (k:Int) else (oJ row x k).1,(k:Int)+1,(oJ row x k).2.2+1) else oJ row x k
def gi (row:List It) (x:Int):Int × Int × Int:=oJ row x row.length
def yG (x:Int) (t:It):Bool:=decide (t.2.2≠x)&&decide (t.2.2≠ -1)
def Bg (row:List It) (x:Int) (a b:Nat):Bool:= !((row.take b).drop a).any (yG x)
end Go.Ab
end
section
namespace Go.Ab
open Go.Proofs
attribute [local congr] ACall.congr gd.congr Nx.congr
set_option maxRecDepth 10000
set_option maxHeartbeats 2000000
def u7 (g:Gr) (f:Fr) (x:Int):Bool:=
 if x<0∨g.n≤x∨x∈f.pl then false else
 decide ((gi f.row x).2.2=((pU (·.2) g x).length:Int))&&(decide ((pU (·.2) g x).length=0)||Bg f.row x (gi f.row x).1.toNat (gi f.row x).2.1.toNat)
end Go.Ab
end
section
namespace Go.Ab
open Go.Proofs
attribute [local congr] ACall.congr gd.congr Nx.congr
set_option maxRecDepth 10000
set_option maxHeartbeats 2000000
def Bh (g:Gr) (x:Int) (i:Int):It:=(i,x,(g.es.getD i.toNat (0,0)).2)
def u9 (g:Gr) (x:Int) (outs:List Int):List It:=if outs= [] then [(-1,x, -1)] else outs.map (Bh g x)
def HE (g:Gr) (f:Fr):List (Nat × AObj):= [(10000, .box [.d (sT f.row), .d (vw g), .ref 10001]),(10001, .tip 3 1 (f.pl.map rI))]
end Go.Ab
end
section
namespace Go.Ab
open Go.Proofs
attribute [local congr] ACall.congr gd.congr Nx.congr
set_option maxRecDepth 10000
set_option maxHeartbeats 4000000
def HF (g:Gr) (f:Fr):List (Nat × AObj):= [(10000, .box [.d (sT f.row), .d (vw g), .ref 10002]),(10002, .tip 3 1 (f.pl.map rI))]
def D6 (g:Gr) (f:Fr) (x:Int) (outs:List Int):(List It × Int) × Fr:=
 if u7 g f x=false then (([],3),f) else if rL outs≠pU (·.1) g x then (([],1),f) else
 (((f.row.take (gi f.row x).2.1.toNat).drop (max (gi f.row x).1 0).toNat,0),⟨f.row.take (max (gi f.row x).1 0).toNat++u9 g x outs++f.row.drop (gi f.row x).2.1.toNat,f.pl++ [x]⟩)
end Go.Ab
end
section
namespace Go.Ab
open Go.Proofs
attribute [local congr] ACall.congr gd.congr Nx.congr
set_option maxRecDepth 10000
set_option maxHeartbeats 4000000
def yH (g:Gr) (f:Fr) (k:Nat):List Int:=((List.range k).filter fun x:Nat=>u7 g f (x:Int)).map Int.ofNat
def D7 (g:Gr) (f:Fr):List Int:=yH g f g.n.toNat
end Go.Ab
end
section
namespace Go.Ab
open Go.Proofs
attribute [local congr] ACall.congr gd.congr Nx.congr
set_option maxRecDepth 10000
set_option maxHeartbeats 4000000
def HG (g:Gr) (f:Fr):List AV:= [eN g.n, .d (sE g.es), .d (sT f.row), .d (sI f.pl)]
def va (row:List It) (x:Int):Nat→Int
 |0=>0
 |k+1=>if (row.getD k (0,0,0)).2.2=x then va row x k+1 else va row x k
def Bi (row:List It) (x:Int) (need:Nat) (j:Nat):Bool:=decide ((row.getD j (0,0,0)).2.2≠x)&&decide (0≤(row.getD j (0,0,0)).1)&&decide (0<va row x j)&&decide (va row x j<need)
def qP (g:Gr) (x:Int):Nat:=(uh (·.2) g.es g.es.length x).length
def jH (g:Gr) (f:Fr) (x:Int):Bool:=
 if x<0∨g.n≤x∨x∈f.pl then false else if qP g x=0 then true else
 !(List.range f.row.length).any (Bi f.row x (qP g x))&&decide (va f.row x f.row.length=qP g x)
end Go.Ab
end
section
namespace Go.Ab
open Go.Proofs
attribute [local congr] ACall.congr gd.congr Nx.congr
set_option maxRecDepth 10000
set_option maxHeartbeats 4000000
end Go.Ab
end
section
namespace Go.Ab
open Go.Proofs
attribute [local congr] ACall.congr gd.congr Nx.congr
set_option maxRecDepth 10000
set_option maxHeartbeats 8000000
def mR (g:Gr) (x:Int):List Int:=uh (·.1) g.es g.es.length x
def oK (g:Gr) (f:Fr) (x:Int) (outs:List Int):(List It × Int) × Fr:=
 (((f.row.take (gi f.row x).2.1.toNat).drop (max (gi f.row x).1 0).toNat,0),⟨f.row.take (max (gi f.row x).1 0).toNat++u9 g x outs++f.row.drop (gi f.row x).2.1.toNat,f.pl++ [x]⟩)
def wT (g:Gr) (f:Fr) (x:Int) (outs:List Int):(List It × Int) × Fr:=
 if jH g f x=false then (([],3),f) else
 if outs.length≠(mR g x).length∨∃i∈mR g x,i∉outs then (([],1),f) else oK g f x outs
end Go.Ab
end
section
namespace Go.Ab
open Go.Proofs
attribute [local congr] ACall.congr gd.congr Nx.congr
set_option maxRecDepth 10000
set_option maxHeartbeats 4000000
def vI (ls:List (List Int)):List (List D):=ls.map fun l=> [sI l]
theorem vI_length {ls:List (List Int)} :(vI ls).length=ls.length:=by simp [vI]
attribute [go_sem] vI_length
def qQ (l:List Int) (i:Nat):List Int:=l.take i++l.drop (i+1)
def wU:Nat→List Int→List (List Int)
 |0,_=> [[]]
 |n+1,l=>(List.range l.length).flatMap fun i=>(wU n (qQ l i)).map fun t=>l.getD i 0::t
def GJ (n:Nat) (l:List Int) (k:Nat):List (List Int):=(List.range k).flatMap fun i=>(wU n (qQ l i)).map fun t=>l.getD i 0::t
def GK:Nat→Nat
 |0=>1
 |n+1=>(n+1)*GK n
end Go.Ab
end
section
namespace Go.Ab
open Go.Proofs
attribute [local congr] ACall.congr gd.congr Nx.congr
set_option maxRecDepth 10000
set_option maxHeartbeats 8000000
def Bj (g:Gr):Nat→Fr→Bool
 |0,f=>decide ((f.pl.length:Int)=g.n)
 |m+1,f=>decide ((f.pl.length:Int)=g.n)||(List.range g.n.toNat).any fun x=>jH g f (x:Int)&&(wU (mR g (x:Int)).length (mR g (x:Int))).any fun o=>Bj g m (oK g f (x:Int) o).2
def GL (g:Gr) (m:Nat) (f:Fr) (x:Nat):Bool:=jH g f (x:Int)&&(wU (mR g (x:Int)).length (mR g (x:Int))).any fun o=>Bj g m (oK g f (x:Int) o).2
end Go.Ab
end
section
namespace Go.Ab
open Go.Proofs
attribute [local congr] ACall.congr gd.congr Nx.congr
set_option maxRecDepth 10000
set_option maxHeartbeats 4000000
end Go.Ab
end
section
namespace Go.Ab
open Go.Proofs
attribute [local congr] ACall.congr gd.congr Nx.congr
set_option maxRecDepth 10000
set_option maxHeartbeats 4000000
def g9:Gr:=⟨3, [(0,1),(0,2),(1,2)]⟩
def HH:Fr:=⟨[], []⟩
def HI:Fr:=⟨[(0,0,1),(1,0,2)], [0]⟩
def HJ:Fr:=⟨[(2,1,2),(1,0,2)], [0,1]⟩
def HK:Fr:=⟨[(-1,2, -1)], [0,1,2]⟩
end Go.Ab
end
section
namespace Go.Ab
open Go.Proofs
set_option maxRecDepth 10000
def yI (g:Gr) (t:It):Prop:=(t.1= -1∧t.2.2= -1)∨(0≤t.1∧t.1<g.es.length∧t.2.1=(g.es.getD t.1.toNat (0,0)).1∧t.2.2=(g.es.getD t.1.toNat (0,0)).2)
structure Bl (g:Gr) (f:Fr):Prop where
 it:∀t∈f.row,yI g t
 pl:f.pl.Nodup
 HL:∀x∈f.pl,0≤x∧x<g.n
theorem yI.head {g:Gr} (hm:aQ g=true) {t:It} (h:yI g t):(0≤t.1↔t.2.2≠ -1)∧ -1≤t.2.2:=by
 rcases h with ⟨h1,h2⟩|⟨h1,h2,_,h4⟩
 ·omega
 ·obtain ⟨_,h5,_⟩:=fm hm (k:=t.1.toNat) (by omega)
  omega
end Go.Ab
end
section
namespace Go.Ab
open Go.Proofs
set_option maxRecDepth 10000
def HM (x:Int) (t:It):Bool:=decide (t.2.2=x)
structure BW (x:Int) (X:List It):Prop where
 fst:∃p X',X=p::X'∧p.2.2=x
 yW:∃X' q,X=X'++ [q]∧q.2.2=x
 al:∀t∈X,t.2.2=x∨t.2.2= -1
def sn (x:Int) (l:List It):Prop:=∀t∈l,t.2.2≠x
theorem sn.app {x:Int} {l m:List It} (h:sn x l) (h':sn x m):sn x (l++m):=fun t ht=>(List.mem_append.1 ht).elim (h t) (h' t)
theorem sn.left {x:Int} {l m:List It} (h:sn x (l++m)):sn x l:=fun t ht=>h t (List.mem_append.2 (.inl ht))
theorem sn.right {x:Int} {l m:List It} (h:sn x (l++m)):sn x m:=fun t ht=>h t (List.mem_append.2 (.inr ht))
theorem BW.E3 {x y:Int} {X:List It} (h:BW x X) (hxy:x≠y) (hy:0≤y):sn y X:=fun t ht e=>by
 rcases h.al t ht with h1|h1<;>omega
end Go.Ab
end
section
namespace Go.Ab
open Go.Proofs
set_option maxRecDepth 10000
structure HN (g:Gr) (f:Fr):Prop extends Bl g f where
 tail:∀t∈f.row,0≤t.1→t.2.1∈f.pl
 head:∀t∈f.row,0≤t.1→t.2.2∉f.pl
 once:f.row.Pairwise fun s t=>0≤s.1→s.1≠t.1
 low:∀i,i<g.es.length→hd g i∈f.pl→tl g i∈f.pl
 src:(f.pl= []∧f.row= [])∨∃s∈f.pl,qP g s=0
theorem apart {x y:Int} (hx:0≤x) (hy:0≤y) (hxy:x≠y) {A X C B Y D:List It} (h:A++X++C=B++Y++D) (hX:BW x X) (hY:BW y Y):
 (∃M,B=A++X++M∧C=M++Y++D)∨(∃M,A=B++Y++M∧D=M++X++C):=by
 obtain ⟨p,X',GM,hp⟩:=hX.fst
 obtain ⟨q,Y',GN,hq⟩:=hY.fst
 have nX:q∉X:=fun h=>hX.E3 hxy hy q h hq
 have nY:p∉Y:=fun h=>hY.E3 (Ne.symm hxy) hx p h hp
 rw [show B++Y++D=B++(Y++D) by simp,List.append_eq_append_iff] at h
 rcases h with ⟨es,h1,h2⟩|⟨cs,h1,h2⟩
 ·exact .inl ⟨es,h1,by rw [h2];simp⟩
 ·match cs,h1,h2 with
  | [],h1,h2=>exact .inl ⟨[],by simpa using h1.symm,by simpa using h2.symm⟩
  |c::cs,h1,h2=>
   have BO:c=q:=by rw [GN] at h2;simp at h2;exact h2.1.symm
   rw [List.append_eq_append_iff] at h1
   rcases h1 with ⟨es,h3,h4⟩|⟨ds,h3,h4⟩
   ·exfalso;refine nX ?_
    rw [h4, ← BO];simp
   ·rw [h4,List.append_assoc,List.append_eq_append_iff] at h2
    rcases h2 with ⟨es,h5,h6⟩|⟨bs,h5,h6⟩
    ·exact .inr ⟨es,by rw [h3,h5];simp,by rw [h6];simp⟩
    ·match bs,h5,h6 with
     | [],h5,h6=>exact .inr ⟨[],by rw [h3,h5];simp,by simpa using h6.symm⟩
     |b::bs,h5,h6=>
      exfalso;refine nY ?_
      have AY:b=p:=by rw [GM] at h6;simp at h6;exact h6.1.symm
      rw [h5, ← AY];simp
end Go.Ab
end
section
namespace Go.Ab
open Go.Proofs
attribute [local congr] ACall.congr gd.congr Nx.congr
set_option maxRecDepth 10000
set_option maxHeartbeats 4000000
def qR (row:List It) (a b:Int):Nat→Int × Int
 |0=>(-1,0)
 |k+1=>if ((row.getD k (0,0,0)).2.2=a∨(row.getD k (0,0,0)).2.2=b)∧(row.getD k (0,0,0)).2.2≠(qR row a b k).1 then ((row.getD k (0,0,0)).2.2,(qR row a b k).2+1) else qR row a b k
end Go.Ab
end
section
namespace Go.Ab
open Go.Proofs
attribute [local congr] ACall.congr gd.congr Nx.congr
set_option maxRecDepth 10000
set_option maxHeartbeats 4000000
def za (row:List It) (i:Nat):Int:=(row.getD i (0,0,0)).2.2
def D8 (row:List It) (i j:Nat):Bool:=decide (za row i≠ -1)&&decide (za row j≠ -1)&&decide (za row i≠za row j)&&decide (4≤(qR row (za row i) (za row j) row.length).2)
def E4 (row:List It):Bool:=(List.range row.length).any fun i=>(List.range row.length).any (D8 row i)
end Go.Ab
end
section
namespace Go.Ab
open Go.Proofs
attribute [local congr] ACall.congr gd.congr Nx.congr
set_option maxRecDepth 10000
set_option maxHeartbeats 8000000
def T4 (row:List It) (a b c d:Nat):Prop:=0≤(row.getD a (0,0,0)).2.2∧0≤(row.getD b (0,0,0)).2.2∧(row.getD a (0,0,0)).2.2≠(row.getD b (0,0,0)).2.2∧(row.getD a (0,0,0)).2.2=(row.getD c (0,0,0)).2.2∧(row.getD b (0,0,0)).2.2=(row.getD d (0,0,0)).2.2
def GO (row:List It):Prop:=∃a b c d,a<b∧b<c∧c<d∧d<row.length∧T4 row a b c d
end Go.Ab
end
section
namespace Go.Ab
open Go.Proofs
set_option maxRecDepth 10000
def Tg (a b:Int) (row:List It):Prop:=∃l:List It,l.Sublist row∧l.map (fun t=>t.2.2)= [a,b,a,b]
def vb (a b:Int) (t:It):Bool:=decide (t.2.2=a)||decide (t.2.2=b)
theorem Tg.D9 {a b:Int} {row:List It} :Tg a b row↔Tg a b (row.filter (vb a b)):=by
 constructor
 ·rintro ⟨l,h,e⟩
  refine ⟨l, ?_,e⟩
  have h1:=h.filter (vb a b)
  rw [List.filter_eq_self.2] at h1
  ·exact h1
  ·intro t ht
   have:t.2.2∈l.map (fun t=>t.2.2):=List.mem_map.2 ⟨t,ht,rfl⟩
   rw [e] at this
   simp only [vb,Bool.or_eq_true,decide_eq_true_eq]
   simp only [List.mem_cons,List.not_mem_nil,or_false] at this
   omega
 ·rintro ⟨l,h,e⟩
  exact ⟨l,h.trans List.filter_sublist,e⟩
theorem Tg.keep {a b x:Int} (ha:0≤a) (hb:0≤b) (w9:a≠x) (oZ:b≠x) {A X C u:List It} (hX:∀t∈X,t.2.2=x∨t.2.2= -1) (h:Tg a b (A++X++C)):Tg a b (A++u++C):=by
 rw [Tg.D9] at h ⊢
 obtain ⟨l,h,e⟩:=h
 refine ⟨l,h.trans ?_,e⟩
 rw [List.filter_append,List.filter_append,List.filter_append,List.filter_append]
 have:X.filter (vb a b)= []:=List.filter_eq_nil_iff.2 fun t ht=>by
  simp only [vb,Bool.or_eq_true,decide_eq_true_eq]
  rcases hX t ht with h|h<;>omega
 rw [this,List.append_nil]
 exact List.Sublist.append_right (List.sublist_append_left _ _) _
theorem Tg.not {a b x:Int} (hab:a≠b) (hb0:0≤b) (ha0:0≤a) (hx:x=a∨x=b) {A X C:List It} (hA:sn x A) (hC:sn x C) (hX:∀t∈X,t.2.2=x∨t.2.2= -1):¬Tg a b (A++X++C):=by
 rintro ⟨l,h,e⟩
 rw [List.append_assoc,List.sublist_append_iff] at h
 obtain ⟨l1,l',rfl,h1,h'⟩:=h
 rw [List.sublist_append_iff] at h'
 obtain ⟨l2,l3,rfl,h2,h3⟩:=h'
 have k1:∀t∈l1,t.2.2≠x:=fun t ht=>hA t (h1.subset ht)
 have k2:∀t∈l2,t.2.2=x∨t.2.2= -1:=fun t ht=>hX t (h2.subset ht)
 have k3:∀t∈l3,t.2.2≠x:=fun t ht=>hC t (h3.subset ht)
 clear h1 h2 h3
 match l1,k1,e with
 |t1::t2::_,k1,e=>
  simp only [List.cons_append,List.map_cons,List.cons.injEq] at e
  rcases hx with h|h
  ·exact k1 t1 (by simp) (by omega)
  ·exact k1 t2 (by simp) (by omega)
 | [t1],k1,e=>
   simp only [List.cons_append,List.nil_append,List.map_cons,List.cons.injEq] at e
   rcases hx with h|h
   ·exact k1 t1 (by simp) (by omega)
   ·match l2,k2,e with
    | [],_,e=>
      match l3,k3,e with
      | [s1,s2,s3],k3,e=>
        simp only [List.nil_append,List.map_cons,List.map_nil,List.cons.injEq,and_true] at e
        exact k3 s1 (by simp) (by omega)
      | [],_,e=>simp at e
      | [_],_,e=>simp at e
      | [_,_],_,e=>simp at e
      |_::_::_::_::_,_,e=>simp at e
    |s1::s2::_,k2,e=>
     simp only [List.cons_append,List.map_cons,List.cons.injEq] at e
     rcases k2 s2 (by simp) with h|h<;>omega
    | [s1],k2,e=>
      match l3,k3,e with
      | [u1,u2],k3,e=>
        simp only [List.cons_append,List.nil_append,List.map_cons,List.map_nil,List.cons.injEq,and_true] at e
        exact k3 u2 (by simp) (by omega)
      | [],_,e=>simp at e
      | [_],_,e=>simp at e
      |_::_::_::_,_,e=>simp at e
 | [],_,e=>
   simp only [List.nil_append] at e
   match l2,k2,e with
   | [],_,e=>
     match l3,k3,e with
     | [],_,e=>simp at e
     | [_],_,e=>simp at e
     |s1::s2::_,k3,e=>
      simp only [List.nil_append,List.map_cons,List.cons.injEq] at e
      rcases hx with h|h
      ·exact k3 s1 (by simp) (by omega)
      ·exact k3 s2 (by simp) (by omega)
   |s1::s2::_,k2,e=>
    simp only [List.cons_append,List.map_cons,List.cons.injEq] at e
    have q1:=k2 s1 (by simp)
    have q2:=k2 s2 (by simp)
    omega
   | [s1],k2,e=>
     match l3,k3,e with
     | [],_,e=>simp at e
     | [_],_,e=>simp at e
     | [_,_],_,e=>simp at e
     |u1::u2::u3::_,k3,e=>
      simp only [List.cons_append,List.nil_append,List.map_cons,List.cons.injEq] at e
      have q1:=k2 s1 (by simp)
      exact k3 u2 (by simp) (by omega)
end Go.Ab
end
section
namespace Go.Ab
open Go.Proofs
set_option maxRecDepth 10000
def Ea (a b:Int):List It→Prop
 | []=>True
 | [t]=>t.2.2=a∨t.2.2=b
 |s::t::l=>(s.2.2=a∨s.2.2=b)∧s.2.2≠t.2.2∧Ea a b (t::l)
end Go.Ab
end
section
namespace Go.Ab
open Go.Proofs
attribute [local congr] ACall.congr gd.congr Nx.congr
set_option maxRecDepth 10000
end Go.Ab
end
section
namespace Go.Ab
open Go.Proofs
attribute [local congr] ACall.congr gd.congr Nx.congr
set_option maxRecDepth 10000
def Eb (g:Gr) (out:List Int) (x:Nat) (i:Nat):Bool:=(List.range i).all fun j=> !decide (hd g j=(x:Int))||decide (tl g j∈out)
def GP (g:Gr) (out:List Int) (k:Nat) (f:Bool):Prop:=k≤g.n.toNat∧(if f then 0<k∧wt g out (k - 1)=0∧∀j,j<k - 1→wt g out j≠0 else ∀j,j<k→wt g out j≠0)
def GQ (out:List Int) (k:Nat) (f:Bool):List Int:=if f then out++ [((k - 1:Nat):Int)] else out
end Go.Ab
end
section
namespace Go.Ab
open Go.Proofs
attribute [local congr] ACall.congr gd.congr Nx.congr
set_option maxRecDepth 10000
end Go.Ab
end
section
namespace Go.Ab
open Go.Proofs
set_option maxRecDepth 10000
structure Pl where
 ord:List Int
 outs:List (List Int)
def yJ (p:Pl) (k:Nat):Int:=p.ord.getD k 0
def E5 (p:Pl) (x:Int):List Int:=p.outs.getD x.toNat []
def yK (g:Gr) (p:Pl):Prop:=p.outs.length=g.n.toNat∧p.ord.Perm (DH g.n.toNat)∧∀x:Nat,x<g.n.toNat→(p.outs.getD x []).Perm (mR g x)
def fK (g:Gr) (p:Pl):Nat→Fr
 |0=>⟨[], []⟩
 |k+1=>(oK g (fK g p k) (yJ p k) (E5 p (yJ p k))).2
def xA (g:Gr) (p:Pl) (k:Nat):List It:=(oK g (fK g p k) (yJ p k) (E5 p (yJ p k))).1.1
def E6 (g:Gr) (p:Pl) (k:Nat):Bool:=jH g (fK g p k) (yJ p k)
def Bm (g:Gr) (p:Pl):Nat→List (List It)
 |0=>List.replicate g.n.toNat []
 |k+1=>(Bm g p k).set (yJ p k).toNat (xA g p k)
def xB (g:Gr) (p:Pl):Nat→Option Nat
 |0=>none
 |k+1=>match xB g p k with
  |some i=>some i
  |none=>if E6 g p k=true then none else some k
def E7 (g:Gr) (p:Pl):Prop:=(AA g).1=0∧yK g p∧∀k,k<g.n.toNat→E6 g p k=true
end Go.Ab
end
section
namespace Go.Ab
open Go.Proofs
set_option maxRecDepth 10000
def loose (l:List It):List Int:=(l.filter fun t=>decide (t.1<0)).map fun t=>t.2.1
def Bn (g:Gr) (p:Pl):Nat→List Edge
 |0=> []
 |k+1=>Bn g p k++(loose (xA g p k)).map fun v=>(v,yJ p k)
def oL (g:Gr) (p:Pl):List It:=(fK g p g.n.toNat).row
def newL (g:Gr) (p:Pl):List Edge:=if 1<(oL g p).length then (loose (oL g p)).map fun v=>(v,g.n) else []
def Bo (g:Gr) (p:Pl):List Edge:=Bn g p g.n.toNat++newL g p
def yL (g:Gr) (p:Pl):Gr:=⟨if 1<(oL g p).length then g.n+1 else g.n,g.es++Bo g p⟩
def Bp:Nat→List Edge→List (List Int)→List (List Int)
 |_, [],O=>O
 |m,e::N,O=>Bp (m+1) N (O.set e.1.toNat [(m:Int)])
def Ec (g:Gr) (p:Pl):Pl:=⟨if 1<(oL g p).length then p.ord++ [g.n] else p.ord,Bp g.es.length (Bo g p) (if 1<(oL g p).length then p.outs++ [[]] else p.outs)⟩
def GR (g:Gr) (p:Pl) (x:Gr):List (List Int):=(List.range x.n.toNat).map fun v=>if 0<(p.outs.getD v []).length then p.outs.getD v [] else mR x (v:Int)
end Go.Ab
end
section
namespace Go.Ab
open Go.Proofs
set_option maxRecDepth 10000
abbrev Act:=Int × List Int
def rA (a:Act):List D:= [.sc (.int .i64 a.1),sI a.2]
def sA (as':List Act):D:= .sl 2 (as'.map rA)
attribute [go_sem] sA
def Bq (g:Gr) (yM:List Act):Nat→Fr
 |0=>⟨[], []⟩
 |k+1=>(wT g (Bq g yM k) (yM.getD k (0, [])).1 (yM.getD k (0, [])).2).2
end Go.Ab
end
section
namespace Go.Ab
open Go.Proofs
attribute [local congr] ACall.congr gd.congr Nx.congr
set_option maxRecDepth 10000
set_option maxHeartbeats 4000000
def ePl (p:Pl):AV:= .agg [.d (sI p.ord), .d (.sl 1 (vI p.outs))]
attribute [go_sem] ePl
structure E8 (p:Pl):Prop where
 ord:p.ord.length≤17592186043904
 outs:p.outs.length≤9223372036854775807
 each:∀l∈p.outs,l.length≤17592186043904
end Go.Ab
end
section
namespace Go.Ab
open Go.Proofs
attribute [local congr] ACall.congr gd.congr Nx.congr
set_option maxRecDepth 10000
set_option maxHeartbeats 8000000
def GS (m:Nat) (fl:List Int):List Int:=(List.range m).map fun i:Nat=>if (i:Int)∈fl then (1:Int) else 0
end Go.Ab
end
section
namespace Go.Ab
open Go.Proofs
attribute [local congr] ACall.congr gd.congr Nx.congr
set_option maxRecDepth 10000
set_option maxHeartbeats 8000000
def yN (b:Bool) (g:Gr) (p:Pl):(List (List It) × List It) × Int × Int:=
 if b=false then (([], []),(1,0)) else
 match xB g p g.n.toNat with
 |some i=>(([], []),(3,(i:Int)))
 |none=>((Bm g p g.n.toNat,(fK g p g.n.toNat).row),(0,0))
end Go.Ab
end
section
namespace Go.Ab
open Go.Proofs
attribute [local congr] ACall.congr gd.congr Nx.congr
set_option maxRecDepth 10000
set_option maxHeartbeats 8000000
end Go.Ab
end
section
namespace Go.Ab
open Go.Proofs
attribute [local congr] ACall.congr gd.congr Nx.congr
set_option maxRecDepth 10000
set_option maxHeartbeats 8000000
def HO (n:Int) (es:List Edge) (ord:List Int) (O:List (List Int)):List (Nat × AObj):= [(10000, .box [eN n, .ref 10001, .ref 10002, .ref 10003]),(10001, .tip 42 2 (es.map rE)),(10002, .tip 3 1 (ord.map rI)),(10003, .own 25 1 (vI O))]
def HP (n:Int) (es:List Edge) (ord:List Int) (O:List (List Int)):List (Nat × AObj):= [(10000, .box [eN n, .ref 10004, .ref 10002, .ref 10003]),(10004, .tip 42 2 (es.map rE)),(10002, .tip 3 1 (ord.map rI)),(10003, .own 25 1 (vI O))]
def GU (x:Int) (items:List It):List Edge:=(loose items).map fun v=>(v,x)
end Go.Ab
end
section
namespace Go.Ab
open Go.Proofs
attribute [local congr] ACall.congr gd.congr Nx.congr
set_option maxRecDepth 10000
set_option maxHeartbeats 16000000
def pz:Pl:=⟨[], []⟩
def GV (b:Bool) (g:Gr) (p:Pl):Gr × Pl × Int:=
 if (yN b g p).2.1≠0 then (gz,pz,1) else if 64<(yL g p).n∨128<(yL g p).es.length then (gz,pz,10) else (yL g p,Ec g p,0)
end Go.Ab
end
section
namespace Go.Ab
open Go.Proofs
attribute [local congr] ACall.congr gd.congr Nx.congr
set_option maxRecDepth 10000
set_option maxHeartbeats 16000000
def GW (p:Pl) (x:Gr) (k:Nat):List (List Int):=(List.range k).map fun v=>if 0<(p.outs.getD v []).length then p.outs.getD v [] else mR x (v:Int)
end Go.Ab
end
section
namespace Go.Ab
open Go.Proofs
attribute [local congr] ACall.congr gd.congr Nx.congr
set_option maxRecDepth 10000
set_option maxHeartbeats 8000000
def GX (g:Gr) (p:Pl):Bool:=decide (200<g.es.length)||decide (100<p.ord.length)||decide (100<p.outs.length)||p.outs.any fun l=>decide (200<l.length)
structure E9 (p:Pl):Prop where
 ord:p.ord.length≤9223372036854775807
 outs:p.outs.length≤9223372036854775807
 each:∀l∈p.outs,l.length≤9223372036854775807
def HQ (g:Gr):Bool:=decide ((AA g).1=0)&&decide ((uc (·.1) g).length=1)
end Go.Ab
end
section
namespace Go.Ab
open Go.Proofs
attribute [local congr] ACall.congr gd.congr Nx.congr
set_option maxRecDepth 10000
set_option maxHeartbeats 8000000
def g16:Gr:=⟨3, [(0,1),(0,2)]⟩
def HR:Pl:=⟨[0,1,2], [[0,1], [], []]⟩
def HS:Gr:=⟨4, [(0,1),(0,2),(1,3),(2,3)]⟩
def HT:Pl:=⟨[0,1,2,3], [[0,1], [2], [3], []]⟩
end Go.Ab
end
section
namespace Go.Ab
open Go.ChangeShapes Go.WideShapes Go.ChangeAt Go.RowKit
end Go.Ab
end
