/- A part of the proof. -/
import Derived.Deep.SlicePairs
import Derived.Test.YtameldglfobjkaaL2P17
set_option linter.unusedSimpArgs false
set_option linter.unusedVariables false
section
namespace Go.Ab
open Go.ChangeShapes Go.WideShapes Go.ChangeAt Go.RowKit
theorem l8 {H:Type} {enc:TypeId × Value→H} {P:Program} (hl:laidOutB P=true) {W W':World} (hb:Below W.heap.size W W'):
 ∀ {ts:List TypeId} {vs:List Value} {ds:List (DataW H)} {ps:List MemPlace},(ts.all fun t=>P.readableRec t&&decide (t<P.types.size))=true→
   DataW.TrodAll enc P W 0 (fun _=>true) true ts vs ds ps→DataW.TrodAll enc P W' 0 (fun b=>decide (b<W.heap.size)) true ts vs ds ps
 | [], [], [],_,_,h=>h
 |t::ts,v::vs,d::ds,ps,ht,h=>by
  have hlt:=h.lt
  obtain ⟨p,q,h1,h2,rfl⟩:=h
  simp only [List.all_cons,Bool.and_eq_true,decide_eq_true_eq] at ht
  exact ⟨p,q,Below.trod hl ht.1.1 ht.1.2 h1 hb (fun x hx=>hlt x (List.mem_append_left _ hx)),l8 hl hb (by simpa using ht.2) h2,rfl⟩
 | [],_::_,_,_,_,h=>h.elim
 | [], [],_::_,_,_,h=>h.elim
 |_::_, [],_,_,_,h=>h.elim
 |_::_,_::_, [],_,_,h=>h.elim
theorem vo {H:Type} {enc:TypeId × Value→H} {P:Program} {W:World} {t e:TypeId} {f0 f1:Field} {fuel:Nat} {v:Value} {x:DataW H × List MemPlace} (ht:P.underlying t=some (.slice e)) (he:P.underlying e=some (.struct #[f0,f1]))
 (ce:P.cellsOf e=2) (o0:f0.offset=0) (o1:f1.offset=1) (c0:P.cellsOf f0.type=1) (c1:P.cellsOf f1.type=1) (i0:P.underlying f0.type=some (.int .i64)) (i1:P.underlying f1.type=some (.int .i64))
 (h:DataW.trod enc P W 0 (fun _=>true) true fuel t [v]=some x):∃es:List Edge,Rd W (ot W).z v (sE es)∧es.length≤maxLen∧∀p∈es,(-9223372036854775808≤p.1∧p.1≤9223372036854775807)∧(-9223372036854775808≤p.2∧p.2≤9223372036854775807):=by
 rcases Go.Deep.open_slice_pairs ht he ce o0 o1 c0 c1 h with ⟨h1,_⟩|⟨a,len,cap,m,n,V0,V1,D0,D1,P0,P1,h1,_,hlc,zT,hm,_,hc⟩
 ·simp only [List.cons.injEq,and_true] at h1
  exact ⟨[],by rw [h1];exact .nil _ _,by simp,by simp⟩
 ·simp only [List.cons.injEq,and_true] at h1
  simp only [if_true] at hm
  subst hm
  have hx:∀i,i<m→∃q:Int × Int,V0 i= .int .i64 q.1∧V1 i= .int .i64 q.2∧(-9223372036854775808≤q.1∧q.1≤9223372036854775807)∧(-9223372036854775808≤q.2∧q.2≤9223372036854775807):=by
   intro i hi
   obtain ⟨_,_,g3,g4⟩:=hc i hi
   obtain ⟨p,sS,_,hp2⟩:=DataW.trod_int i0 g3
   obtain ⟨q,rS,_,yw⟩:=DataW.trod_int i1 g4
   simp only [List.cons.injEq,and_true] at sS rS
   exact ⟨(p,q),sS,rS,wf_i64 hp2,wf_i64 yw⟩
  rcases Nat.eq_zero_or_pos m with h0|hpos
  ·subst h0
   have:len=0:=by omega
   subst this
   exact ⟨[],by rw [h1];exact .nil _ _,by simp,by simp⟩
  ·obtain ⟨q,hq⟩:=Go.Deep.choose_lt hx
   have xW:a.spot=none:=by
    have:=World.cell?_spot (hc 0 hpos).1
    simpa [Addr.add] using this
   obtain ⟨b,off,sp⟩:=a
   simp only at xW
   subst xW
   have hcell:∀k,k<m*2→W.cell? ⟨b,off+k,none⟩=some (if k % 2=0 then V0 (k / 2) else V1 (k / 2)):=by
    intro k hk
    obtain ⟨g1,g2,_⟩:=hc (k / 2) (by omega)
    simp only [Addr.add_mid,Nat.add_assoc] at g1 g2
    split
    ·rw [← g1];congr 2;omega
    ·rw [← g2];congr 2;omega
   have hz:off+m*2≤(ot W).z b:=by
    have:=hcell (m*2 - 1) (by omega)
    unfold World.cell? at this
    simp only [ot]
    split at this
    ·rename_i c _ _ hb
     simp only [Option.isSome_none,Bool.false_eq_true,if_false] at this
     have hlt:=(Array.getElem?_eq_some_iff.1 this).1
     simp only [hb];omega
    ·cases this
   refine ⟨(List.range len).map q, ?_,by simp;omega, ?_⟩
   ·rw [h1]
    refine .sl b off len m 2 _ (fun k=>if k % 2=0 then V0 (k / 2) else V1 (k / 2)) (by simp) (by simp [rE]) (by have:=Nat.mul_le_mul_right 2 hlc;omega) hlc (fun k hk=>hcell k (by have:=Nat.mul_le_mul_right 2 hlc;omega)) ?_
    intro i j r y hi hj
    have hil:i<len:=by have:=(List.getElem?_eq_some_iff.1 hi).1;simpa using this
    simp only [List.map_map,List.getElem?_map,List.getElem?_range hil,Option.map_some,Option.some.injEq,Function.comp] at hi
    subst hi
    obtain ⟨e0,e1,_⟩:=hq i (by omega)
    match j,hj with
    |0,hj=>
     simp only [rE,List.getElem?_cons_zero,Option.some.injEq] at hj
     subst hj
     simp only [Nat.add_zero,Nat.mul_mod_left,if_true,Nat.mul_div_cancel _ (show 0<2 by omega),e0]
     exact .sc _ rfl
    |1,hj=>
     simp only [rE,List.getElem?_cons_succ,List.getElem?_cons_zero,Option.some.injEq] at hj
     subst hj
     rw [if_neg (by omega),show (i*2+1) / 2=i from by omega,e1]
     exact .sc _ rfl
    |j+2,hj=>simp [rE] at hj
   ·intro p hp
    obtain ⟨i,hi,rfl⟩:=List.mem_map.1 hp
    have:=List.mem_range.1 hi
    exact (hq i (by omega)).2.2
end Go.Ab
end
section
namespace Go.Ab
open Go.Proofs
attribute [local congr] ACall.congr gd.congr Nx.congr
set_option maxRecDepth 10000
set_option maxHeartbeats 1000000
structure Fr where
 row:List It
 pl:List Int
def HN (g:Gr) (f:Fr):D:= .pt [sT f.row,vw g,sI f.pl]
def o6 (row:List It) (x:Int):Nat→Int × Int × Int
 |0=>(-1,0,0)
 |k+1=>if (row.getD k (0,0,0)).2.2=x then (if (o6 row x k).1= -1 then (k:Int) else (o6 row x k).1,(k:Int)+1,(o6 row x k).2.2+1) else o6 row x k
def gi (row:List It) (x:Int):Int × Int × Int:=o6 row x row.length
def y2 (x:Int) (t:It):Bool:=decide (t.2.2≠x)&&decide (t.2.2≠ -1)
def BC (row:List It) (x:Int) (a b:Nat):Bool:= !((row.take b).drop a).any (y2 x)
end Go.Ab
end
section
namespace Go.Ab
open Go.Proofs
attribute [local congr] ACall.congr gd.congr Nx.congr
set_option maxRecDepth 10000
set_option maxHeartbeats 2000000
def vp (g:Gr) (f:Fr) (x:Int):Bool:=
 if x<0∨g.n≤x∨x∈f.pl then false else
 decide ((gi f.row x).2.2=((p9 (·.2) g x).length:Int))&&(decide ((p9 (·.2) g x).length=0)||BC f.row x (gi f.row x).1.toNat (gi f.row x).2.1.toNat)
end Go.Ab
end
section
namespace Go.Ab
open Go.Proofs
attribute [local congr] ACall.congr gd.congr Nx.congr
set_option maxRecDepth 10000
set_option maxHeartbeats 2000000
def BD (g:Gr) (x:Int) (i:Int):It:=(i,x,(g.es.getD i.toNat (0,0)).2)
def vq (g:Gr) (x:Int) (outs:List Int):List It:=if outs= [] then [(-1,x, -1)] else outs.map (BD g x)
def HO (g:Gr) (f:Fr):List (Nat × AObj):= [(10000, .box [.d (sT f.row), .d (vw g), .ref 10001]),(10001, .tip 3 1 (f.pl.map rI))]
end Go.Ab
end
section
namespace Go.Ab
open Go.Proofs
attribute [local congr] ACall.congr gd.congr Nx.congr
set_option maxRecDepth 10000
set_option maxHeartbeats 4000000
def HP (g:Gr) (f:Fr):List (Nat × AObj):= [(10000, .box [.d (sT f.row), .d (vw g), .ref 10002]),(10002, .tip 3 1 (f.pl.map rI))]
def El (g:Gr) (f:Fr) (x:Int) (outs:List Int):(List It × Int) × Fr:=
 if vp g f x=false then (([],3),f) else if sj outs≠p9 (·.1) g x then (([],1),f) else
 (((f.row.take (gi f.row x).2.1.toNat).drop (max (gi f.row x).1 0).toNat,0),⟨f.row.take (max (gi f.row x).1 0).toNat++vq g x outs++f.row.drop (gi f.row x).2.1.toNat,f.pl++ [x]⟩)
end Go.Ab
end
section
namespace Go.Ab
open Go.Proofs
attribute [local congr] ACall.congr gd.congr Nx.congr
set_option maxRecDepth 10000
set_option maxHeartbeats 4000000
def y3 (g:Gr) (f:Fr) (k:Nat):List Int:=((List.range k).filter fun x:Nat=>vp g f (x:Int)).map Int.ofNat
def Em (g:Gr) (f:Fr):List Int:=y3 g f g.n.toNat
end Go.Ab
end
section
namespace Go.Ab
open Go.Proofs
attribute [local congr] ACall.congr gd.congr Nx.congr
set_option maxRecDepth 10000
set_option maxHeartbeats 4000000
def HQ (g:Gr) (f:Fr):List AV:= [eN g.n, .d (sE g.es), .d (sT f.row), .d (sI f.pl)]
def vr (row:List It) (x:Int):Nat→Int
 |0=>0
 |k+1=>if (row.getD k (0,0,0)).2.2=x then vr row x k+1 else vr row x k
def BE (row:List It) (x:Int) (need:Nat) (j:Nat):Bool:=decide ((row.getD j (0,0,0)).2.2≠x)&&decide (0≤(row.getD j (0,0,0)).1)&&decide (0<vr row x j)&&decide (vr row x j<need)
def ru (g:Gr) (x:Int):Nat:=(uA (·.2) g.es g.es.length x).length
def jU (g:Gr) (f:Fr) (x:Int):Bool:=
 if x<0∨g.n≤x∨x∈f.pl then false else if ru g x=0 then true else
 !(List.range f.row.length).any (BE f.row x (ru g x))&&decide (vr f.row x f.row.length=ru g x)
end Go.Ab
end
section
namespace Go.Ab
open Go.Proofs
attribute [local congr] ACall.congr gd.congr Nx.congr
set_option maxRecDepth 10000
set_option maxHeartbeats 4000000
end Go.Ab
end
section
namespace Go.Ab
open Go.Proofs
attribute [local congr] ACall.congr gd.congr Nx.congr
set_option maxRecDepth 10000
set_option maxHeartbeats 8000000
def ni (g:Gr) (x:Int):List Int:=uA (·.1) g.es g.es.length x
def o7 (g:Gr) (f:Fr) (x:Int) (outs:List Int):(List It × Int) × Fr:=
 (((f.row.take (gi f.row x).2.1.toNat).drop (max (gi f.row x).1 0).toNat,0),⟨f.row.take (max (gi f.row x).1 0).toNat++vq g x outs++f.row.drop (gi f.row x).2.1.toNat,f.pl++ [x]⟩)
def xw (g:Gr) (f:Fr) (x:Int) (outs:List Int):(List It × Int) × Fr:=
 if jU g f x=false then (([],3),f) else
 if outs.length≠(ni g x).length∨∃i∈ni g x,i∉outs then (([],1),f) else o7 g f x outs
end Go.Ab
end
section
namespace Go.Ab
open Go.Proofs
attribute [local congr] ACall.congr gd.congr Nx.congr
set_option maxRecDepth 10000
set_option maxHeartbeats 4000000
def vI (ls:List (List Int)):List (List D):=ls.map fun l=> [sI l]
theorem vI_length {ls:List (List Int)} :(vI ls).length=ls.length:=by simp [vI]
attribute [go_sem] vI_length
def ry (l:List Int) (i:Nat):List Int:=l.take i++l.drop (i+1)
def xx:Nat→List Int→List (List Int)
 |0,_=> [[]]
 |n+1,l=>(List.range l.length).flatMap fun i=>(xx n (ry l i)).map fun t=>l.getD i 0::t
def GY (n:Nat) (l:List Int) (k:Nat):List (List Int):=(List.range k).flatMap fun i=>(xx n (ry l i)).map fun t=>l.getD i 0::t
def GZ:Nat→Nat
 |0=>1
 |n+1=>(n+1)*GZ n
end Go.Ab
end
section
namespace Go.Ab
open Go.Proofs
attribute [local congr] ACall.congr gd.congr Nx.congr
set_option maxRecDepth 10000
set_option maxHeartbeats 8000000
def BF (g:Gr):Nat→Fr→Bool
 |0,f=>decide ((f.pl.length:Int)=g.n)
 |m+1,f=>decide ((f.pl.length:Int)=g.n)||(List.range g.n.toNat).any fun x=>jU g f (x:Int)&&(xx (ni g (x:Int)).length (ni g (x:Int))).any fun o=>BF g m (o7 g f (x:Int) o).2
def G0 (g:Gr) (m:Nat) (f:Fr) (x:Nat):Bool:=jU g f (x:Int)&&(xx (ni g (x:Int)).length (ni g (x:Int))).any fun o=>BF g m (o7 g f (x:Int) o).2
end Go.Ab
end
section
namespace Go.Ab
open Go.Proofs
attribute [local congr] ACall.congr gd.congr Nx.congr
set_option maxRecDepth 10000
set_option maxHeartbeats 4000000
end Go.Ab
end
section
namespace Go.Ab
open Go.Proofs
attribute [local congr] ACall.congr gd.congr Nx.congr
set_option maxRecDepth 10000
set_option maxHeartbeats 4000000
def g9:Gr:=⟨3, [(0,1),(0,2),(1,2)]⟩
def HR:Fr:=⟨[], []⟩
def HS:Fr:=⟨[(0,0,1),(1,0,2)], [0]⟩
def HT:Fr:=⟨[(2,1,2),(1,0,2)], [0,1]⟩
def HU:Fr:=⟨[(-1,2, -1)], [0,1,2]⟩
end Go.Ab
end
section
namespace Go.Ab
open Go.Proofs
set_option maxRecDepth 10000
def y4 (g:Gr) (t:It):Prop:=(t.1= -1∧t.2.2= -1)∨(0≤t.1∧t.1<g.es.length∧t.2.1=(g.es.getD t.1.toNat (0,0)).1∧t.2.2=(g.es.getD t.1.toNat (0,0)).2)
structure BG (g:Gr) (f:Fr):Prop where
 it:∀t∈f.row,y4 g t
 pl:f.pl.Nodup
 HV:∀x∈f.pl,0≤x∧x<g.n
theorem y4.head {g:Gr} (hm:aS g=true) {t:It} (h:y4 g t):(0≤t.1↔t.2.2≠ -1)∧ -1≤t.2.2:=by
 rcases h with ⟨h1,h2⟩|⟨h1,h2,_,h4⟩
 ·omega
 ·obtain ⟨_,h5,_⟩:=dN hm (k:=t.1.toNat) (by omega)
  omega
end Go.Ab
end
section
namespace Go.Ab
open Go.Proofs
set_option maxRecDepth 10000
def HW (x:Int) (t:It):Bool:=decide (t.2.2=x)
structure Cf (x:Int) (X:List It):Prop where
 fst:∃p X',X=p::X'∧p.2.2=x
 zn:∃X' q,X=X'++ [q]∧q.2.2=x
 al:∀t∈X,t.2.2=x∨t.2.2= -1
def sO (x:Int) (l:List It):Prop:=∀t∈l,t.2.2≠x
theorem sO.app {x:Int} {l m:List It} (h:sO x l) (h':sO x m):sO x (l++m):=fun t ht=>(List.mem_append.1 ht).elim (h t) (h' t)
theorem sO.left {x:Int} {l m:List It} (h:sO x (l++m)):sO x l:=fun t ht=>h t (List.mem_append.2 (.inl ht))
theorem sO.right {x:Int} {l m:List It} (h:sO x (l++m)):sO x m:=fun t ht=>h t (List.mem_append.2 (.inr ht))
theorem Cf.Fl {x y:Int} {X:List It} (h:Cf x X) (hxy:x≠y) (hy:0≤y):sO y X:=fun t ht e=>by
 rcases h.al t ht with h1|h1<;>omega
end Go.Ab
end
section
namespace Go.Ab
open Go.Proofs
set_option maxRecDepth 10000
structure HX (g:Gr) (f:Fr):Prop extends BG g f where
 tail:∀t∈f.row,0≤t.1→t.2.1∈f.pl
 head:∀t∈f.row,0≤t.1→t.2.2∉f.pl
 once:f.row.Pairwise fun s t=>0≤s.1→s.1≠t.1
 low:∀i,i<g.es.length→hd g i∈f.pl→tl g i∈f.pl
 src:(f.pl= []∧f.row= [])∨∃s∈f.pl,ru g s=0
theorem apart {x y:Int} (hx:0≤x) (hy:0≤y) (hxy:x≠y) {A X C B Y D:List It} (h:A++X++C=B++Y++D) (hX:Cf x X) (hY:Cf y Y):
 (∃M,B=A++X++M∧C=M++Y++D)∨(∃M,A=B++Y++M∧D=M++X++C):=by
 obtain ⟨p,X',G1,hp⟩:=hX.fst
 obtain ⟨q,Y',G2,hq⟩:=hY.fst
 have nX:q∉X:=fun h=>hX.Fl hxy hy q h hq
 have nY:p∉Y:=fun h=>hY.Fl (Ne.symm hxy) hx p h hp
 rw [show B++Y++D=B++(Y++D) by simp,List.append_eq_append_iff] at h
 rcases h with ⟨es,h1,h2⟩|⟨cs,h1,h2⟩
 ·exact .inl ⟨es,h1,by rw [h2];simp⟩
 ·match cs,h1,h2 with
  | [],h1,h2=>exact .inl ⟨[],by simpa using h1.symm,by simpa using h2.symm⟩
  |c::cs,h1,h2=>
   have Ca:c=q:=by rw [G2] at h2;simp at h2;exact h2.1.symm
   rw [List.append_eq_append_iff] at h1
   rcases h1 with ⟨es,h3,h4⟩|⟨ds,h3,h4⟩
   ·exfalso;refine nX ?_
    rw [h4, ← Ca];simp
   ·rw [h4,List.append_assoc,List.append_eq_append_iff] at h2
    rcases h2 with ⟨es,h5,h6⟩|⟨bs,h5,h6⟩
    ·exact .inr ⟨es,by rw [h3,h5];simp,by rw [h6];simp⟩
    ·match bs,h5,h6 with
     | [],h5,h6=>exact .inr ⟨[],by rw [h3,h5];simp,by simpa using h6.symm⟩
     |b::bs,h5,h6=>
      exfalso;refine nY ?_
      have Bn:b=p:=by rw [G1] at h6;simp at h6;exact h6.1.symm
      rw [h5, ← Bn];simp
end Go.Ab
end
section
namespace Go.Ab
open Go.Proofs
attribute [local congr] ACall.congr gd.congr Nx.congr
set_option maxRecDepth 10000
set_option maxHeartbeats 4000000
def rz (row:List It) (a b:Int):Nat→Int × Int
 |0=>(-1,0)
 |k+1=>if ((row.getD k (0,0,0)).2.2=a∨(row.getD k (0,0,0)).2.2=b)∧(row.getD k (0,0,0)).2.2≠(rz row a b k).1 then ((row.getD k (0,0,0)).2.2,(rz row a b k).2+1) else rz row a b k
end Go.Ab
end
section
namespace Go.Ab
open Go.Proofs
attribute [local congr] ACall.congr gd.congr Nx.congr
set_option maxRecDepth 10000
set_option maxHeartbeats 4000000
def zF (row:List It) (i:Nat):Int:=(row.getD i (0,0,0)).2.2
def En (row:List It) (i j:Nat):Bool:=decide (zF row i≠ -1)&&decide (zF row j≠ -1)&&decide (zF row i≠zF row j)&&decide (4≤(rz row (zF row i) (zF row j) row.length).2)
def Fm (row:List It):Bool:=(List.range row.length).any fun i=>(List.range row.length).any (En row i)
end Go.Ab
end
section
namespace Go.Ab
open Go.Proofs
attribute [local congr] ACall.congr gd.congr Nx.congr
set_option maxRecDepth 10000
set_option maxHeartbeats 8000000
def T4 (row:List It) (a b c d:Nat):Prop:=0≤(row.getD a (0,0,0)).2.2∧0≤(row.getD b (0,0,0)).2.2∧(row.getD a (0,0,0)).2.2≠(row.getD b (0,0,0)).2.2∧(row.getD a (0,0,0)).2.2=(row.getD c (0,0,0)).2.2∧(row.getD b (0,0,0)).2.2=(row.getD d (0,0,0)).2.2
def G3 (row:List It):Prop:=∃a b c d,a<b∧b<c∧c<d∧d<row.length∧T4 row a b c d
end Go.Ab
end
section
namespace Go.Ab
open Go.Proofs
set_option maxRecDepth 10000
def Tg (a b:Int) (row:List It):Prop:=∃l:List It,l.Sublist row∧l.map (fun t=>t.2.2)= [a,b,a,b]
def vt (a b:Int) (t:It):Bool:=decide (t.2.2=a)||decide (t.2.2=b)
theorem Tg.Eo {a b:Int} {row:List It} :Tg a b row↔Tg a b (row.filter (vt a b)):=by
 constructor
 ·rintro ⟨l,h,e⟩
  refine ⟨l, ?_,e⟩
  have h1:=h.filter (vt a b)
  rw [List.filter_eq_self.2] at h1
  ·exact h1
  ·intro t ht
   have:t.2.2∈l.map (fun t=>t.2.2):=List.mem_map.2 ⟨t,ht,rfl⟩
   rw [e] at this
   simp only [vt,Bool.or_eq_true,decide_eq_true_eq]
   simp only [List.mem_cons,List.not_mem_nil,or_false] at this
   omega
 ·rintro ⟨l,h,e⟩
  exact ⟨l,h.trans List.filter_sublist,e⟩
theorem Tg.keep {a b x:Int} (ha:0≤a) (hb:0≤b) (xG:a≠x) (pH:b≠x) {A X C u:List It} (hX:∀t∈X,t.2.2=x∨t.2.2= -1) (h:Tg a b (A++X++C)):Tg a b (A++u++C):=by
 rw [Tg.Eo] at h ⊢
 obtain ⟨l,h,e⟩:=h
 refine ⟨l,h.trans ?_,e⟩
 rw [List.filter_append,List.filter_append,List.filter_append,List.filter_append]
 have:X.filter (vt a b)= []:=List.filter_eq_nil_iff.2 fun t ht=>by
  simp only [vt,Bool.or_eq_true,decide_eq_true_eq]
  rcases hX t ht with h|h<;>omega
 rw [this,List.append_nil]
 exact List.Sublist.append_right (List.sublist_append_left _ _) _
theorem Tg.not {a b x:Int} (hab:a≠b) (hb0:0≤b) (ha0:0≤a) (hx:x=a∨x=b) {A X C:List It} (hA:sO x A) (hC:sO x C) (hX:∀t∈X,t.2.2=x∨t.2.2= -1):¬Tg a b (A++X++C):=by
 rintro ⟨l,h,e⟩
 rw [List.append_assoc,List.sublist_append_iff] at h
 obtain ⟨l1,l',rfl,h1,h'⟩:=h
 rw [List.sublist_append_iff] at h'
 obtain ⟨l2,l3,rfl,h2,h3⟩:=h'
 have k1:∀t∈l1,t.2.2≠x:=fun t ht=>hA t (h1.subset ht)
 have k2:∀t∈l2,t.2.2=x∨t.2.2= -1:=fun t ht=>hX t (h2.subset ht)
 have k3:∀t∈l3,t.2.2≠x:=fun t ht=>hC t (h3.subset ht)
 clear h1 h2 h3
 match l1,k1,e with
 |t1::t2::_,k1,e=>
  simp only [List.cons_append,List.map_cons,List.cons.injEq] at e
  rcases hx with h|h
  ·exact k1 t1 (by simp) (by omega)
  ·exact k1 t2 (by simp) (by omega)
 | [t1],k1,e=>
   simp only [List.cons_append,List.nil_append,List.map_cons,List.cons.injEq] at e
   rcases hx with h|h
   ·exact k1 t1 (by simp) (by omega)
   ·match l2,k2,e with
    | [],_,e=>
      match l3,k3,e with
      | [s1,s2,s3],k3,e=>
        simp only [List.nil_append,List.map_cons,List.map_nil,List.cons.injEq,and_true] at e
        exact k3 s1 (by simp) (by omega)
      | [],_,e=>simp at e
      | [_],_,e=>simp at e
      | [_,_],_,e=>simp at e
      |_::_::_::_::_,_,e=>simp at e
    |s1::s2::_,k2,e=>
     simp only [List.cons_append,List.map_cons,List.cons.injEq] at e
     rcases k2 s2 (by simp) with h|h<;>omega
    | [s1],k2,e=>
      match l3,k3,e with
      | [u1,u2],k3,e=>
        simp only [List.cons_append,List.nil_append,List.map_cons,List.map_nil,List.cons.injEq,and_true] at e
        exact k3 u2 (by simp) (by omega)
      | [],_,e=>simp at e
      | [_],_,e=>simp at e
      |_::_::_::_,_,e=>simp at e
 | [],_,e=>
   simp only [List.nil_append] at e
   match l2,k2,e with
   | [],_,e=>
     match l3,k3,e with
     | [],_,e=>simp at e
     | [_],_,e=>simp at e
     |s1::s2::_,k3,e=>
      simp only [List.nil_append,List.map_cons,List.cons.injEq] at e
      rcases hx with h|h
      ·exact k3 s1 (by simp) (by omega)
      ·exact k3 s2 (by simp) (by omega)
   |s1::s2::_,k2,e=>
    simp only [List.cons_append,List.map_cons,List.cons.injEq] at e
    have q1:=k2 s1 (by simp)
    have q2:=k2 s2 (by simp)
    omega
   | [s1],k2,e=>
     match l3,k3,e with
     | [],_,e=>simp at e
     | [_],_,e=>simp at e
     | [_,_],_,e=>simp at e
     |u1::u2::u3::_,k3,e=>
      simp only [List.cons_append,List.nil_append,List.map_cons,List.cons.injEq] at e
      have q1:=k2 s1 (by simp)
      exact k3 u2 (by simp) (by omega)
end Go.Ab
end
section
namespace Go.Ab
open Go.Proofs
set_option maxRecDepth 10000
def Ep (a b:Int):List It→Prop
 | []=>True
 | [t]=>t.2.2=a∨t.2.2=b
 |s::t::l=>(s.2.2=a∨s.2.2=b)∧s.2.2≠t.2.2∧Ep a b (t::l)
end Go.Ab
end
section
namespace Go.Ab
open Go.Proofs
attribute [local congr] ACall.congr gd.congr Nx.congr
set_option maxRecDepth 10000
end Go.Ab
end
section
namespace Go.Ab
open Go.Proofs
attribute [local congr] ACall.congr gd.congr Nx.congr
set_option maxRecDepth 10000
def Er (g:Gr) (out:List Int) (x:Nat) (i:Nat):Bool:=(List.range i).all fun j=> !decide (hd g j=(x:Int))||decide (tl g j∈out)
def G4 (g:Gr) (out:List Int) (k:Nat) (f:Bool):Prop:=k≤g.n.toNat∧(if f then 0<k∧wt g out (k - 1)=0∧∀j,j<k - 1→wt g out j≠0 else ∀j,j<k→wt g out j≠0)
def G5 (out:List Int) (k:Nat) (f:Bool):List Int:=if f then out++ [((k - 1:Nat):Int)] else out
end Go.Ab
end
section
namespace Go.Ab
open Go.Proofs
attribute [local congr] ACall.congr gd.congr Nx.congr
set_option maxRecDepth 10000
end Go.Ab
end
section
namespace Go.Ab
open Go.Proofs
set_option maxRecDepth 10000
structure Pl where
 ord:List Int
 outs:List (List Int)
def y5 (p:Pl) (k:Nat):Int:=p.ord.getD k 0
def Fo (p:Pl) (x:Int):List Int:=p.outs.getD x.toNat []
def y6 (g:Gr) (p:Pl):Prop:=p.outs.length=g.n.toNat∧p.ord.Perm (DX g.n.toNat)∧∀x:Nat,x<g.n.toNat→(p.outs.getD x []).Perm (ni g x)
def fK (g:Gr) (p:Pl):Nat→Fr
 |0=>⟨[], []⟩
 |k+1=>(o7 g (fK g p k) (y5 p k) (Fo p (y5 p k))).2
def xX (g:Gr) (p:Pl) (k:Nat):List It:=(o7 g (fK g p k) (y5 p k) (Fo p (y5 p k))).1.1
def Fp (g:Gr) (p:Pl) (k:Nat):Bool:=jU g (fK g p k) (y5 p k)
def BH (g:Gr) (p:Pl):Nat→List (List It)
 |0=>List.replicate g.n.toNat []
 |k+1=>(BH g p k).set (y5 p k).toNat (xX g p k)
def xY (g:Gr) (p:Pl):Nat→Option Nat
 |0=>none
 |k+1=>match xY g p k with
  |some i=>some i
  |none=>if Fp g p k=true then none else some k
def Fq (g:Gr) (p:Pl):Prop:=(AX g).1=0∧y6 g p∧∀k,k<g.n.toNat→Fp g p k=true
end Go.Ab
end
section
namespace Go.Ab
open Go.Proofs
set_option maxRecDepth 10000
def loose (l:List It):List Int:=(l.filter fun t=>decide (t.1<0)).map fun t=>t.2.1
def BI (g:Gr) (p:Pl):Nat→List Edge
 |0=> []
 |k+1=>BI g p k++(loose (xX g p k)).map fun v=>(v,y5 p k)
def o8 (g:Gr) (p:Pl):List It:=(fK g p g.n.toNat).row
def newL (g:Gr) (p:Pl):List Edge:=if 1<(o8 g p).length then (loose (o8 g p)).map fun v=>(v,g.n) else []
def BJ (g:Gr) (p:Pl):List Edge:=BI g p g.n.toNat++newL g p
def y7 (g:Gr) (p:Pl):Gr:=⟨if 1<(o8 g p).length then g.n+1 else g.n,g.es++BJ g p⟩
def BK:Nat→List Edge→List (List Int)→List (List Int)
 |_, [],O=>O
 |m,e::N,O=>BK (m+1) N (O.set e.1.toNat [(m:Int)])
def Es (g:Gr) (p:Pl):Pl:=⟨if 1<(o8 g p).length then p.ord++ [g.n] else p.ord,BK g.es.length (BJ g p) (if 1<(o8 g p).length then p.outs++ [[]] else p.outs)⟩
def G6 (g:Gr) (p:Pl) (x:Gr):List (List Int):=(List.range x.n.toNat).map fun v=>if 0<(p.outs.getD v []).length then p.outs.getD v [] else ni x (v:Int)
end Go.Ab
end
section
namespace Go.Ab
open Go.Proofs
set_option maxRecDepth 10000
abbrev Act:=Int × List Int
def rA (a:Act):List D:= [.sc (.int .i64 a.1),sI a.2]
def sA (as':List Act):D:= .sl 2 (as'.map rA)
attribute [go_sem] sA
def BL (g:Gr) (y8:List Act):Nat→Fr
 |0=>⟨[], []⟩
 |k+1=>(xw g (BL g y8 k) (y8.getD k (0, [])).1 (y8.getD k (0, [])).2).2
end Go.Ab
end
section
namespace Go.Ab
open Go.Proofs
attribute [local congr] ACall.congr gd.congr Nx.congr
set_option maxRecDepth 10000
set_option maxHeartbeats 4000000
def ePl (p:Pl):AV:= .agg [.d (sI p.ord), .d (.sl 1 (vI p.outs))]
attribute [go_sem] ePl
structure Fs (p:Pl):Prop where
 ord:p.ord.length≤17592186043904
 outs:p.outs.length≤9223372036854775807
 each:∀l∈p.outs,l.length≤17592186043904
end Go.Ab
end
section
namespace Go.Ab
open Go.Proofs
attribute [local congr] ACall.congr gd.congr Nx.congr
set_option maxRecDepth 10000
set_option maxHeartbeats 8000000
def G7 (m:Nat) (fl:List Int):List Int:=(List.range m).map fun i:Nat=>if (i:Int)∈fl then (1:Int) else 0
end Go.Ab
end
section
namespace Go.Ab
open Go.Proofs
attribute [local congr] ACall.congr gd.congr Nx.congr
set_option maxRecDepth 10000
set_option maxHeartbeats 8000000
def y9 (b:Bool) (g:Gr) (p:Pl):(List (List It) × List It) × Int × Int:=
 if b=false then (([], []),(1,0)) else
 match xY g p g.n.toNat with
 |some i=>(([], []),(3,(i:Int)))
 |none=>((BH g p g.n.toNat,(fK g p g.n.toNat).row),(0,0))
end Go.Ab
end
section
namespace Go.Ab
open Go.Proofs
attribute [local congr] ACall.congr gd.congr Nx.congr
set_option maxRecDepth 10000
set_option maxHeartbeats 8000000
end Go.Ab
end
section
namespace Go.Ab
open Go.Proofs
attribute [local congr] ACall.congr gd.congr Nx.congr
set_option maxRecDepth 10000
set_option maxHeartbeats 8000000
def HY (n:Int) (es:List Edge) (ord:List Int) (O:List (List Int)):List (Nat × AObj):= [(10000, .box [eN n, .ref 10001, .ref 10002, .ref 10003]),(10001, .tip 42 2 (es.map rE)),(10002, .tip 3 1 (ord.map rI)),(10003, .own 25 1 (vI O))]
def HZ (n:Int) (es:List Edge) (ord:List Int) (O:List (List Int)):List (Nat × AObj):= [(10000, .box [eN n, .ref 10004, .ref 10002, .ref 10003]),(10004, .tip 42 2 (es.map rE)),(10002, .tip 3 1 (ord.map rI)),(10003, .own 25 1 (vI O))]
def G8 (x:Int) (items:List It):List Edge:=(loose items).map fun v=>(v,x)
end Go.Ab
end
section
namespace Go.Ab
open Go.Proofs
attribute [local congr] ACall.congr gd.congr Nx.congr
set_option maxRecDepth 10000
set_option maxHeartbeats 16000000
def pz:Pl:=⟨[], []⟩
def G9 (b:Bool) (g:Gr) (p:Pl):Gr × Pl × Int:=
 if (y9 b g p).2.1≠0 then (gz,pz,1) else if 64<(y7 g p).n∨128<(y7 g p).es.length then (gz,pz,10) else (y7 g p,Es g p,0)
end Go.Ab
end
section
namespace Go.Ab
open Go.Proofs
attribute [local congr] ACall.congr gd.congr Nx.congr
set_option maxRecDepth 10000
set_option maxHeartbeats 16000000
def He (p:Pl) (x:Gr) (k:Nat):List (List Int):=(List.range k).map fun v=>if 0<(p.outs.getD v []).length then p.outs.getD v [] else ni x (v:Int)
end Go.Ab
end
section
namespace Go.Ab
open Go.Proofs
attribute [local congr] ACall.congr gd.congr Nx.congr
set_option maxRecDepth 10000
set_option maxHeartbeats 8000000
def Hf (g:Gr) (p:Pl):Bool:=decide (200<g.es.length)||decide (100<p.ord.length)||decide (100<p.outs.length)||p.outs.any fun l=>decide (200<l.length)
structure Ft (p:Pl):Prop where
 ord:p.ord.length≤9223372036854775807
 outs:p.outs.length≤9223372036854775807
 each:∀l∈p.outs,l.length≤9223372036854775807
def H6 (g:Gr):Bool:=decide ((AX g).1=0)&&decide ((uw (·.1) g).length=1)
end Go.Ab
end
section
namespace Go.Ab
open Go.Proofs
attribute [local congr] ACall.congr gd.congr Nx.congr
set_option maxRecDepth 10000
set_option maxHeartbeats 8000000
def g16:Gr:=⟨3, [(0,1),(0,2)]⟩
def H7:Pl:=⟨[0,1,2], [[0,1], [], []]⟩
def H8:Gr:=⟨4, [(0,1),(0,2),(1,3),(2,3)]⟩
def H9:Pl:=⟨[0,1,2,3], [[0,1], [2], [3], []]⟩
end Go.Ab
end
section
namespace Go.Ab
open Go.ChangeShapes Go.WideShapes Go.ChangeAt Go.RowKit
end Go.Ab
end
