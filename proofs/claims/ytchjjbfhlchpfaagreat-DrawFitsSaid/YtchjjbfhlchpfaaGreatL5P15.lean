/- A part of the proof. -/
import Derived.WalkKit
import Derived.Deep.QuietTactic
import Derived.Tactics2
import Derived.LoopN
import Derived.LoopTactic
import Derived.Laws.IdiomRangeMap
import Derived.Test.YtchjjbfhlchpfaaGreatL5P14
set_option linter.unusedSimpArgs false
set_option linter.unusedVariables false
section
namespace Go.Ab
open Go.Proofs Go.RowKit
set_option maxRecDepth 10000
set_option maxHeartbeats 4000000
def G2:Value→Nat
 | .int _ k=>k.toNat
 |_=>0
def G3:Value→Int
 | .int _ v=>v
 |_=>0
def dO (T:Nat→Int) (x:Int) (e:Nat) (k:Nat) (v:Int):Bool:=decide (v=x)&&decide (k≠e)&&decide (T k=T e)
def gZ {α:Type} (P:Program) (s:Sem α):Prop:=∀W v W',s.run P W= .ok v W'→W'.tape=W.tape
theorem gZ.bind {α β:Type} {P:Program} {s:Sem α} {k:α→Sem β} (h:gZ P s) (hk:∀a,gZ P (k a)):gZ P (s>>= k):=by
 intro W v W' e
 rw [Sem.run_bind] at e
 cases hs:s.run P W with
 |ok a W1=>
  rw [hs] at e
  exact (hk a W1 v W' e).trans (h W a W1 hs)
 |halt hh W1=>rw [hs] at e;cases e
theorem F2 {α:Type} {P:Program} (a:α):gZ P (pure a:Sem α):=by
 intro W v W' e
 cases e;rfl
theorem F3 {α:Type} {P:Program} (h:Halt):gZ P (.halt h:Sem α):=by
 intro W v W' e
 cases e
theorem HW {P:Program} (r:Nat):gZ P (getObj r):=by
 intro W v W' e
 simp only [getObj,Sem.run] at e
 split at e
 ·cases e
 ·cases e;rfl
 ·cases e
theorem HX {P:Program} (r:Nat) (o:Obj):gZ P (setObj r o):=by
 intro W v W' e
 simp only [setObj,Sem.run] at e
 split at e
 ·cases e
 ·cases e;rfl
 ·cases e
theorem BR {P:Program} (q:Question):gZ P (choose q):=by
 intro W v W' e
 simp only [choose,Sem.run] at e
 split at e
 ·cases e;rfl
 ·cases e;rfl
theorem BS {P:Program} (it:Value) (b:Bool) (ty:TypeId):gZ P (Instr.next it b ty):=by
 unfold Instr.next
 repeat' (first|exact F2 _|exact F3 _|exact HW _|exact HX _ _|exact BR _|(refine gZ.bind ?_ fun _=> ?_)|split)
theorem zx (B bm be ne ce:Nat) (es:Array MapEntry) (T:Nat→Int) (x:Int) (e:Nat) (w:World) (hB:B<w.heap.size) (pU:be<w.heap.size)
 (h1:w.cell? ⟨B,1,none⟩=some (.slice (some ⟨be,0,none⟩) ne ce)) (h4:w.cell? ⟨B,4,none⟩=some (.map (some bm)))
 (hb:w.heap[bm]? =some (.map es es.size)) (hT:∀i,i<ne→w.cell? ⟨be,i*2,none⟩=some (.int .i64 (T i))) (he:e<ne) (hne:ne≤1000)
 (hst:(∀y∈es.toList,y.born<es.size)∧(es.toList.map (·.born)).Nodup) (hE:∀y∈es.toList,∃(k:Nat) (v:Int),y.key= .int .i64 k∧y.val= .int .i64 v∧k<ne):
 Calls Tryz.prog 167 #[.pointer (some ⟨B,0,none⟩), .int .i64 x, .int .i64 e] w fun en w'=>en= .returned (.bool (es.toList.any fun y=>dO T x e (G2 y.key) (G3 y.val)))∧
  ∃(w1:World) (seen:Array Nat),(w1.Alike w∧w1.tape=w.tape)∧w'=w1.alloc (.mapIter (some bm) es.size seen es.size):=by
 have M8:=run_range_map (P:=Tryz.prog) w 69 3 3 bm es es.size Tryz.underlying69 hb
 go_enter Tryz.func167,Tryz.ntmps167
 go_wp2
 go_loopw [] (fun w'=>∃(w1:World) (seen:Array Nat),(w1.Alike w∧w1.tape=w.tape)∧w'=w1.alloc (.mapIter (some bm) es.size seen es.size)∧∀y∈es.toList,seen.contains y.born=true→dO T x e (G2 y.key) (G3 y.val)=false) (fun w'=>(leftOf es (w'.iterSeen w.heap.size)).size)
 case atStart=>exact ⟨w, #[],⟨⟨rfl,rfl,rfl⟩,rfl⟩,rfl,fun y _ h=>by simp at h⟩
 case round=>
  obtain ⟨w1,seen,⟨uq,Lr⟩,rfl,hno⟩:=hrel
  have hsz:w1.heap.size=w.heap.size:=by rw [uq.1]
  have hb1:w1.heap[bm]? =some (.map es es.size):=by rw [uq.1];exact hb
  have law:=run_next_map (P:=Tryz.prog) w1 0 bm es.size es.size seen es es.size hb1 hst.1 (Nat.le_refl _)
  rw [hsz] at law
  rcases law with ⟨h0,hrun⟩|⟨y,hy,w2,D2,hrun⟩
  ·have dN:∀ty,(Instr.next (.pointer (some ⟨w.heap.size,0,none⟩)) false ty).run Tryz.prog (w1.alloc (.mapIter (some bm) es.size seen es.size))=_:=fun _=>hrun
   go_wp2
   go_ret
   have hf:(es.toList.any fun y=>dO T x e (G2 y.key) (G3 y.val))=false:=by
    rw [List.any_eq_false]
    intro y hy
    rw [hno y hy (all_seen es seen h0 y hy)];decide
   rw [hf]
   exact ⟨rfl,w1,seen,⟨uq,Lr⟩,rfl⟩
  ·obtain ⟨k,v,hkey,hval,hk⟩:=hE y (mem_left hy).1
   rw [hkey,hval] at hrun
   have dN:∀ty,(Instr.next (.pointer (some ⟨w.heap.size,0,none⟩)) false ty).run Tryz.prog (w1.alloc (.mapIter (some bm) es.size seen es.size))=_:=fun _=>hrun
   have HY:w2.heap.size=w.heap.size:=by rw [D2.1,uq.1]
   have hb2:w2.heap[bm]? =some (.map es es.size):=by rw [D2.1];exact hb1
   have P3:=run_entry_map (P:=Tryz.prog) w2 bm es.size seen es es.size y hb2 (mem_left hy).1 hst.2
   rw [HY,hkey,hval] at P3
   have F4:w2.tape=w.tape:=(BS _ _ _ _ _ _ hrun).trans Lr
   have D3:w2.Alike w:=⟨D2.1.trans uq.1,D2.2.1.trans uq.2.1,D2.2.2.trans uq.2.2⟩
   have hc:∀(o:Obj) (a:Addr),a.block<w.heap.size→(w2.alloc o).cell? a=w.cell? a:=fun o a ha=>by
    have:(w2.alloc o).heap[a.block]? =w.heap[a.block]? :=by rw [lD _ _ (by rw [HY];exact ha),D3.1]
    simp only [World.cell?,this]
   have g1:∀s,(w2.alloc (.mapIter (some bm) es.size s es.size)).cell? ⟨B,1,none⟩=some (.slice (some ⟨be,0,none⟩) ne ce):=fun s=>(hc _ _ hB).trans h1
   have g2:∀s,(w2.alloc (.mapIter (some bm) es.size s es.size)).cell? ⟨be,k*2,none⟩=some (.int .i64 (T k)):=fun s=>(hc _ _ pU).trans (hT k hk)
   have g3:∀s,(w2.alloc (.mapIter (some bm) es.size s es.size)).cell? ⟨be,e*2,none⟩=some (.int .i64 (T e)):=fun s=>(hc _ _ pU).trans (hT e he)
   have Oa:dO T x e (G2 y.key) (G3 y.val)=dO T x e k v:=by rw [hkey,hval];simp [G2,G3]
   have zy:dO T x e k v=false→∀z∈es.toList,(seen.push y.born).contains z.born=true→dO T x e (G2 z.key) (G3 z.val)=false:=fun hm z hz Ob=>by
    rw [contains_push] at Ob
    rcases Bool.or_eq_true _ _ ▸ Ob with h1|h1
    ·exact hno z hz h1
    ·have:z=y:=born_inj hst.2 hz (mem_left hy).1 (beq_iff_eq.1 h1)
     subst this
     rw [Oa];exact hm
   have hyes:dO T x e k v=true→(es.toList.any fun y=>dO T x e (G2 y.key) (G3 y.val))=true:=fun hm=>List.any_eq_true.2 ⟨y,(mem_left hy).1,by rw [Oa];exact hm⟩
   have hi2:∀n,((w2.alloc (.mapIter (some bm) es.size (seen.push y.born) es.size)).drewN n).iterSeen w.heap.size=seen.push y.born:=fun n=>by
    show (w2.alloc _).iterSeen _=_
    rw [← HY,World.iterSeen_alloc]
   have hi1:(w1.alloc (.mapIter (some bm) es.size seen es.size)).iterSeen w.heap.size=seen:=by rw [← hsz,World.iterSeen_alloc]
   clear hE hT hno hc h1 h4 hst
   by_cases c1:v=x
   ·by_cases c2:k=e
    ·have hm:dO T x e k v=false:=by simp [dO,c1,c2]
     subst c1 c2
     go_wp2
     go_quiet (fail)
     go_wp2
     go_roundw
     case rel=>exact ⟨w2.drewN nq,seen.push y.born,⟨D3,F4⟩,rfl,zy hm⟩
     case measure=>
      rw [hi2,hi1]
      exact left_shrinks es seen y hy
    ·have RT:¬((k:Int)=(e:Int)):=by omega
     by_cases c3:T k=T e
     ·have hm:dO T x e k v=true:=by simp [dO,c1,c2,c3]
      go_wp2
      go_quiet (fail)
      go_wp2
      go_ret
      rw [hyes hm]
      exact ⟨rfl,w2.drewN nq,_,⟨D3,F4⟩,rfl⟩
     ·have hm:dO T x e k v=false:=by simp [dO,c3]
      have b3:(T k==T e)=false:=by simpa using c3
      go_wp2
      go_quiet (fail)
      go_wp2
      go_roundw
      case rel=>exact ⟨w2.drewN nq,seen.push y.born,⟨D3,F4⟩,rfl,zy hm⟩
      case measure=>
       rw [hi2,hi1]
       exact left_shrinks es seen y hy
   ·have hm:dO T x e k v=false:=by simp [dO,c1]
    have b1:(v==x)=false:=by simpa using c1
    clear c1
    go_wp2
    go_quiet (fail)
    go_wp2
    go_roundw
    case rel=>exact ⟨w2.drewN nq,seen.push y.born,⟨D3,F4⟩,rfl,zy hm⟩
    case measure=>
     rw [hi2,hi1]
     exact left_shrinks es seen y hy
end Go.Ab
end
section
namespace Go.Ab
set_option maxRecDepth 10000
structure PS where
 m:Nat
 src:Int
 Ki:Int
 tl:Int→Int
 hd:Int→Int
 ins:Int→List Int
 outs:Int→List Int
 M9:Int→Nat
 Row:Nat→List Int→List Int→Prop
 k0:Nat
def PS.E (P:PS) (e:Int):Prop:=0≤e∧e<P.m
structure PS.Ok (P:PS):Prop where
 xV:∀x e,e∈P.outs x↔P.E e∧P.tl e=x
 jT:∀x e,e∈P.ins x↔P.E e∧P.hd e=x
 qo:∀x,(P.outs x).Nodup
 D4:∀x,(P.ins x).Nodup
 D5:∀e,P.E e→P.M9 (P.tl e)<P.M9 (P.hd e)
 HZ:P.Row P.k0 (P.outs P.src) [P.src]
 zA:∀ {k W D},P.Row k W D→W.Nodup
 qp:∀ {k W D},P.Row k W D→∀e,e∈W↔P.E e∧P.tl e∈D∧P.hd e∉D
 rS:∀ {k W D},P.Row (k+1) W D→∃x A C,W=A++P.ins x++C∧P.ins x≠ []
 row_step:∀ {k W D x A C},P.Row k W D→W=A++P.ins x++C→P.ins x≠ []→∃k',k=k'+1∧P.Row k' (A++P.outs x++C) (D++ [x])
 vQ:∀ {W D},P.Row 0 W D→∀e,P.E e→P.hd e∈D
 AF:∀ {k W D},P.Row k W D→P.src∈D
 AG:∀ {k W D},P.Row k W D→P.Ki∈D→k=0
 zB:P.ins P.src= []
 AH:∀x,P.ins x≠ []→(P.outs x= []↔x=P.Ki)
theorem ow {l:List Int} :l.reverse.Nodup↔l.Nodup:=(List.reverse_perm l).nodup_iff
def PS.CQ (P:PS):PS:= {P with ins:=fun x=>(P.ins x).reverse,outs:=fun x=>(P.outs x).reverse,Row:=fun k W D=>P.Row k W.reverse D}
theorem PS.Ok.CQ {P:PS} (h:P.Ok):P.CQ.Ok:=
 {xV:=fun x e=>by show e∈(P.outs x).reverse↔_;rw [List.mem_reverse];exact h.xV x e
  jT:=fun x e=>by show e∈(P.ins x).reverse↔_;rw [List.mem_reverse];exact h.jT x e
  qo:=fun x=>by show (P.outs x).reverse.Nodup;exact ow.2 (h.qo x)
  D4:=fun x=>by show (P.ins x).reverse.Nodup;exact ow.2 (h.D4 x)
  D5:=h.D5
  HZ:=by show P.Row _ (P.outs P.src).reverse.reverse _;rw [List.reverse_reverse];exact h.HZ
  zA:=fun {k W D} hr=>ow.1 (h.zA (show P.Row k W.reverse D from hr))
  qp:=fun {k W D} hr e=>by
   have:=h.qp (show P.Row k W.reverse D from hr) e
   rw [List.mem_reverse] at this
   exact this
  rS:=fun {k W D} hr=>by
   obtain ⟨x,A,C,h1,h2⟩:=h.rS (show P.Row (k+1) W.reverse D from hr)
   refine ⟨x,C.reverse,A.reverse, ?_,fun h3=>h2 (List.reverse_eq_nil_iff.1 h3)⟩
   show W=C.reverse++(P.ins x).reverse++A.reverse
   rw [← List.reverse_reverse W,h1]
   simp
  row_step:=fun {k W D x A C} hr h1 h2=>by
   have h1:W=A++(P.ins x).reverse++C:=h1
   obtain ⟨k',h3,h4⟩:=h.row_step (x:=x) (A:=C.reverse) (C:=A.reverse) (show P.Row k W.reverse D from hr) (by rw [h1];simp) (fun h3=>h2 (List.reverse_eq_nil_iff.2 h3))
   refine ⟨k',h3, ?_⟩
   show P.Row k' (A++(P.outs x).reverse++C).reverse (D++ [x])
   have e:(A++(P.outs x).reverse++C).reverse=C.reverse++P.outs x++A.reverse:=by simp
   rw [e];exact h4
  vQ:=fun {W D} hr=>h.vQ (show P.Row 0 W.reverse D from hr)
  AF:=fun {k W D} hr=>h.AF (show P.Row k W.reverse D from hr)
  AG:=fun {k W D} hr=>h.AG (show P.Row k W.reverse D from hr)
  zB:=by show (P.ins P.src).reverse= [];rw [h.zB];rfl
  AH:=fun x hx=>by
   have h2:P.ins x≠ []:=fun h3=>hx (by show (P.ins x).reverse= [];rw [h3];rfl)
   show (P.outs x).reverse= []↔_
   rw [List.reverse_eq_nil_iff];exact h.AH x h2}
structure MS where
 A:List Int
 B:List Int
 D:List Int
def PS.next (P:PS) (s:MS):MS:=
 match s.B with
 | []=>s
 |e::B=>if P.ins (P.hd e)<:+s.A++ [e] then ⟨(s.A++ [e]).take (s.A.length+1 - (P.ins (P.hd e)).length),P.outs (P.hd e)++B,s.D++ [P.hd e]⟩ else ⟨s.A++ [e],B,s.D⟩
def PS.st (P:PS):Nat→MS
 |0=>⟨[],P.outs P.src, [P.src]⟩
 |j+1=>P.next (P.st j)
def PS.sh (P:PS) (j:Nat):Int:=(P.st j).B.headD 0
def PS.CR (P:PS) (j:Nat):List Int:=(List.range j).map P.sh
variable {P:PS}
theorem PS.rV {j:Nat} :P.CR (j+1)=P.CR j++ [P.sh j]:=by simp [PS.CR,List.range_succ]
theorem PS.F5 {j:Nat} :(P.CR j).length=j:=by simp [PS.CR]
structure PS.Inv (P:PS) (j:Nat) (s:MS):Prop where
 row:∃k,P.Row k (s.A++s.B) s.D
 no:∀h,P.ins h≠ []→¬P.ins h<:+:s.A
 nd:(P.CR j).Nodup
 sh:∀e,e∈P.CR j↔P.E e∧(e∈s.A∨P.hd e∈s.D)
 len:j≤P.m
theorem lE:∀ {l m:List Int},l.Nodup→(∀i∈l,i∈m)→l.length≤m.length
 | [],_,_,_=>Nat.zero_le _
 |a::l,m,hn,h=>by
  rw [List.nodup_cons] at hn
  have ha:=h a (List.mem_cons_self ..)
  have:=lE (m:=m.erase a) hn.2 fun i hi=>(List.mem_erase_of_ne (show i≠a from fun e=>hn.1 (by rw [← e];exact hi))).2 (h i (List.mem_cons_of_mem _ hi))
  rw [List.length_erase_of_mem ha] at this
  have:=List.length_pos_of_mem ha
  rw [List.length_cons];omega
theorem BT {l:List Int} {m:Nat} (hall:∀e:Int,0≤e→e<m→e∈l):m≤l.length:=by
 have:=lE (l:=(List.range m).map Int.ofNat) (m:=l) (List.pairwise_map.2 (List.nodup_range.imp fun hab e=>hab (Int.ofNat.inj e))) fun x hx=>by
  obtain ⟨a,ha,rfl⟩:=List.mem_map.1 hx
  have:=List.mem_range.1 ha
  exact hall _ (by simp) (by simp;omega)
 simpa using this
theorem xW {X Y:List Int} (h:X<:+Y):Y=Y.take (Y.length - X.length)++X:=by
 obtain ⟨t,rfl⟩:=h
 simp
theorem PS.Inv.more (h:P.Ok) {j:Nat} {s:MS} (hi:P.Inv j s) (hj:j<P.m):∃e B,s.B=e::B:=by
 cases hB:s.B with
 |cons e B=>exact ⟨e,B,rfl⟩
 |nil=>
  exfalso
  obtain ⟨k,hr⟩:=hi.row
  rw [hB,List.append_nil] at hr
  cases k with
  |succ k=>
   obtain ⟨x,A,C,h1,h2⟩:=h.rS hr
   exact hi.no x h2 ⟨A,C,h1.symm⟩
  |zero=>
   have hall:∀e,P.E e→e∈P.CR j:=fun e he=>(hi.sh e).2 ⟨he, .inr (h.vQ hr e he)⟩
   have:=BT (fun e h1 h2=>hall e ⟨h1,h2⟩)
   rw [PS.F5] at this
   omega
theorem PS.BU {s:MS} {e:Int} {B:List Int} (hB:s.B=e::B):P.next s=if P.ins (P.hd e)<:+s.A++ [e] then ⟨(s.A++ [e]).take (s.A.length+1 - (P.ins (P.hd e)).length),P.outs (P.hd e)++B,s.D++ [P.hd e]⟩ else ⟨s.A++ [e],B,s.D⟩:=by
 unfold PS.next;rw [hB]
theorem PS.zC (h:P.Ok) {s:MS} {k:Nat} {e:Int} {B:List Int} (hr:P.Row k (s.A++s.B) s.D) (hB:s.B=e::B):
 P.E e∧((∃A',s.A++ [e]=A'++P.ins (P.hd e)∧P.ins (P.hd e)≠ []∧P.next s=⟨A',P.outs (P.hd e)++B,s.D++ [P.hd e]⟩)∨(¬P.ins (P.hd e)<:+s.A++ [e]∧P.next s=⟨s.A++ [e],B,s.D⟩)):=by
 have he:P.E e:=((h.qp hr e).1 (by rw [hB];simp)).1
 refine ⟨he, ?_⟩
 rw [PS.BU hB]
 by_cases hs:P.ins (P.hd e)<:+s.A++ [e]
 ·rw [if_pos hs]
  refine .inl ⟨_, ?_,fun h0=> ?_,rfl⟩
  ·have:=xW hs
   simpa using this
  ·have:=(h.jT (P.hd e) e).2 ⟨he,rfl⟩
   rw [h0] at this;cases this
 ·rw [if_neg hs];exact .inr ⟨hs,rfl⟩
theorem zD {X A:List Int} {e:Int} (h:X<:+:A++ [e]):X<:+:A∨X<:+A++ [e]:=by
 obtain ⟨s,t,ht⟩:=h
 rcases List.eq_nil_or_concat t with rfl|⟨t',a,rfl⟩
 ·rw [List.append_nil] at ht;exact .inr ⟨s,ht⟩
 ·left
  refine ⟨s,t', ?_⟩
  have:s++X++t'++ [a]=A++ [e]:=by rw [← ht];simp
  exact (List.append_inj' this rfl).1
theorem PS.inv (h:P.Ok):∀j,j≤P.m→P.Inv j (P.st j)
 |0,_=>⟨⟨_,h.HZ⟩,fun x hx hs=>hx (by
    have:P.ins x<:+: []:=hs
    simpa using this),by simp [PS.CR],fun e=>(by
     simp only [PS.CR,List.range_zero,List.map_nil,List.not_mem_nil,false_iff]
     rintro ⟨he,h1|h1⟩
     ·cases h1
     ·have h1:P.hd e∈ [P.src]:=h1
      have h2:P.hd e=P.src:=by simpa using h1
      have:=(h.jT P.src e).2 ⟨he,h2⟩
      rw [h.zB] at this;cases this),Nat.zero_le _⟩
 |j+1,hj=>by
  have hi:=PS.inv h j (by omega)
  obtain ⟨e,B,hB⟩:=hi.more h (by omega)
  obtain ⟨k,hr⟩:=hi.row
  have hsh:P.sh j=e:=by unfold PS.sh;rw [hB];rfl
  have P4:e∈(P.st j).A++(P.st j).B:=by rw [hB];simp
  have hm:=(h.qp hr e).1 P4
  have bS:=h.zA hr
  have Na:e∉(P.st j).A:=fun hA=>by
   rw [List.nodup_append] at bS
   exact bS.2.2 e hA e (by rw [hB];simp) rfl
  have hnew:e∉P.CR j:=fun h1=>by
   rcases ((hi.sh e).1 h1).2 with h2|h2
   ·exact Na h2
   ·exact hm.2.2 h2
  have eR:(P.CR (j+1)).Nodup:=by
   rw [PS.rV,hsh,List.nodup_append]
   exact ⟨hi.nd,by simp,fun a ha b hb=>by
    rw [List.mem_singleton] at hb
    subst hb
    intro e2;exact hnew (e2 ▸ ha)⟩
  obtain ⟨he,hc⟩:=PS.zC h hr hB
  have hst:P.st (j+1)=P.next (P.st j):=rfl
  rw [hst]
  rcases hc with ⟨A',h1,h2,h3⟩|⟨h1,h3⟩
  ·rw [h3]
   have hrow:(P.st j).A++(P.st j).B=A'++P.ins (P.hd e)++B:=by rw [hB, ← h1];simp
   obtain ⟨k',rfl,hr'⟩:=h.row_step hr hrow h2
   refine ⟨⟨k',by simpa using hr'⟩,fun x hx hs=> ?_,eR,fun f=> ?_,hj⟩
   ·have hs:P.ins x<:+:A':=hs
    have hA:¬P.ins x<:+:(P.st j).A:=hi.no x hx
    obtain ⟨u,v,huv⟩:=hs
    rcases List.eq_nil_or_concat (P.ins (P.hd e)) with h0|⟨I',a,h0⟩
    ·exact h2 h0
    ·rw [h0, ← List.concat_eq_append,List.concat_eq_append] at h1
     have h4:(P.st j).A++ [e]=(A'++I')++ [a]:=by rw [h1];simp
     have h5:=(List.append_inj' h4 rfl).1
     exact hA ⟨u,v++I',by rw [h5, ← huv];simp⟩
   ·rw [PS.rV,hsh,List.mem_append,List.mem_singleton,hi.sh f]
    show _↔P.E f∧(f∈A'∨P.hd f∈(P.st j).D++ [P.hd e])
    constructor
    ·rintro (⟨h4,h5|h5⟩|rfl)
     ·have:f∈A'++P.ins (P.hd e):=by rw [← h1];exact List.mem_append.2 (.inl h5)
      rcases List.mem_append.1 this with h6|h6
      ·exact ⟨h4, .inl h6⟩
      ·exact ⟨h4, .inr (by rw [((h.jT _ _).1 h6).2];simp)⟩
     ·exact ⟨h4, .inr (List.mem_append.2 (.inl h5))⟩
     ·exact ⟨he, .inr (by simp)⟩
    ·rintro ⟨h4,h5|h5⟩
     ·have:f∈(P.st j).A++ [e]:=by rw [h1];exact List.mem_append.2 (.inl h5)
      rcases List.mem_append.1 this with h6|h6
      ·exact .inl ⟨h4, .inl h6⟩
      ·exact .inr (by simpa using h6)
     ·rcases List.mem_append.1 h5 with h6|h6
      ·exact .inl ⟨h4, .inr h6⟩
      ·have h6:P.hd f=P.hd e:=by simpa using h6
       have h7:f∈P.ins (P.hd e):=(h.jT _ _).2 ⟨h4,h6⟩
       have:f∈(P.st j).A++ [e]:=by rw [h1];exact List.mem_append.2 (.inr h7)
       rcases List.mem_append.1 this with h8|h8
       ·exact .inl ⟨h4, .inl h8⟩
       ·exact .inr (by simpa using h8)
  ·rw [h3]
   refine ⟨⟨k,by simpa [hB] using hr⟩,fun x hx hs=> ?_,eR,fun f=> ?_,hj⟩
   ·rcases zD hs with h4|h4
    ·exact hi.no x hx h4
    ·have hne:e∈P.ins x:=by
      obtain ⟨t,ht⟩:=h4
      rcases List.eq_nil_or_concat (P.ins x) with h0|⟨I',a,h0⟩
      ·exact absurd h0 hx
      ·rw [h0] at ht
       have h5:(t++I')++ [a]=(P.st j).A++ [e]:=by rw [← ht];simp
       have:=(List.append_inj' h5 rfl).2
       rw [h0];simp at this ⊢;exact .inr this.symm
     rw [((h.jT _ _).1 hne).2] at h1
     exact h1 h4
   ·rw [PS.rV,hsh,List.mem_append,List.mem_singleton,hi.sh f]
    show _↔P.E f∧(f∈(P.st j).A++ [e]∨P.hd f∈(P.st j).D)
    rw [List.mem_append,List.mem_singleton]
    constructor
    ·rintro (⟨h4,h5|h5⟩|rfl)
     ·exact ⟨h4, .inl (.inl h5)⟩
     ·exact ⟨h4, .inr h5⟩
     ·exact ⟨he, .inl (.inr rfl)⟩
    ·rintro ⟨h4,(h5|h5)|h5⟩
     ·exact .inl ⟨h4, .inl h5⟩
     ·exact .inr h5
     ·exact .inl ⟨h4, .inr h5⟩
end Go.Ab
end
section
namespace Go.Ab
set_option maxRecDepth 10000
set_option linter.unusedSectionVars false
variable {P:PS}
structure PS.jf (P:PS) (L R:Int→Int) (f0 f1:Int) (low:Int→Int):Prop where
 ne:f0≠f1
 lF:∀ {x u a b v},P.outs x=u++a::b::v→R a=L b
 zE:∀ {x u a b v},P.ins x=u++a::b::v→R a=L b
 fst:∀ {x a u b v},P.ins x=a::u→P.outs x=b::v→L a=L b
 H6:∀ {x a u b v},P.ins x=u++ [a]→P.outs x=v++ [b]→R a=R b
 s0:∀ {b v},P.outs P.src=b::v→L b=f0
 s1:∀ {b v},P.outs P.src=v++ [b]→R b=f1
 new:∀ {x u a b v},P.outs x=u++a::b::v→low (R a)=x∧R a≠f0∧R a≠f1
 new1:∀ {x u a b v u' a' b' v'},P.outs x=u++a::b::v→P.outs x=u'++a'::b'::v'→R a=R a'→a=a'
theorem D6 {l u v u' v':List Int} {a:Int} (hn:l.Nodup) (h1:l=u++a::v) (h2:l=u'++a::v'):u=u'∧v=v':=by
 induction u generalizing l u' with
 |nil=>
  cases u' with
  |nil=>rw [h1] at h2;simpa using h2
  |cons b u'=>
   rw [h1] at h2
   simp only [List.nil_append,List.cons_append,List.cons.injEq] at h2
   rw [h1,h2.2] at hn
   simp at hn
 |cons b u ih=>
  cases u' with
  |nil=>
   rw [h2] at h1
   simp only [List.nil_append,List.cons_append,List.cons.injEq] at h1
   rw [h2,h1.2] at hn
   simp at hn
  |cons b' u'=>
   have h3:=h1.symm.trans h2
   simp only [List.cons_append,List.cons.injEq] at h3
   rw [h1,List.cons_append,List.nodup_cons] at hn
   obtain ⟨h4,h5⟩:=ih hn.2 rfl h3.2
   exact ⟨by rw [h3.1,h4],h5⟩
theorem gK {l u v:List Int} {a b:Int} (h:l.reverse=u++a::b::v):l=v.reverse++b::a::u.reverse:=by
 have:=congrArg List.reverse h
 simpa using this
theorem PS.jf.CQ (h:P.Ok) {L R:Int→Int} {f0 f1:Int} {low:Int→Int} (F:P.jf L R f0 f1 low):P.CQ.jf R L f1 f0 low:=
 {ne:=F.ne.symm
  lF:=fun {x u a b v} h=>(F.lF (gK (show (P.outs x).reverse=_ from h))).symm
  zE:=fun {x u a b v} h=>(F.zE (gK (show (P.ins x).reverse=_ from h))).symm
  fst:=fun {x a u b v} h1 h2=>F.H6 (x:=x) (u:=u.reverse) (v:=v.reverse) (by
     have:=congrArg List.reverse (show (P.ins x).reverse=_ from h1);simpa using this) (by
     have:=congrArg List.reverse (show (P.outs x).reverse=_ from h2);simpa using this)
  H6:=fun {x a u b v} h1 h2=>F.fst (x:=x) (u:=u.reverse) (v:=v.reverse) (by
    have:=congrArg List.reverse (show (P.ins x).reverse=_ from h1);simpa using this) (by
    have:=congrArg List.reverse (show (P.outs x).reverse=_ from h2);simpa using this)
  s0:=fun {b v} h1=>F.s1 (v:=v.reverse) (by
     have:=congrArg List.reverse (show (P.outs P.src).reverse=_ from h1);simpa using this)
  s1:=fun {b v} h1=>F.s0 (v:=v.reverse) (by
     have:=congrArg List.reverse (show (P.outs P.src).reverse=_ from h1);simpa using this)
  new:=fun {x u a b v} h1=>by
   have h2:=gK (show (P.outs x).reverse=_ from h1)
   obtain ⟨h3,h4,h5⟩:=F.new h2
   have h6:=F.lF h2
   rw [← h6];exact ⟨h3,h5,h4⟩
  new1:=fun {x u a b v u' a' b' v'} h1 h2 h3=>by
   have g1:=gK (show (P.outs x).reverse=_ from h1)
   have g2:=gK (show (P.outs x).reverse=_ from h2)
   rw [← F.lF g1, ← F.lF g2] at h3
   have h4:=F.new1 g1 g2 h3
   subst h4
   have:=(D6 (h.qo x) g1 g2).2
   simp only [List.cons.injEq] at this
   exact this.1}
def nk (L R:Int→Int):Int→List Int→Prop
 |_, []=>True
 |f,a::W=>L a=f∧nk L R (R a) W
def ox (R:Int→Int):Int→List Int→Int
 |f, []=>f
 |_,a::W=>ox R (R a) W
theorem jg {L R:Int→Int} :∀ {A B:List Int} {f:Int},nk L R f (A++B)↔nk L R f A∧nk L R (ox R f A) B
 | [],B,f=>by simp [nk,ox]
 |a::A,B,f=>by simp [nk,ox,jg,and_assoc]
theorem fX {R:Int→Int} :∀ {A B:List Int} {f:Int},ox R f (A++B)=ox R (ox R f A) B
 | [],B,f=>rfl
 |a::A,B,f=>by simp [ox,fX]
theorem ur {R:Int→Int} {A:List Int} {a f:Int} :ox R f (A++ [a])=R a:=by rw [fX];rfl
theorem xX {L R:Int→Int} :∀ {X:List Int} {f:Int},(∀u a b v,X=u++a::b::v→R a=L b)→(∀a u,X=a::u→L a=f)→nk L R f X
 | [],f,_,_=>trivial
 |a::X,f,h,h1=>⟨h1 a X rfl,xX (fun u b c v e=>h (a::u) b c v (by rw [e];rfl)) fun b v e=>(h [] a b v (by rw [e];rfl)).symm⟩
theorem AI {l:List Int} (h:l≠ []):∃u a,l=u++ [a]:=by
 rcases List.eq_nil_or_concat l with h1|⟨u,a,h1⟩
 ·exact absurd h1 h
 ·exact ⟨u,a,by rw [h1,List.concat_eq_append]⟩
theorem vR {l:List Int} (h:l≠ []):∃a u,l=a::u:=by
 cases l with
 |nil=>exact absurd rfl h
 |cons a u=>exact ⟨a,u,rfl⟩
structure H7 (L R:Int→Int) (f0 f1:Int) (low:Int→Int) (W D:List Int):Prop where
 lk:nk L R f0 W
 en:ox R f0 W=f1
 nd:(W.map R).Nodup
 lo:∀a∈W,R a≠f0∧(R a=f1∨(R a≠f1∧low (R a)∈D))
theorem BW {X U V Y:List Int} {r:Int} (h:(X++(U++ [r])++Y).Nodup) (hV:V.Nodup) (hd:∀z∈V,z∉X∧z≠r∧z∉Y):(X++(V++ [r])++Y).Nodup:=by
 have h1:(X++ [r]++Y).Nodup:=by
  refine List.Nodup.sublist ?_ h
  refine List.Sublist.append (List.Sublist.append (List.Sublist.refl _) ?_) (List.Sublist.refl _)
  exact List.sublist_append_right ..
 have h2:(V++(X++ [r]++Y)).Nodup:=by
  rw [List.nodup_append]
  refine ⟨hV,h1,fun a ha b hb e=> ?_⟩
  subst e
  obtain ⟨g1,g2,g3⟩:=hd a ha
  simp only [List.mem_append,List.mem_singleton] at hb
  rcases hb with (hb|hb)|hb
  ·exact g1 hb
  ·exact g2 hb
  ·exact g3 hb
 refine (List.Perm.nodup_iff ?_).1 h2
 have:X++(V++ [r])++Y=(X++V)++([r]++Y):=by simp
 rw [this]
 have:V++(X++ [r]++Y)=(V++X)++([r]++Y):=by simp
 rw [this]
 exact List.Perm.append_right _ List.perm_append_comm
theorem lX {R:Int→Int} :∀ {l:List Int},l.Nodup→(∀a∈l,∀b∈l,R a=R b→a=b)→(l.map R).Nodup
 | [],_,_=>by simp
 |a::l,hn,h=>by
  rw [List.nodup_cons] at hn
  rw [List.map_cons,List.nodup_cons]
  refine ⟨fun hm=> ?_,lX hn.2 fun x hx y hy=>h x (List.mem_cons_of_mem _ hx) y (List.mem_cons_of_mem _ hy)⟩
  obtain ⟨b,hb,e⟩:=List.mem_map.1 hm
  have:=h b (List.mem_cons_of_mem _ hb) a (List.mem_cons_self ..) e
  exact hn.1 (this ▸ hb)
section
variable (h:P.Ok) {L R:Int→Int} {f0 f1:Int} {low:Int→Int} (F:P.jf L R f0 f1 low)
include h F
theorem mz {v:List Int} {b:Int} {x:Int} (hv:P.outs x=v++ [b]) {a:Int} (ha:a∈v):∃u c w,P.outs x=u++a::c::w:=by
 obtain ⟨s,t,rfl⟩:=List.append_of_mem ha
 cases t with
 |nil=>exact ⟨s,b, [],by rw [hv];simp⟩
 |cons c t=>exact ⟨s,c,t++ [b],by rw [hv];simp⟩
theorem BX {x f:Int} (hf:∀b v,P.outs x=b::v→L b=f):nk L R f (P.outs x):=xX (fun u a b v e=>F.lF e) fun a u e=>hf a u e
theorem F6 {x:Int} {v:List Int} {b:Int} (hv:P.outs x=v++ [b]):(v.map R).Nodup∧∀z∈v.map R,low z=x∧z≠f0∧z≠f1:=by
 have hn:=h.qo x
 rw [hv,List.nodup_append] at hn
 refine ⟨lX hn.1 fun a ha a' Kj e=> ?_,fun z hz=> ?_⟩
 ·obtain ⟨u,c,w,h1⟩:=mz h F hv ha
  obtain ⟨u',c',w',h2⟩:=mz h F hv Kj
  exact F.new1 h1 h2 e
 ·obtain ⟨a,ha,rfl⟩:=List.mem_map.1 hz
  obtain ⟨u,c,w,h1⟩:=mz h F hv ha
  exact F.new h1
theorem H7.step {A C D:List Int} {x:Int} (hi:H7 L R f0 f1 low (A++P.ins x++C) D) (hI:P.ins x≠ []) (hO:P.outs x≠ []) (hx:x∉D):H7 L R f0 f1 low (A++P.outs x++C) (D++ [x]):=by
 obtain ⟨u,a,hu⟩:=AI hI
 obtain ⟨v,b,hv⟩:=AI hO
 obtain ⟨a0,u0,Oc⟩:=vR hI
 obtain ⟨b0,v0,Jk⟩:=vR hO
 have hab:=F.H6 hu hv
 have h0:=F.fst Oc Jk
 obtain ⟨l1,l2⟩:=jg.1 hi.lk
 obtain ⟨l3,l4⟩:=jg.1 l1
 have IV:∀f,ox R f (P.ins x)=R a:=fun f=>by rw [hu,ur]
 have Od:∀f,ox R f (P.outs x)=R b:=fun f=>by rw [hv,ur]
 have hL:L a0=ox R f0 A:=by rw [Oc] at l4;exact l4.1
 obtain ⟨n1,n2⟩:=F6 h F hv
 have bS:=hi.nd
 have hlo:=hi.lo
 refine ⟨?_, ?_, ?_,fun c hc=> ?_⟩
 ·rw [jg,jg]
  refine ⟨⟨l3,BX h F fun b' v' e=> ?_⟩, ?_⟩
  ·rw [Jk] at e
   simp only [List.cons.injEq] at e
   rw [← e.1, ← h0,hL]
  ·rw [fX,Od]
   rw [fX,IV] at l2
   rw [← hab];exact l2
 ·have:=hi.en
  rw [fX,fX,IV] at this
  rw [fX,fX,Od, ← hab];exact this
 ·rw [List.map_append,List.map_append,hv,List.map_append]
  rw [List.map_append,List.map_append,hu,List.map_append] at bS
  simp only [List.map_cons,List.map_nil] at bS ⊢
  rw [← hab]
  have hold:∀c∈A++P.ins x++C,R c∉v.map R:=fun c hc hz=>by
   obtain ⟨g1,g2,g3⟩:=n2 _ hz
   rcases (hlo c hc).2 with h1|⟨_,h1⟩
   ·exact g3 h1
   ·rw [g1] at h1;exact hx h1
  refine BW bS n1 fun z hz=>⟨fun BH=> ?_,fun BH=> ?_,fun BH=> ?_⟩
  ·obtain ⟨c,hc,rfl⟩:=List.mem_map.1 BH
   exact hold c (by simp [hc]) hz
  ·exact hold a (by rw [hu];simp) (BH ▸ hz)
  ·obtain ⟨c,hc,rfl⟩:=List.mem_map.1 BH
   exact hold c (by simp [hc]) hz
 ·have hold:∀c∈A++P.ins x++C,R c≠f0∧(R c=f1∨(R c≠f1∧low (R c)∈D++ [x])):=fun c hc=>by
   obtain ⟨g1,g2⟩:=hlo c hc
   exact ⟨g1,g2.imp id fun ⟨g3,g4⟩=>⟨g3,List.mem_append.2 (.inl g4)⟩⟩
  simp only [List.mem_append] at hc
  rcases hc with (hc|hc)|hc
  ·exact hold c (by simp [hc])
  ·rw [hv,List.mem_append,List.mem_singleton] at hc
   rcases hc with hc|rfl
   ·obtain ⟨g1,g2,g3⟩:=n2 (R c) (List.mem_map_of_mem hc)
    exact ⟨g2, .inr ⟨g3,by rw [g1];simp⟩⟩
   ·have:=hold a (by rw [hu];simp)
    rw [hab] at this;exact this
  ·exact hold c (by simp [hc])
end
end Go.Ab
end
section
namespace Go.Ab
set_option maxRecDepth 10000
set_option linter.unusedSectionVars false
variable {P:PS}
inductive PS.D7 (P:PS) (x:Int):Int→Prop
 |refl:P.D7 x x
 |step {e:Int} :P.D7 x (P.tl e)→P.E e→P.D7 x (P.hd e)
theorem PS.D7.trans {x y z:Int} (h1:P.D7 x y) (h2:P.D7 y z):P.D7 x z:=by
 induction h2 with
 |refl=>exact h1
 |step _ he ih=>exact .step ih he
inductive PS.Lp (P:PS) (L R:Int→Int) (F:Int):Int→Prop
 |refl:P.Lp L R F F
 |step {e:Int} :P.Lp L R F (L e)→P.E e→P.Lp L R F (R e)
theorem PS.Lp.trans {L R:Int→Int} {x y z:Int} (h1:P.Lp L R x y) (h2:P.Lp L R y z):P.Lp L R x z:=by
 induction h2 with
 |refl=>exact h1
 |step _ he ih=>exact .step ih he
theorem PS.Lp.head {L R:Int→Int} {e z:Int} (he:P.E e) (h2:P.Lp L R (R e) z):P.Lp L R (L e) z:=(PS.Lp.step .refl he).trans h2
theorem PS.Lp.CQ {L R:Int→Int} {x y:Int} (h1:P.Lp L R x y):P.CQ.Lp R L y x:=by
 induction h1 with
 |refl=>exact .refl
 | @step e h1 he ih=>exact PS.Lp.head (P:=P.CQ) (L:=R) (R:=L) (e:=e) he ih
theorem PS.D7.CQ {x y:Int} (h1:P.D7 x y):P.CQ.D7 x y:=by
 induction h1 with
 |refl=>exact .refl
 |step h1 he ih=>exact PS.D7.step (P:=P.CQ) ih he
section
variable (h:P.Ok)
include h
variable {L R:Int→Int} {f0 f1:Int} {low:Int→Int} (F:P.jf L R f0 f1 low)
include F
end
end Go.Ab
end
section
namespace Go.Ab
set_option maxRecDepth 10000
set_option linter.unusedSectionVars false
variable {P:PS}
section
variable (h:P.Ok) {L R:Int→Int} {f0 f1:Int} {low:Int→Int} (F:P.jf L R f0 f1 low)
include h F
end
section
variable (h:P.Ok) {L R:Int→Int} {f0 f1:Int} {low:Int→Int} (F:P.jf L R f0 f1 low) {e f:Int} (he:P.E e) (hf:P.E f)
include h F he hf
end
section
variable (h:P.Ok) {L R:Int→Int} {f0 f1:Int} {low:Int→Int} (F:P.jf L R f0 f1 low) {e f:Int} (he:P.E e) (hf:P.E f)
include h F he hf
end
end Go.Ab
end
section
namespace Go.Ab
open Go.Proofs
attribute [local congr] ACall.congr gd.congr Nx.congr
set_option maxRecDepth 10000
set_option maxHeartbeats 8000000
def eC (f:Edge→Int) (es:List Edge) (k:Nat) (x:Nat):List Int:=((List.range k).filter fun i=>decide (f (es.getD i (0,0))=(x:Int))).map Int.ofNat
def lZ (f:Edge→Int) (es:List Edge) (n k:Nat):List (List (List D)):=(List.range n).map fun x=>(eC f es k x).map rI
def sL (ls:List (List Int)):D:= .sl 1 (ls.map fun l=> [sI l])
def dr (f:Edge→Int) (g:Gr):List (List Int):=(List.range g.n.toNat).map (eC f g.es g.es.length)
def vw (g:Gr):D:= .pt [.sc (.int .i64 g.n),sE g.es,sL (dr (·.1) g),sL (dr (·.2) g)]
theorem aH {g:Gr} (h:aK g=true):0<g.n∧g.n≤64∧g.es.length≤128:=by
 simp [aK] at h;omega
theorem dg {g:Gr} (h:aK g=true) {k:Nat} (hk:k<g.es.length):(0≤(g.es.getD k (0,0)).1∧(g.es.getD k (0,0)).1<g.n)∧(0≤(g.es.getD k (0,0)).2∧(g.es.getD k (0,0)).2<g.n):=by
 have h2:=xP (g:=g) hk
 rw [h] at h2
 have h3:¬mo g (g.es.getD k (0,0))=true:=fun e=>by simpa using h2 e
 simp only [mo,rN,Bool.or_eq_true,decide_eq_true_eq] at h3
 omega
theorem bU {f:Edge→Int} {es:List Edge} {n k:Nat} :(lZ f es n k).length=n:=by simp [lZ]
theorem jh {f:Edge→Int} {es:List Edge} {n k x:Nat} (hx:x<n):(lZ f es n k)[x]? =some ((eC f es k x).map rI):=by
 simp [lZ,List.getElem?_range hx]
theorem gL {f:Edge→Int} {es:List Edge} {k x:Nat} :(eC f es k x).length≤k:=by
 simpa [eC] using List.length_filter_le (fun i=>decide (f (es.getD i (0,0))=(x:Int))) (List.range k)
theorem zF {f:Edge→Int} {es:List Edge} {k x:Nat} :eC f es (k+1) x=eC f es k x++if f (es.getD k (0,0))=(x:Int) then [(k:Int)] else []:=by
 simp only [eC,List.range_succ,List.filter_append,List.map_append,List.filter_cons,List.filter_nil]
 split<;>simp_all
theorem rW {f:Edge→Int} {es:List Edge} {n k:Nat} (h0:0≤f (es.getD k (0,0))):
 (lZ f es n k).set (f (es.getD k (0,0))).toNat ((eC f es k (f (es.getD k (0,0))).toNat).map rI++ [[.sc (.int .i64 k)]])=lZ f es n (k+1):=by
 refine List.ext_getElem? fun i=> ?_
 rw [List.getElem?_set,bU]
 by_cases hi:i<n
 ·rw [jh hi,jh hi,zF]
  generalize f (es.getD k (0,0))=e at*
  by_cases hq:e=(i:Int)
  ·subst hq;simp [hi,rI]
  ·have:¬e.toNat=i:=by omega
   simp [hq,this]
 ·rw [List.getElem?_eq_none (by rw [bU];omega),List.getElem?_eq_none (by rw [bU];omega)]
  generalize f (es.getD k (0,0))=e at*
  split
  ·rename_i hq;rw [if_neg (by omega)]
  ·rfl
theorem rX {f:Edge→Int} {es:List Edge} {n:Nat} :List.replicate n []=lZ f es n 0:=by
 refine List.ext_getElem? fun i=> ?_
 by_cases hi:i<n
 ·rw [jh hi];simp [hi,eC]
 ·rw [List.getElem?_eq_none (by simp;omega),List.getElem?_eq_none (by rw [bU];omega)]
theorem gw (g:Gr) (hm:aK g=true):Spec Tryz.prog 44 (Args [eG g]) [] (.d (vw g)) []:=by
 have hn:=aH hm
 have hl:g.es.length≤9223372036854775807:=by omega
 have hl':g.es.length≤1000000:=by omega
 (refine Spec.hd (C:=T.cfg [] [13,16]) (rs:= [.t 2]) (T.ah _ _) Tryz.func44 rfl rfl Tryz.ntmps44 Tryz.results44 (by simp [AObj.isNest]) (by simp [AObj.isNest]) (by kernel_rfl) T.mixed fun X hX hP hC aP ck=> ?_)
 repeat' (first|refine Rn.p ?_|(with_reducible apply And.intro)|((first|(refine hK _ ?_;clear hK K)|with_reducible intro K hK|refine Rs.p ?_|((with_reducible first|apply oP|apply oQ);exact rfl)|refine aa hX hC hP (eZ g hl) rfl rfl rfl (by simp only [go_sem,simprocAttr,hm]) rfl ?_|refine aa hX hC hP (kP g.es hl') rfl rfl rfl (by simp only [go_sem,simprocAttr,hm]) rfl ?_);try simp only [go_sem,simprocAttr,hm])|((with_reducible refine oD ?_ ?_);kernel_rfl)|((with_reducible intro h);try simp only [go_sem,simprocAttr,hm] at h)|omega|intro h)
 refine xI hX 13 (by simp [go_sem,simprocAttr,hm];exact ⟨rfl,rfl,rfl,rfl⟩) (by decide) (by simp [go_sem,simprocAttr,hm]) (by simp [go_sem,simprocAttr,hm]) ?_
 refine xI hX 16 (by simp [go_sem,simprocAttr,hm];exact ⟨rfl,rfl,rfl,rfl⟩) (by decide) (by simp [go_sem,simprocAttr,hm]) (by simp [go_sem,simprocAttr,hm]) ?_
 simp only [go_sem,simprocAttr,hm]
 refine an (fun k:Nat=>k≤g.es.length) (fun k=>⟨[(29,eN k),(28,eN g.es.length),(27, .d (sE g.es)),(3, .ptr 18 0)], [(18, .box [eN g.n, .d (sE g.es), .ref 13, .ref 16]),(16, .nest 31 3 1 (lZ (·.2) g.es g.n.toNat k) none),(13, .nest 31 3 1 (lZ (·.1) g.es g.n.toNat k) none)]⟩) (fun k=>g.es.length - k) 0 (by simp) ?_ ?_
 ·refine Le.of ?_ ?_<;>simp [go_sem,simprocAttr,hm]
  exact ⟨rX,rX⟩
 rintro k hk
 rcases Nat.lt_or_ge k g.es.length with hlt|hge
 ·have hb:decide ((k:Int)<(g.es.length:Int))=true:=decide_eq_true (by omega)
  obtain ⟨yY,Di⟩:=dg hm hlt
  have IW:=jh (f:=(·.1)) (es:=g.es) (k:=k) (show (g.es.getD k (0,0)).1.toNat<g.n.toNat by omega)
  have Fp:=jh (f:=(·.2)) (es:=g.es) (k:=k) (show (g.es.getD k (0,0)).2.toNat<g.n.toNat by omega)
  have Fq:=gL (f:=(·.1)) (es:=g.es) (k:=k) (x:=(g.es.getD k (0,0)).1.toNat)
  have D8:=gL (f:=(·.2)) (es:=g.es) (k:=k) (x:=(g.es.getD k (0,0)).2.toNat)
  repeat' (first|refine Rn.p ?_|(with_reducible apply And.intro)|((first|(refine hK _ ?_;clear hK K)|with_reducible intro K hK|refine Rs.p ?_|((with_reducible first|apply oP|apply oQ);exact rfl)|refine aa hX hC hP (eZ g hl) rfl rfl rfl (by simp only [go_sem,simprocAttr,hm,hb,IW,Fp,bU]) rfl ?_|refine aa hX hC hP (kP g.es hl') rfl rfl rfl (by simp only [go_sem,simprocAttr,hm,hb,IW,Fp,bU]) rfl ?_);try simp only [go_sem,simprocAttr,hm,hb,IW,Fp,bU])|((with_reducible refine oD ?_ ?_);first|(focus (simp only [xk,lz,gn,meets,q9,mh,BB,cV,ng,lW,Rec.rs,Rec.oa,Rec.GX,eW,Rec.cO,Rec.names,KV.ids,DI,DJ,DK,DL,DM,DN,List.zip_cons_cons,List.zip_nil_right,List.zipIdx_cons,List.zipIdx_nil,List.all_cons,List.all_nil,List.contains_cons,List.contains_nil,List.any_cons,List.any_nil,List.flatMap_nil,List.reverse_cons,List.reverse_nil,iT,BA,Region.binds,go_sem,simprocAttr,hm,hb,IW,Fp,bU];done))|kernel_rfl)|((with_reducible intro h);try simp only [go_sem,simprocAttr,hm,hb,IW,Fp,bU] at h)|omega|intro h)
  refine ⟨k+1,by omega, ?_,by omega⟩
  refine Le.of ?_ ?_<;>simp [go_sem,simprocAttr,hm,hb,IW,Fp,bU]
  exact ⟨rW (f:=(·.2)) Di.1,rW (f:=(·.1)) yY.1⟩
 ·repeat' (first|refine Rn.p ?_|(with_reducible apply And.intro)|((first|(refine hK _ ?_;clear hK K)|with_reducible intro K hK|refine Rs.p ?_|((with_reducible first|apply oP|apply oQ);exact rfl)|refine aa hX hC hP (eZ g hl) rfl rfl rfl (by simp only [go_sem,simprocAttr]) rfl ?_|refine aa hX hC hP (kP g.es hl') rfl rfl rfl (by simp only [go_sem,simprocAttr]) rfl ?_);try simp only [go_sem,simprocAttr])|((with_reducible refine oD ?_ ?_);first|(focus (simp only [xk,lz,gn,meets,q9,mh,BB,cV,ng,lW,Rec.rs,Rec.oa,Rec.GX,eW,Rec.cO,Rec.names,KV.ids,DI,DJ,DK,DL,DM,DN,List.zip_cons_cons,List.zip_nil_right,List.zipIdx_cons,List.zipIdx_nil,List.all_cons,List.all_nil,List.contains_cons,List.contains_nil,List.any_cons,List.any_nil,List.flatMap_nil,List.reverse_cons,List.reverse_nil,iT,BA,Region.binds,go_sem,simprocAttr];done))|kernel_rfl)|((with_reducible intro h);try simp only [go_sem,simprocAttr] at h)|omega|intro h)
  have:k=g.es.length:=by omega
  subst this
  simp only [vw,sE,sL,dr,lZ,List.map_map]
  rfl
end Go.Ab
end
section
namespace Go.Ab
open Go.Proofs
attribute [local congr] ACall.congr gd.congr Nx.congr
set_option maxRecDepth 10000
def tl (g:Gr) (i:Nat):Int:=(g.es.getD i (0,0)).1
def hd (g:Gr) (i:Nat):Int:=(g.es.getD i (0,0)).2
def wt (g:Gr) (out:List Int) (y:Nat):Int:=
 if (y:Int)∈out then -1 else (((List.range g.es.length).countP fun i=>decide (hd g i=(y:Int))&& !decide (tl g i∈out):Nat):Int)
def cy (g:Gr) (out:List Int):List Int:=(List.range g.n.toNat).map (wt g out)
def tV (g:Gr):Nat→List Int→List Int
 |0,out=>out
 |f+1,out=>if fC (cy g out) 0<0 then out else tV g f (out++ [fC (cy g out) 0])
def aR (g:Gr):List Int:=tV g g.n.toNat []
structure dL (g:Gr) (out:List Int):Prop where
 lo:∀x∈out,0≤x∧x<g.n
 back:∀i,i<g.es.length→hd g i∈out→tl g i∈out
 fuel:out.length+(List.range g.n.toNat).countP (fun y:Nat=> !decide ((y:Int)∈out))=g.n.toNat
theorem ia {α:Type} {f:α→Bool} {l:List α} (d:α):bL f l= -1∧(∀x∈l,f x=false)∨∃k:Nat,bL f l=k∧k<l.length∧f (l.getD k d)=true∧∀j,j<k→f (l.getD j d)=false:=by
 cases h:l.findIdx? f with
 |none=>
  rw [List.findIdx?_eq_none_iff] at h
  exact .inl ⟨by simp [bL,List.findIdx?_eq_none_iff.2 h],h⟩
 |some i=>
  obtain ⟨hi,hg,hb⟩:=List.findIdx?_eq_some_iff_getElem.1 h
  refine .inr ⟨i,by simp [bL,h],hi,by simpa [List.getD_eq_getElem?_getD,List.getElem?_eq_getElem hi] using hg,fun j hj=> ?_⟩
  have hjl:j<l.length:=by omega
  have:=hb j hj
  simpa [List.getD_eq_getElem?_getD,List.getElem?_eq_getElem hjl] using this
theorem wts_length {g:Gr} {out:List Int} :(cy g out).length=g.n.toNat:=by simp [cy]
theorem kR {g:Gr} {out:List Int} {y:Nat} (h:y<g.n.toNat) (d:Int):(cy g out).getD y d=wt g out y:=by
 simp [cy,List.getD_eq_getElem?_getD,List.getElem?_range h]
theorem kS {p:Nat→Bool} {x:Nat} (hx:p x=true):∀ {n:Nat},x<n→(List.range n).countP (fun y=>p y&& !decide (y=x))+1=(List.range n).countP p
 |0,h=>by omega
 |n+1,h=>by
  rw [List.range_succ,List.countP_append,List.countP_append]
  by_cases AJ:x=n
  ·subst AJ
   have:(List.range x).countP (fun y=>p y&& !decide (y=x))=(List.range x).countP p:=by
    refine List.countP_congr fun y hy=> ?_
    have:y≠x:=by have:=List.mem_range.1 hy;omega
    simp [this]
   rw [this]
   simp [List.countP_cons,hx]
  ·have:=kS hx (n:=n) (by omega)
   have hn:n≠x:=fun e=>AJ e.symm
   simp only [List.countP_cons,List.countP_nil,hn,decide_false,Bool.not_false,Bool.and_true]
   omega
theorem dL.nil (g:Gr):dL g []:=⟨by simp,by simp,by rw [List.countP_eq_length_filter,List.filter_eq_self.2 (by simp)];simp⟩
theorem dL.next {g:Gr} (hm:aK g=true) {out:List Int} (h:dL g out) {x:Nat} (hx:x<g.n.toNat) (hw:wt g out x=0):dL g (out++ [(x:Int)])∧(x:Int)∉out∧(∀i,i<g.es.length→hd g i=x→tl g i∈out):=by
 have kC:(x:Int)∉out:=fun hi=>by simp [wt,hi] at hw
 have hb:∀i,i<g.es.length→hd g i=x→tl g i∈out:=by
  intro i hi he
  simp only [wt,kC,if_false] at hw
  have:=List.countP_eq_zero.1 (Int.ofNat.inj hw) i (List.mem_range.2 hi)
  simpa [he] using this
 refine ⟨⟨?_, ?_, ?_⟩,kC,hb⟩
 ·intro y hy
  rcases List.mem_append.1 hy with hy|hy
  ·exact h.lo y hy
  ·simp at hy;omega
 ·intro i hi hh
  rcases List.mem_append.1 hh with hh|hh
  ·exact List.mem_append_left _ (h.back i hi hh)
  ·simp at hh
   exact List.mem_append_left _ (hb i hi hh)
 ·have h1:=h.fuel
  have h2:=kS (p:=fun y:Nat=> !decide ((y:Int)∈out)) (x:=x) (by simp [kC]) hx
  have h3:(List.range g.n.toNat).countP (fun y:Nat=> !decide ((y:Int)∈out++ [(x:Int)]))=(List.range g.n.toNat).countP (fun y:Nat=>(!decide ((y:Int)∈out))&& !decide (y=x)):=by
   refine List.countP_congr fun y _=> ?_
   simp;omega
  rw [h3,List.length_append,List.length_singleton]
  omega
def iA (g:Gr) (x:Nat):List Int:=eC (·.1) g.es g.es.length x
def oy (g:Gr) (x:Nat):List Int:=eC (·.2) g.es g.es.length x
theorem D9 {g:Gr} {x:Nat} {e:Int} (h:e∈iA g x):∃i:Nat,e=i∧i<g.es.length∧tl g i=x:=by
 simp only [iA,eC,List.mem_map,List.mem_filter,List.mem_range,decide_eq_true_eq] at h
 obtain ⟨i,⟨h1,h2⟩,rfl⟩:=h
 exact ⟨i,rfl,h1,h2⟩
def CS (g:Gr) (out:List Int) (x j y:Nat):Int:=
 if (y:Int)∈out++ [(x:Int)] then -1 else (((List.range g.es.length).countP fun i=>decide (hd g i=(y:Int))&& !decide (tl g i∈out):Nat):Int) - (((iA g x).take j).countP fun e=>decide (hd g e.toNat=(y:Int)):Nat)
def tW (g:Gr) (out:List Int) (x j:Nat):List Int:=(List.range g.n.toNat).map (CS g out x j)
theorem wtps_length {g:Gr} {out:List Int} {x j:Nat} :(tW g out x j).length=g.n.toNat:=by simp [tW]
theorem nr {g:Gr} {out:List Int} {x j y:Nat} (h:y<g.n.toNat):(tW g out x j)[y]? =some (CS g out x j y):=by
 simp [tW,List.getElem?_range h]
theorem jU {g:Gr} {out:List Int} {y:Nat} (h:y<g.n.toNat):(cy g out)[y]? =some (wt g out y):=by
 simp [cy,List.getElem?_range h]
theorem BY {g:Gr} {out:List Int} {x:Nat} :(cy g out).set x (-1)=tW g out x 0:=by
 refine List.ext_getElem? fun i=> ?_
 rw [List.getElem?_set,wts_length]
 by_cases hi:i<g.n.toNat
 ·rw [jU hi,nr hi]
  by_cases hx:x=i
  ·subst hx;simp [hi,CS]
  ·have:¬i=x:=fun e=>hx e.symm
   simp only [hx,if_false,CS,wt,List.mem_append,List.mem_singleton,List.take_zero,List.countP_nil]
   have h2:¬(i:Int)=(x:Int):=by omega
   simp [h2]
 ·rw [List.getElem?_eq_none (by rw [wts_length];omega),List.getElem?_eq_none (by rw [wtps_length];omega)]
  split
  ·rw [if_neg (by omega)]
  ·rfl
theorem jV {α:Type} {p q r:α→Bool} :∀ {l:List α},(∀a∈l,p a=(q a||r a)∧(q a&&r a)=false)→l.countP p=l.countP q+l.countP r
 | [],_=>rfl
 |a::l,h=>by
  obtain ⟨h1,h2⟩:=h a List.mem_cons_self
  have:=jV (l:=l) fun b hb=>h b (List.mem_cons_of_mem _ hb)
  simp only [List.countP_cons,this,h1]
  cases hq:q a<;>cases hr:r a<;>simp [hq,hr] at h2 ⊢ <;>omega
theorem Ea {g:Gr} {out:List Int} {x j:Nat} (hx:(x:Int)∉out) (hj:(iA g x).length≤j):tW g out x j=cy g (out++ [(x:Int)]):=by
 refine List.map_congr_left fun y _=> ?_
 simp only [CS,wt]
 split
 ·rfl
 ·rw [List.take_of_length_le hj]
  have h1:(iA g x).countP (fun e=>decide (hd g e.toNat=(y:Int)))=(List.range g.es.length).countP (fun i=>decide (hd g i=(y:Int))&&decide (tl g i=(x:Int))):=by
   simp only [iA,eC,List.countP_map,List.countP_filter]
   exact List.countP_congr fun i _=>by simp [tl]
  have h2:=jV (p:=fun i=>decide (hd g i=(y:Int))&& !decide (tl g i∈out)) (q:=fun i=>decide (hd g i=(y:Int))&& !decide (tl g i∈out++ [(x:Int)])) (r:=fun i=>decide (hd g i=(y:Int))&&decide (tl g i=(x:Int))) (l:=List.range g.es.length) (fun i _=>by
   by_cases h3:tl g i=x
   ·simp [h3,hx]
   ·simp [h3])
  rw [h1,h2];omega
theorem H8 {g:Gr} {out:List Int} {x:Nat} (hP:dL g out) (kC:(x:Int)∉out) (hb:∀i,i<g.es.length→hd g i=x→tl g i∈out) {i:Nat} (hi:i<g.es.length) (ht:tl g i=x):hd g i∉out++ [(x:Int)]:=by
 intro h
 rcases List.mem_append.1 h with h|h
 ·exact kC (ht ▸ hP.back i hi h)
 ·simp at h
  exact kC (ht ▸ hb i hi h)
theorem BZ {g:Gr} {out:List Int} {x j i:Nat} (hj:(iA g x)[j]? =some (i:Int)) (h0:0≤hd g i) (hn:hd g i∉out++ [(x:Int)]):
 (tW g out x j).set (hd g i).toNat (CS g out x j (hd g i).toNat - 1)=tW g out x (j+1):=by
 refine List.ext_getElem? fun y=> ?_
 rw [List.getElem?_set,wtps_length]
 by_cases hy:y<g.n.toNat
 ·rw [nr hy,nr hy]
  have ht:((iA g x).take (j+1)).countP (fun e=>decide (hd g e.toNat=(y:Int)))=((iA g x).take j).countP (fun e=>decide (hd g e.toNat=(y:Int)))+if hd g i=(y:Int) then 1 else 0:=by
   rw [List.take_add_one,List.countP_append,hj]
   simp [List.countP_cons]
  by_cases hq:(hd g i).toNat=y
  ·subst hq
   have he:((hd g i).toNat:Int)=hd g i:=by omega
   rw [if_pos rfl,if_pos (by assumption)]
   rw [he,if_pos rfl] at ht
   simp only [CS,he,hn,if_false,ht]
   congr 1;omega
  ·rw [if_neg hq]
   have ld:¬hd g i=(y:Int):=by omega
   simp only [CS,ht,ld,if_false,Nat.add_zero]
 ·rw [List.getElem?_eq_none (by rw [wtps_length];omega),List.getElem?_eq_none (by rw [wtps_length];omega)]
  split
  ·rw [if_neg (by omega)]
  ·rfl
def F7 (f:Edge→Int) (g:Gr):List (List D):=(dr f g).map fun l=> [sI l]
theorem nt {f:Edge→Int} {g:Gr} {x:Nat} (h:x<g.n.toNat) (d:List D):(F7 f g).getD x d= [sI (eC f g.es g.es.length x)]:=by
 simp [F7,dr,List.getD_eq_getElem?_getD,List.getElem?_range h]
theorem vwl_length {f:Edge→Int} {g:Gr} :(F7 f g).length=g.n.toNat:=by simp [F7,dr]
def IX (g:Gr):D:= .pt [.sc (.int .i64 g.n),sE g.es, .sl 1 (F7 (·.1) g), .sl 1 (F7 (·.2) g)]
theorem aq (g:Gr):vw g=IX g:=rfl
attribute [go_sem] IX wtps_length wts_length vwl_length
theorem Eb {g:Gr} {k:Nat} (h:k<g.n.toNat):(cy g []).take (k+1)=(cy g []).take k++ [((oy g k).length:Int)]:=by
 rw [List.take_add_one,jU h]
 simp [wt,oy,eC,hd,List.countP_eq_length_filter]
theorem B0 {g:Gr} (hm:aK g=true) {out:List Int} {x j y:Nat} : -1000≤CS g out x j y∧CS g out x j y≤1000:=by
 have hn:=aH hm
 have h1:=List.countP_le_length (p:=fun i=>decide (hd g i=(y:Int))&& !decide (tl g i∈out)) (l:=List.range g.es.length)
 have h2:=List.countP_le_length (p:=fun e:Int=>decide (hd g e.toNat=(y:Int))) (l:=(iA g x).take j)
 have h3:((iA g x).take j).length≤g.es.length:=Nat.le_trans (List.length_take_le' _ _) gL
 simp only [List.length_range] at h1
 unfold CS
 split<;>omega
theorem xY {g:Gr} {out:List Int} (h:fC (cy g out) 0<0):∀f,tV g f out=out
 |0=>rfl
 |f+1=>by simp [tV,h]
def left (g:Gr) (out:List Int):Nat:=(List.range g.n.toNat).countP (fun y:Nat=> !decide ((y:Int)∈out))
theorem uu {g:Gr} {out:List Int} {x:Nat} (h:dL g out) (h':dL g (out++ [(x:Int)])):left g out=left g (out++ [(x:Int)])+1:=by
 have h1:=h.fuel
 have h2:=h'.fuel
 rw [List.length_append,List.length_singleton] at h2
 unfold left;omega
theorem Kk {g:Gr} (out:List Int):fC (cy g out) 0= -1∨∃x:Nat,fC (cy g out) 0=x∧x<g.n.toNat∧wt g out x=0:=by
 rcases ia (f:=fun y:Int=>decide (0=y)) (l:=cy g out) 0 with ⟨h,_⟩|⟨k,h1,h2,h3,_⟩
 ·exact .inl h
 ·rw [wts_length] at h2
  rw [kR h2] at h3
  exact .inr ⟨k,h1,h2,by simpa using (of_decide_eq_true h3).symm⟩
theorem ji (g:Gr) (hm:aK g=true):Spec Tryz.prog 176 (Args [.d (vw g)]) [] (.tup [.d (sI (aR g)), .d (sI (cy g (aR g)))]) []:=by
 rw [aq]
 have hn:=aH hm
 (refine Spec.hd (C:=T.cfg [22] []) (rs:= [.t 2, .t 3]) (T.ah _ _) Tryz.func176 rfl rfl Tryz.ntmps176 Tryz.results176 (by simp [AObj.isNest]) (by simp [AObj.isNest]) (by kernel_rfl) T.mixed fun X hX hP hC aP ck=> ?_)
 repeat' (first|refine Rn.p ?_|(with_reducible apply And.intro)|((first|(refine hK _ ?_;clear hK K)|with_reducible intro K hK|refine Rs.p ?_|((with_reducible first|apply oP|apply oQ);exact rfl)|(refine au hX hC hP (aQ (cy g out) 0 AK) rfl rfl rfl ?_ ?_ ?_ ?_;iterate 3 (focus (simp only [go_sem,simprocAttr];done))));try simp only [go_sem,simprocAttr])|((with_reducible refine oD ?_ ?_);kernel_rfl)|((with_reducible intro h);try simp only [go_sem,simprocAttr] at h)|omega|intro h)
 (refine c8 hX 3 22 (.own 3 1 []) (by simp only [go_sem,simprocAttr]) (by simp only [go_sem,simprocAttr]) (by decide) ⟨3,1,by decide, .inl rfl⟩ ?_;simp only [go_sem,simprocAttr])
 refine an (fun k:Nat=>k≤g.n.toNat) (fun k=>⟨[(14,eN k),(13,eN g.n.toNat),(12, .d (.sl 1 (F7 (·.2) g))),(3, .ref 22),(2, .nil 3),(0, .d (IX g))], [(22, .own 3 1 (((cy g []).take k).map rI))]⟩) (fun k=>g.n.toNat - k) 0 (by simp) ?_ ?_
 ·(refine Le.of ?_ ?_<;>simp [go_sem,simprocAttr])
 ·rintro k hk
  rcases Nat.lt_or_ge k g.n.toNat with hlt|hge
  ·have hb:decide ((k:Int)<(g.n.toNat:Int))=true:=decide_eq_true (by omega)
   have hv:=nt (f:=(·.2)) hlt
   have Fq:(oy g k).length≤g.es.length:=gL
   have hlt':((cy g []).take k).length≤64:=by rw [List.length_take,wts_length];omega
   repeat' (first|refine Rn.p ?_|(with_reducible apply And.intro)|((first|(refine hK _ ?_;clear hK K)|with_reducible intro K hK|refine Rs.p ?_|((with_reducible first|apply oP|apply oQ);exact rfl)|(refine au hX hC hP (aQ (cy g out) 0 AK) rfl rfl rfl ?_ ?_ ?_ ?_;iterate 3 (focus (simp only [go_sem,simprocAttr,hb,hv];done))));try simp only [go_sem,simprocAttr,hb,hv])|((with_reducible refine oD ?_ ?_);kernel_rfl)|((with_reducible intro h);try simp only [go_sem,simprocAttr,hb,hv] at h)|omega|intro h)
   refine ⟨k+1,by omega, ?_,by omega⟩
   refine Le.of ?_ ?_<;>simp [go_sem,simprocAttr,hb,hv,Eb hlt]
   rfl
  ·obtain rfl:k=g.n.toNat:=by omega
   have hb:decide ((g.n.toNat:Int)<(g.n.toNat:Int))=false:=decide_eq_false (by omega)
   have ht:(cy g []).take g.n.toNat=cy g []:=List.take_of_length_le (by rw [wts_length];omega)
   repeat' (first|refine Rn.p ?_|(with_reducible apply And.intro)|((first|(refine hK _ ?_;clear hK K)|with_reducible intro K hK|refine Rs.p ?_|((with_reducible first|apply oP|apply oQ);exact rfl)|(refine au hX hC hP (aQ (cy g out) 0 AK) rfl rfl rfl ?_ ?_ ?_ ?_;iterate 3 (focus (simp only [go_sem,simprocAttr,hb,ht];done))));try simp only [go_sem,simprocAttr,hb,ht])|((with_reducible refine oD ?_ ?_);kernel_rfl)|((with_reducible intro h);try simp only [go_sem,simprocAttr,hb,ht] at h)|omega|intro h)
   (refine c8 hX 2 33 (.tip 3 1 []) (by simp only [go_sem,simprocAttr,hb,ht]) (by simp only [go_sem,simprocAttr,hb,ht]) (by decide) ⟨3,1,by decide, .inr rfl⟩ ?_;simp only [go_sem,simprocAttr,hb,ht])
   refine an (fun out:List Int=>dL g out∧tV g (left g out) out=aR g) (fun out=>⟨[(3, .ref 22),(2, .ref 33),(0, .d (IX g))], [(22, .own 3 1 ((cy g out).map rI)),(33, .tip 3 1 (out.map rI))]⟩) (left g) [] ⟨dL.nil g, ?_⟩ ?_ ?_
   ·have:=(dL.nil g).fuel
    simp only [List.length_nil,Nat.zero_add] at this
    unfold left aR
    rw [this]
   ·(refine Le.of ?_ ?_<;>simp [go_sem,simprocAttr,hb,ht])
   rintro out ⟨cT,hrun⟩
   have AK:(cy g out).length≤9223372036854775807:=by rw [wts_length];omega
   have hout:out.length≤64:=by have:=cT.fuel;omega
   rcases Kk (g:=g) out with hx|⟨x,hx,AJ,hw0⟩
   ·have hr:=xY (g:=g) (out:=out) (by omega) (left g out)
    rw [hrun] at hr
    repeat' (first|refine Rn.p ?_|(with_reducible apply And.intro)|((first|(refine hK _ ?_;clear hK K)|with_reducible intro K hK|refine Rs.p ?_|((with_reducible first|apply oP|apply oQ);exact rfl)|(refine au hX hC hP (aQ (cy g out) 0 AK) rfl rfl rfl ?_ ?_ ?_ ?_;iterate 3 (focus (simp only [go_sem,simprocAttr,hx];done))));try simp only [go_sem,simprocAttr,hx])|((with_reducible refine oD ?_ ?_);kernel_rfl)|((with_reducible intro h);try simp only [go_sem,simprocAttr,hx] at h)|omega|intro h)
    ·rw [hr]
    ·rw [hr]
   ·obtain ⟨oo,kC,zG⟩:=cT.next hm AJ hw0
    have hb1:decide ((x:Int)<0)=false:=decide_eq_false (by omega)
    have hv:=nt (f:=(·.1)) AJ
    have Fq:(iA g x).length≤g.es.length:=gL
    repeat' (first|refine Rn.p ?_|(with_reducible apply And.intro)|((first|(refine hK _ ?_;clear hK K)|with_reducible intro K hK|refine Rs.p ?_|((with_reducible first|apply oP|apply oQ);exact rfl)|(refine au hX hC hP (aQ (cy g out) 0 AK) rfl rfl rfl ?_ ?_ ?_ ?_;iterate 3 (focus (simp only [go_sem,simprocAttr,hx,hb1,hv];done))));try simp only [go_sem,simprocAttr,hx,hb1,hv])|((with_reducible refine oD ?_ ?_);kernel_rfl)|((with_reducible intro h);try simp only [go_sem,simprocAttr,hx,hb1,hv] at h)|omega|intro h)
    refine an (fun j:Nat=>j≤(iA g x).length) (fun j=>⟨[(45,eN j),(44,eN (iA g x).length),(43, .d (sI (iA g x))),(3, .ref 22),(2, .ref 33),(0, .d (IX g))], [(22, .own 3 1 ((tW g out x j).map rI)),(33, .tip 3 1 ((out++ [(x:Int)]).map rI))]⟩) (fun j=>(iA g x).length - j) 0 (by simp) ?_ ?_
    ·refine Le.of ?_ ?_<;>simp [go_sem,simprocAttr,hx,hb1,hv,iA,rI]
     rw [← BY,List.map_set];rfl
    rintro j hj
    rcases Nat.lt_or_ge j (iA g x).length with hlt|hge
    ·have hb2:decide ((j:Int)<((iA g x).length:Int))=true:=decide_eq_true (by omega)
     obtain ⟨i,hi,hil,hit⟩:=D9 (List.getElem_mem hlt)
     have hi1:(iA g x)[j]? =some (i:Int):=by rw [List.getElem?_eq_getElem hlt,hi]
     have hi2:(iA g x).getD j 0=(i:Int):=by rw [List.getD_eq_getElem?_getD,hi1];rfl
     have hnew:=H8 cT kC zG hil hit
     obtain ⟨_,Kl,yY⟩:=dg hm hil
     have hnext:=BZ hi1 Kl hnew
     have hw:(tW g out x j).getD (g.es.getD i (0,0)).2.toNat 0=CS g out x j (hd g i).toNat:=by
      rw [List.getD_eq_getElem?_getD,nr (by omega)];rfl
     have hbd:=B0 hm (out:=out) (x:=x) (j:=j) (y:=(hd g i).toNat)
     repeat' (first|refine Rn.p ?_|(with_reducible apply And.intro)|((first|(refine hK _ ?_;clear hK K)|with_reducible intro K hK|refine Rs.p ?_|((with_reducible first|apply oP|apply oQ);exact rfl)|(refine au hX hC hP (aQ (cy g out) 0 AK) rfl rfl rfl ?_ ?_ ?_ ?_;iterate 3 (focus (simp only [go_sem,simprocAttr,hb2,hi2,hw];done))));try simp only [go_sem,simprocAttr,hb2,hi2,hw])|((with_reducible refine oD ?_ ?_);kernel_rfl)|((with_reducible intro h);try simp only [go_sem,simprocAttr,hb2,hi2,hw] at h)|omega|intro h)
     refine ⟨j+1,by omega, ?_,by omega⟩
     refine Le.of ?_ ?_<;>simp [go_sem,simprocAttr,hb2,hi2,hw]
     rw [← hnext,List.map_set];rfl
    ·have hb2:decide ((j:Int)<((iA g x).length:Int))=false:=decide_eq_false (by omega)
     repeat' (first|refine Rn.p ?_|(with_reducible apply And.intro)|((first|(refine hK _ ?_;clear hK K)|with_reducible intro K hK|refine Rs.p ?_|((with_reducible first|apply oP|apply oQ);exact rfl)|(refine au hX hC hP (aQ (cy g out) 0 AK) rfl rfl rfl ?_ ?_ ?_ ?_;iterate 3 (focus (simp only [go_sem,simprocAttr,hb2];done))));try simp only [go_sem,simprocAttr,hb2])|((with_reducible refine oD ?_ ?_);kernel_rfl)|((with_reducible intro h);try simp only [go_sem,simprocAttr,hb2] at h)|omega|intro h)
     have Ec:=uu cT oo
     refine ⟨out++ [(x:Int)],⟨oo, ?_⟩, ?_,by omega⟩
     ·rw [← hrun,Ec]
      simp only [tV,hx]
      rw [if_neg (by omega)]
     ·refine Le.of ?_ ?_<;>simp [go_sem,simprocAttr,hb2,Ea kC hge]
end Go.Ab
end
section
namespace Go.Ab
open Go.Proofs
attribute [local congr] ACall.congr gd.congr Nx.congr
set_option maxRecDepth 10000
def kf (l:List Int) (k:Nat):List Int:=(List.range l.length).map fun p=>if p<k∨l.length - 1<p+k then l.getD (l.length - 1 - p) 0 else l.getD p 0
theorem cB {l:List Int} {k:Nat} :(kf l k).length=l.length:=by simp [kf]
theorem jj {l:List Int} {k p:Nat} (h:p<l.length):(kf l k)[p]? =some (if p<k∨l.length - 1<p+k then l.getD (l.length - 1 - p) 0 else l.getD p 0):=by
 simp [kf,List.getElem?_range h]
theorem rY {l:List Int} {k p:Nat} (h:p<l.length) (d:Int):(kf l k).getD p d=if p<k∨l.length - 1<p+k then l.getD (l.length - 1 - p) 0 else l.getD p 0:=by
 rw [List.getD_eq_getElem?_getD,jj h];rfl
theorem zH {l:List Int} :kf l 0=l:=by
 refine List.ext_getElem? fun i=> ?_
 by_cases hi:i<l.length
 ·rw [jj hi,if_neg (by omega),List.getD_eq_getElem?_getD,List.getElem?_eq_getElem hi];rfl
 ·rw [List.getElem?_eq_none (by rw [cB];omega),List.getElem?_eq_none (by omega)]
theorem B1 {l:List Int} {k:Nat} (h:l.length≤2*k+1):kf l k=l.reverse:=by
 refine List.ext_getElem? fun i=> ?_
 by_cases hi:i<l.length
 ·rw [jj hi,List.getElem?_reverse hi]
  split
  ·rw [List.getD_eq_getElem?_getD,List.getElem?_eq_getElem (by omega)];rfl
  ·have:i=l.length - 1 - i:=by omega
   rw [← this,List.getD_eq_getElem?_getD,List.getElem?_eq_getElem hi];rfl
 ·rw [List.getElem?_eq_none (by rw [cB];omega),List.getElem?_eq_none (by rw [List.length_reverse];omega)]
theorem zI {l:List Int} {k:Nat} (h:k<l.length - 1 - k):((kf l k).set k ((kf l k).getD (l.length - 1 - k) 0)).set (l.length - 1 - k) ((kf l k).getD k 0)=kf l (k+1):=by
 refine List.ext_getElem? fun i=> ?_
 rw [List.getElem?_set,List.length_set,cB,List.getElem?_set,cB]
 by_cases hi:i<l.length
 ·rw [jj hi,jj hi,rY (by omega),rY (by omega)]
  by_cases h1:l.length - 1 - k=i
  ·rw [if_pos h1,if_pos (by omega),if_neg (by omega),if_pos (by omega)]
   congr 2;omega
  ·rw [if_neg h1]
   by_cases h2:k=i
   ·rw [if_pos h2,if_pos (by omega),if_neg (by omega),if_pos (by omega)]
    congr 2;omega
   ·rw [if_neg h2]
    congr 1
    by_cases h3:i<k∨l.length - 1<i+k
    ·rw [if_pos h3,if_pos (by omega)]
    ·rw [if_neg h3,if_neg (by omega)]
 ·rw [List.getElem?_eq_none (by rw [cB];omega),List.getElem?_eq_none (by rw [cB];omega),if_neg (by omega),if_neg (by omega)]
theorem dD (l:List Int) (hl:l.length≤1000000):Spec Tryz.prog 86 (Args [.ref 10000]) [(10000, .part 3 1 (l.map rI))] (.tup []) [(10000, .part 3 1 (l.reverse.map rI))]:=by
 (refine Spec.hd (C:=T.cfg [] []) (rs:= []) (T.ah _ _) Tryz.func86 rfl rfl Tryz.ntmps86 Tryz.results86 (by simp [AObj.isNest]) (by simp [AObj.isNest]) (by kernel_rfl) T.mixed fun X hX hP hC aP ck=> ?_)
 repeat' (first|refine Rn.p ?_|(with_reducible apply And.intro)|((first|(refine hK _ ?_;clear hK K)|with_reducible intro K hK|refine Rs.p ?_|((with_reducible first|apply oP|apply oQ);exact rfl));try simp only [go_sem,simprocAttr])|((with_reducible refine oD ?_ ?_);kernel_rfl)|((with_reducible intro h);try simp only [go_sem,simprocAttr] at h)|omega|intro h)
 refine an (fun k:Nat=>2*k≤l.length+1) (fun k=>⟨[(0, .ref 10000),(2,eN k),(3,eN ((l.length:Int) - 1 - k))], [(10000, .part 3 1 ((kf l k).map rI))]⟩) (fun k=>l.length+1 - k) 0 (by omega) ?_ ?_
 ·refine Le.of ?_ ?_<;>simp [go_sem,simprocAttr,zH]
 rintro k hk
 rcases Nat.lt_or_ge (2*k+1) l.length with hlt|hge
 ·have hb:decide ((k:Int)<(l.length:Int) - 1 - (k:Int))=true:=decide_eq_true (by omega)
  have ht:((l.length:Int) - 1 - (k:Int)).toNat=l.length - 1 - k:=by omega
  repeat' (first|refine Rn.p ?_|(with_reducible apply And.intro)|((first|(refine hK _ ?_;clear hK K)|with_reducible intro K hK|refine Rs.p ?_|((with_reducible first|apply oP|apply oQ);exact rfl));try simp only [go_sem,simprocAttr,hb,ht,cB,DR])|((with_reducible refine oD ?_ ?_);kernel_rfl)|((with_reducible intro h);try simp only [go_sem,simprocAttr,hb,ht,cB,DR] at h)|omega|intro h)
  refine ⟨k+1,by omega, ?_,by omega⟩
  refine Le.of ?_ ?_<;>simp [go_sem,simprocAttr]
  ·omega
  ·rw [← zI (by omega),List.map_set,List.map_set]
   simp only [List.getD_eq_getElem?_getD]
 ·have hb:decide ((k:Int)<(l.length:Int) - 1 - (k:Int))=false:=decide_eq_false (by omega)
  repeat' (first|refine Rn.p ?_|(with_reducible apply And.intro)|((first|(refine hK _ ?_;clear hK K)|with_reducible intro K hK|refine Rs.p ?_|((with_reducible first|apply oP|apply oQ);exact rfl));try simp only [go_sem,simprocAttr,hb])|((with_reducible refine oD ?_ ?_);kernel_rfl)|((with_reducible intro h);try simp only [go_sem,simprocAttr,hb] at h)|omega|intro h)
  simp only [go_sem,simprocAttr,hb,B1 hge]
def jW:List Int→Int
 | []=>0
 |a::r=>r.foldl min a
theorem B2 {l:List Int} {k:Nat} (h0:0<k) (h:k<l.length):jW (l.take (k+1))=min (jW (l.take k)) (l.getD k 0):=by
 cases l with
 |nil=>simp at h
 |cons a r=>
  obtain ⟨k,rfl⟩:∃j,k=j+1:=⟨k - 1,by omega⟩
  simp only [List.length_cons] at h
  simp only [List.take_succ_cons,jW,List.getD_cons_succ]
  rw [List.take_add_one,List.foldl_append,List.getElem?_eq_getElem (by omega),List.getD_eq_getElem?_getD,List.getElem?_eq_getElem (by omega)]
  rfl
theorem Ee {l:List Int} (h:0<l.length):jW (l.take 1)=l.getD 0 0:=by
 cases l with
 |nil=>simp at h
 |cons a r=>simp [jW]
theorem jk (l:List Int) (h0:0<l.length) (hl:l.length≤1000000):Spec Tryz.prog 179 (Args [.d (sI l)]) [] (eN (jW l)) []:=by
 (refine Spec.hd (C:=T.cfg [] []) (rs:= [.t 2]) (T.ah _ _) Tryz.func179 rfl rfl Tryz.ntmps179 Tryz.results179 (by simp [AObj.isNest]) (by simp [AObj.isNest]) (by kernel_rfl) T.mixed fun X hX hP hC aP ck=> ?_)
 repeat' (first|refine Rn.p ?_|(with_reducible apply And.intro)|((first|(refine hK _ ?_;clear hK K)|with_reducible intro K hK|refine Rs.p ?_|((with_reducible first|apply oP|apply oQ);exact rfl));try simp only [go_sem,simprocAttr])|((with_reducible refine oD ?_ ?_);kernel_rfl)|((with_reducible intro h);try simp only [go_sem,simprocAttr] at h)|omega|intro h)
 refine an (fun k:Nat=>0<k∧k≤l.length) (fun k=>⟨[(0, .d (sI l)),(3,eN (jW (l.take k))),(4,eN k)], []⟩) (fun k=>l.length - k) 1 (by omega) ?_ ?_
 ·refine Le.of ?_ ?_<;>simp [go_sem,simprocAttr,Ee h0]
 rintro k ⟨yX,hk⟩
 repeat' (first|refine Rn.p ?_|(with_reducible apply And.intro)|((first|(refine hK _ ?_;clear hK K)|with_reducible intro K hK|refine Rs.p ?_|((with_reducible first|apply oP|apply oQ);exact rfl));try simp only [go_sem,simprocAttr])|((with_reducible refine oD ?_ ?_);kernel_rfl)|((with_reducible intro h);try simp only [go_sem,simprocAttr] at h)|omega|intro h)
 ·refine ⟨k+1,by omega, ?_,by omega⟩
  refine Le.of ?_ ?_<;>simp [go_sem,simprocAttr]
  rw [B2 yX (by omega),List.getD_eq_getElem?_getD]
 ·rw [List.take_of_length_le (by omega)]
theorem eD (n:Int) (h0:0<n) (hl:n≤1000000):Spec Tryz.prog 116 (Args [.nil 3,eN n]) [] (.ref 10000) [(10000, .own 3 1 [])]:=by
 (refine Spec.rH (C:=T.cfg [] []) (rs:= [.t 4]) [(10000,25)] (T.ah _ _) Tryz.func116 rfl rfl Tryz.ntmps116 Tryz.results116 (by simp [AObj.isNest]) (by simp [AObj.isNest]) (by first|(simp [look];done)|(simp [asN];done)|(intro l hl;simp only [asN];repeat (rw [if_neg (fun e=>by subst e;simp [look] at hl)]))) (by first|(simp [look];done)|(simp [asN];done)|(intro l hl;simp only [asN];repeat (rw [if_neg (fun e=>by subst e;simp [look] at hl)]))) (by kernel_rfl) T.mixed fun X hX hP hC aP ck=> ?_)
 repeat' (first|refine Rn.p ?_|(with_reducible apply And.intro)|((first|(refine hK _ ?_;clear hK K)|with_reducible intro K hK|refine Rs.p ?_|((with_reducible first|apply oP|apply oQ);exact rfl));try simp only [go_sem,simprocAttr])|((with_reducible refine oD ?_ ?_);kernel_rfl)|((with_reducible intro h);try simp only [go_sem,simprocAttr] at h)|omega|intro h)
end Go.Ab
end
section
namespace Go.Ab
open Go.Proofs
attribute [local congr] ACall.congr gd.congr Nx.congr
set_option maxRecDepth 10000
def vL (ls:List (List Int)):List (List D):=ls.map fun l=> [sI l]
theorem vL_length {ls:List (List Int)} :(vL ls).length=ls.length:=by simp [vL]
theorem vS {ls:List (List Int)} {k:Nat} (h:k<ls.length) (d:List D):(vL ls).getD k d= [sI (ls.getD k [])]:=by
 simp [vL,List.getD_eq_getElem?_getD,List.getElem?_eq_getElem h]
attribute [go_sem] vL_length
theorem uv {ls:List (List Int)} {k:Nat} (h:k<ls.length):(ls.take (k+1)).flatten=(ls.take k).flatten++ls.getD k []:=by
 rw [List.take_add_one,List.flatten_append,List.getElem?_eq_getElem h,List.getD_eq_getElem?_getD,List.getElem?_eq_getElem h]
 simp
theorem qt {ls:List (List Int)} {k:Nat} :(ls.take k).flatten.length≤ls.flatten.length:=by
 have:=congrArg (fun x=>x.flatten.length) (List.take_append_drop k ls)
 simp only [List.flatten_append,List.length_append] at this
 omega
theorem eH (ls:List (List Int)) (hn:ls.length≤1000) (h0:0<ls.flatten.length) (hl:ls.flatten.length≤1000000):Spec Tryz.prog 72 (Args [.d (.sl 1 (vL ls))]) [] (.d (sI ls.flatten)) []:=by
 (refine Spec.hd (C:=T.cfg [] []) (rs:= [.t 2]) (T.ah _ _) Tryz.func72 rfl rfl Tryz.ntmps72 Tryz.results72 (by simp [AObj.isNest]) (by simp [AObj.isNest]) (by kernel_rfl) T.mixed fun X hX hP hC aP ck=> ?_)
 repeat' (first|refine Rn.p ?_|(with_reducible apply And.intro)|((first|(refine hK _ ?_;clear hK K)|with_reducible intro K hK|refine Rs.p ?_|((with_reducible first|apply oP|apply oQ);exact rfl)|(refine aj hX hC hP [(10000,33)] (eD (ls.flatten.length:Int) (by omega) (by omega)) rfl rfl rfl ?_ ?_ ?_ ?_ ?_ ?_ ?_ ?_ ?_ ?_ ?_ ?_ ?_ ?_;(focus (simp only [go_sem,simprocAttr];done));(iterate 12 (focus (simp [go_sem,simprocAttr];done)));try simp only [List.map_cons,List.map_nil]));try simp only [go_sem,simprocAttr])|((with_reducible refine oD ?_ ?_);kernel_rfl)|((with_reducible intro h);try simp only [go_sem,simprocAttr] at h)|omega|intro h)
 refine an (fun k:Nat=>k≤ls.length) (fun k=>⟨[(0, .d (.sl 1 (vL ls))),(9, .d (.sl 1 (vL ls))),(10,eN ls.length),(11,eN k),(3,eN ((ls.take k).flatten.length))], []⟩) (fun k=>ls.length - k) 0 (by omega) ?_ ?_
 ·(refine Le.of ?_ ?_<;>simp [go_sem,simprocAttr])
 ·rintro k hk
  rcases Nat.lt_or_ge k ls.length with hlt|hge
  ·have hb:decide ((k:Int)<(ls.length:Int))=true:=decide_eq_true (by omega)
   have hv:=vS hlt
   have hf:=uv hlt
   have Lq:=qt (ls:=ls) (k:=k)
   have H9:=qt (ls:=ls) (k:=k+1)
   rw [hf,List.length_append] at H9
   have hneg:decide (((ls.take k).flatten.length:Int)+((ls.getD k []).length:Int)<0)=false:=decide_eq_false (by omega)
   repeat' (first|refine Rn.p ?_|(with_reducible apply And.intro)|((first|(refine hK _ ?_;clear hK K)|with_reducible intro K hK|refine Rs.p ?_|((with_reducible first|apply oP|apply oQ);exact rfl)|(refine aj hX hC hP [(10000,33)] (eD (ls.flatten.length:Int) (by omega) (by omega)) rfl rfl rfl ?_ ?_ ?_ ?_ ?_ ?_ ?_ ?_ ?_ ?_ ?_ ?_ ?_ ?_;(focus (simp only [go_sem,simprocAttr,hb,hv,hneg];done));(iterate 12 (focus (simp [go_sem,simprocAttr,hb,hv,hneg];done)));try simp only [List.map_cons,List.map_nil]));try simp only [go_sem,simprocAttr,hb,hv,hneg])|((with_reducible refine oD ?_ ?_);kernel_rfl)|((with_reducible intro h);try simp only [go_sem,simprocAttr,hb,hv,hneg] at h)|omega|intro h)
   refine ⟨k+1,by omega, ?_,by omega⟩
   simp only [hf]
   refine Le.of ?_ ?_<;>simp [go_sem,simprocAttr,hb,hv,hneg]
  ·have hb:decide ((k:Int)<(ls.length:Int))=false:=decide_eq_false (by omega)
   have ht:ls.take k=ls:=List.take_of_length_le (by omega)
   repeat' (first|refine Rn.p ?_|(with_reducible apply And.intro)|((first|(refine hK _ ?_;clear hK K)|with_reducible intro K hK|refine Rs.p ?_|((with_reducible first|apply oP|apply oQ);exact rfl)|(refine aj hX hC hP [(10000,33)] (eD (ls.flatten.length:Int) (by omega) (by omega)) rfl rfl rfl ?_ ?_ ?_ ?_ ?_ ?_ ?_ ?_ ?_ ?_ ?_ ?_ ?_ ?_;(focus (simp only [go_sem,simprocAttr,hb,ht];done));(iterate 12 (focus (simp [go_sem,simprocAttr,hb,ht];done)));try simp only [List.map_cons,List.map_nil]));try simp only [go_sem,simprocAttr,hb,ht])|((with_reducible refine oD ?_ ?_);kernel_rfl)|((with_reducible intro h);try simp only [go_sem,simprocAttr,hb,ht] at h)|omega|intro h)
   refine an (fun k:Nat=>k≤ls.length) (fun k=>⟨[(25, .d (.sl 1 (vL ls))),(26,eN ls.length),(27,eN k),(6, .ref 33)], [(33, .own 3 1 ((ls.take k).flatten.map rI))]⟩) (fun k=>ls.length - k) 0 (by omega) ?_ ?_
   ·(refine Le.of ?_ ?_<;>simp [go_sem,simprocAttr,hb,ht])
   ·clear hb ht hk hge
    rintro k hk
    rcases Nat.lt_or_ge k ls.length with hlt|hge
    ·have hb:decide ((k:Int)<(ls.length:Int))=true:=decide_eq_true (by omega)
     have hv:=vS hlt
     have hf:=uv hlt
     have Lq:=qt (ls:=ls) (k:=k)
     have H9:=qt (ls:=ls) (k:=k+1)
     rw [hf,List.length_append] at H9
     repeat' (first|refine Rn.p ?_|(with_reducible apply And.intro)|((first|(refine hK _ ?_;clear hK K)|with_reducible intro K hK|refine Rs.p ?_|((with_reducible first|apply oP|apply oQ);exact rfl)|(refine aj hX hC hP [(10000,33)] (eD (ls.flatten.length:Int) (by omega) (by omega)) rfl rfl rfl ?_ ?_ ?_ ?_ ?_ ?_ ?_ ?_ ?_ ?_ ?_ ?_ ?_ ?_;(focus (simp only [go_sem,simprocAttr,hb,hv];done));(iterate 12 (focus (simp [go_sem,simprocAttr,hb,hv];done)));try simp only [List.map_cons,List.map_nil]));try simp only [go_sem,simprocAttr,hb,hv])|((with_reducible refine oD ?_ ?_);kernel_rfl)|((with_reducible intro h);try simp only [go_sem,simprocAttr,hb,hv] at h)|omega|intro h)
     refine ⟨k+1,by omega, ?_,by omega⟩
     simp only [hf]
     refine Le.of ?_ ?_<;>simp [go_sem,simprocAttr,hb,hv]
    ·have hb:decide ((k:Int)<(ls.length:Int))=false:=decide_eq_false (by omega)
     have ht:ls.take k=ls:=List.take_of_length_le (by omega)
     repeat' (first|refine Rn.p ?_|(with_reducible apply And.intro)|((first|(refine hK _ ?_;clear hK K)|with_reducible intro K hK|refine Rs.p ?_|((with_reducible first|apply oP|apply oQ);exact rfl)|(refine aj hX hC hP [(10000,33)] (eD (ls.flatten.length:Int) (by omega) (by omega)) rfl rfl rfl ?_ ?_ ?_ ?_ ?_ ?_ ?_ ?_ ?_ ?_ ?_ ?_ ?_ ?_;(focus (simp only [go_sem,simprocAttr,hb,ht];done));(iterate 12 (focus (simp [go_sem,simprocAttr,hb,ht];done)));try simp only [List.map_cons,List.map_nil]));try simp only [go_sem,simprocAttr,hb,ht])|((with_reducible refine oD ?_ ?_);kernel_rfl)|((with_reducible intro h);try simp only [go_sem,simprocAttr,hb,ht] at h)|omega|intro h)
def jl (ls:List (List Int)) (k:Nat):List Int:=((List.range k).filter fun x=>decide ((ls.getD x []).length=0)).map Int.ofNat
theorem rZ {ls:List (List Int)} {k:Nat} :jl ls (k+1)=jl ls k++if (ls.getD k []).length=0 then [(k:Int)] else []:=by
 simp only [jl,List.range_succ,List.filter_append,List.map_append,List.filter_cons,List.filter_nil]
 split<;>simp_all
theorem B3 {ls:List (List Int)} {k:Nat} :(jl ls k).length≤k:=by
 simpa [jl] using List.length_filter_le (fun x=>decide ((ls.getD x []).length=0)) (List.range k)
theorem uw (ls:List (List Int)) (hn:ls.length≤1000):Spec Tryz.prog 115 (Args [.d (.sl 1 (vL ls))]) [] (.d (sI (jl ls ls.length))) []:=by
 (refine Spec.hd (C:=T.cfg [] []) (rs:= [.t 2]) (T.ah _ _) Tryz.func115 rfl rfl Tryz.ntmps115 Tryz.results115 (by simp [AObj.isNest]) (by simp [AObj.isNest]) (by kernel_rfl) T.mixed fun X hX hP hC aP ck=> ?_)
 repeat' (first|refine Rn.p ?_|(with_reducible apply And.intro)|((first|(refine hK _ ?_;clear hK K)|with_reducible intro K hK|refine Rs.p ?_|((with_reducible first|apply oP|apply oQ);exact rfl)|(refine aj hX hC hP [(10000,33)] (eD (ls.flatten.length:Int) (by omega) (by omega)) rfl rfl rfl ?_ ?_ ?_ ?_ ?_ ?_ ?_ ?_ ?_ ?_ ?_ ?_ ?_ ?_;(focus (simp only [go_sem,simprocAttr];done));(iterate 12 (focus (simp [go_sem,simprocAttr];done)));try simp only [List.map_cons,List.map_nil]));try simp only [go_sem,simprocAttr])|((with_reducible refine oD ?_ ?_);kernel_rfl)|((with_reducible intro h);try simp only [go_sem,simprocAttr] at h)|omega|intro h)
 (refine c8 hX 2 18 (.tip 3 1 []) (by simp only [go_sem,simprocAttr]) (by simp only [go_sem,simprocAttr]) (by decide) ⟨3,1,by decide, .inr rfl⟩ ?_;simp only [go_sem,simprocAttr])
 refine an (fun k:Nat=>k≤ls.length) (fun k=>⟨[(5, .d (.sl 1 (vL ls))),(6,eN ls.length),(7,eN k),(2, .ref 18)], [(18, .tip 3 1 ((jl ls k).map rI))]⟩) (fun k=>ls.length - k) 0 (by omega) ?_ ?_
 ·refine Le.of ?_ ?_<;>simp [go_sem,simprocAttr,jl]
 ·rintro k hk
  rcases Nat.lt_or_ge k ls.length with hlt|hge
  ·have hb:decide ((k:Int)<(ls.length:Int))=true:=decide_eq_true (by omega)
   have hv:=vS hlt
   have hlen:=B3 (ls:=ls) (k:=k)
   repeat' (first|refine Rn.p ?_|(with_reducible apply And.intro)|((first|(refine hK _ ?_;clear hK K)|with_reducible intro K hK|refine Rs.p ?_|((with_reducible first|apply oP|apply oQ);exact rfl)|(refine aj hX hC hP [(10000,33)] (eD (ls.flatten.length:Int) (by omega) (by omega)) rfl rfl rfl ?_ ?_ ?_ ?_ ?_ ?_ ?_ ?_ ?_ ?_ ?_ ?_ ?_ ?_;(focus (simp only [go_sem,simprocAttr,hb,hv];done));(iterate 12 (focus (simp [go_sem,simprocAttr,hb,hv];done)));try simp only [List.map_cons,List.map_nil]));try simp only [go_sem,simprocAttr,hb,hv])|((with_reducible refine oD ?_ ?_);kernel_rfl)|((with_reducible intro h);try simp only [go_sem,simprocAttr,hb,hv] at h)|omega|intro h)
   ·refine ⟨k+1,by omega, ?_,by omega⟩
    rw [rZ,if_pos (by omega)]
    refine Le.of ?_ ?_<;>simp [go_sem,simprocAttr,hb,hv]
    rfl
   ·refine ⟨k+1,by omega, ?_,by omega⟩
    rw [rZ,if_neg (by omega),List.append_nil]
    refine Le.of ?_ ?_<;>simp [go_sem,simprocAttr,hb,hv]
  ·have hb:decide ((k:Int)<(ls.length:Int))=false:=decide_eq_false (by omega)
   obtain rfl:k=ls.length:=by omega
   repeat' (first|refine Rn.p ?_|(with_reducible apply And.intro)|((first|(refine hK _ ?_;clear hK K)|with_reducible intro K hK|refine Rs.p ?_|((with_reducible first|apply oP|apply oQ);exact rfl)|(refine aj hX hC hP [(10000,33)] (eD (ls.flatten.length:Int) (by omega) (by omega)) rfl rfl rfl ?_ ?_ ?_ ?_ ?_ ?_ ?_ ?_ ?_ ?_ ?_ ?_ ?_ ?_;(focus (simp only [go_sem,simprocAttr,hb];done));(iterate 12 (focus (simp [go_sem,simprocAttr,hb];done)));try simp only [List.map_cons,List.map_nil]));try simp only [go_sem,simprocAttr,hb])|((with_reducible refine oD ?_ ?_);kernel_rfl)|((with_reducible intro h);try simp only [go_sem,simprocAttr,hb] at h)|omega|intro h)
theorem Ef {f:Edge→Int} {g:Gr} :F7 f g=vL (dr f g):=rfl
theorem gy {f:Edge→Int} {g:Gr} :(dr f g).length=g.n.toNat:=by simp [dr]
def bM (f:Edge→Int) (g:Gr):List Int:=jl (dr f g) g.n.toNat
theorem e8 (g:Gr) (hm:aK g=true):Spec Tryz.prog 68 (Args [.d (vw g)]) [] (.d (sI (bM (·.2) g))) []:=by
 rw [aq]
 have hn:=aH hm
 have hle:(dr (·.2) g).length≤1000:=by rw [gy];omega
 (refine Spec.hd (C:=T.cfg [] []) (rs:= [.t 2]) (T.ah _ _) Tryz.func68 rfl rfl Tryz.ntmps68 Tryz.results68 (by simp [AObj.isNest]) (by simp [AObj.isNest]) (by kernel_rfl) T.mixed fun X hX hP hC aP ck=> ?_)
 repeat' (first|refine Rn.p ?_|(with_reducible apply And.intro)|((first|(refine hK _ ?_;clear hK K)|with_reducible intro K hK|refine Rs.p ?_|((with_reducible first|apply oP|apply oQ);exact rfl)|(rw [Ef];refine aa hX hC hP (uw (dr (·.2) g) hle) rfl rfl rfl (by simp only [go_sem,simprocAttr]) rfl ?_));try simp only [go_sem,simprocAttr])|((with_reducible refine oD ?_ ?_);kernel_rfl)|((with_reducible intro h);try simp only [go_sem,simprocAttr] at h)|omega|intro h)
 rw [gy];rfl
theorem zJ (g:Gr) (hm:aK g=true):Spec Tryz.prog 69 (Args [.d (vw g)]) [] (.d (sI (bM (·.1) g))) []:=by
 rw [aq]
 have hn:=aH hm
 have hle:(dr (·.1) g).length≤1000:=by rw [gy];omega
 (refine Spec.hd (C:=T.cfg [] []) (rs:= [.t 2]) (T.ah _ _) Tryz.func69 rfl rfl Tryz.ntmps69 Tryz.results69 (by simp [AObj.isNest]) (by simp [AObj.isNest]) (by kernel_rfl) T.mixed fun X hX hP hC aP ck=> ?_)
 repeat' (first|refine Rn.p ?_|(with_reducible apply And.intro)|((first|(refine hK _ ?_;clear hK K)|with_reducible intro K hK|refine Rs.p ?_|((with_reducible first|apply oP|apply oQ);exact rfl)|(rw [Ef];refine aa hX hC hP (uw (dr (·.1) g) hle) rfl rfl rfl (by simp only [go_sem,simprocAttr]) rfl ?_));try simp only [go_sem,simprocAttr])|((with_reducible refine oD ?_ ?_);kernel_rfl)|((with_reducible intro h);try simp only [go_sem,simprocAttr] at h)|omega|intro h)
 rw [gy];rfl
end Go.Ab
end
section
namespace Go.Ab
open Go.Proofs
attribute [local congr] ACall.congr gd.congr Nx.congr
set_option maxRecDepth 10000
def eL (g:Gr) (ws:List Int) (b:Int) (e:Int):Int:=if 0<ws.getD (tl g e.toNat).toNat 0∧(b<0∨tl g e.toNat<b) then tl g e.toNat else b
theorem Eg (g:Gr) (ws:List Int) (b:Int) (i:Nat):eL g ws b (i:Int)=if 0<ws.getD (g.es.getD i (0,0)).1.toNat 0∧(b<0∨(g.es.getD i (0,0)).1<b) then (g.es.getD i (0,0)).1 else b:=rfl
def uz (g:Gr) (ws:List Int) (es:List Int):Int:=es.foldl (eL g ws) (-1)
def kT (g:Gr) (ws:List Int) (at_:Int):Int:=uz g ws (oy g at_.toNat)
def mA (g:Gr) (ws:List Int):Nat→List Int→Int→List Int × Int
 |0,way,at_=>(way,at_)
 |f+1,way,at_=>if at_<0∨at_∈way then (way,at_) else mA g ws f (way++ [at_]) (kT g ws at_)
def lR (g:Gr):List Int × Int:=mA g (cy g (aR g)) g.n.toNat [] (bL (fun n=>decide (0<n)) (cy g (aR g)))
def nu (l:List Int):List Int:=l.drop (fC l (jW l)).toNat++l.take (fC l (jW l)).toNat
def kU (g:Gr):List Int:=if (lR g).2<0 then [] else nu ((lR g).1.drop (fC (lR g).1 (lR g).2).toNat).reverse
theorem gM (n:Int):Spec Tryz.prog 178 (Args [eN n]) [] (eB (decide (0<n))) []:=by
 (refine Spec.hd (C:=T.cfg [] []) (rs:= [.t 2]) (T.ah _ _) Tryz.func178 rfl rfl Tryz.ntmps178 Tryz.results178 (by simp [AObj.isNest]) (by simp [AObj.isNest]) (by kernel_rfl) T.mixed fun X hX hP hC aP ck=> ?_)
 repeat' (first|refine Rn.p ?_|(with_reducible apply And.intro)|((first|(refine hK _ ?_;clear hK K)|with_reducible intro K hK|refine Rs.p ?_|((with_reducible first|apply oP|apply oQ);exact rfl));try simp only [go_sem,simprocAttr])|((with_reducible refine oD ?_ ?_);kernel_rfl)|((with_reducible intro h);try simp only [go_sem,simprocAttr] at h)|omega|intro h)
structure Way (g:Gr) (way:List Int):Prop where
 lo:∀x∈way,0≤x∧x<g.n
 fuel:way.length+left g way=g.n.toNat
theorem r8 {g:Gr} :left g []=g.n.toNat:=by
 have:=(dL.nil g).fuel
 rw [List.length_nil,Nat.zero_add] at this
 exact this
theorem nv {g:Gr} {way:List Int} {a:Nat} (ha:a<g.n.toNat) (hn:(a:Int)∉way):left g way=left g (way++ [(a:Int)])+1:=by
 unfold left
 rw [← kS (p:=fun y:Nat=> !decide ((y:Int)∈way)) (x:=a) (by simp [hn]) ha]
 congr 1
 refine List.countP_congr fun y _=> ?_
 simp;omega
theorem Way.nil (g:Gr):Way g []:=⟨by simp,by rw [r8];simp⟩
theorem Way.next {g:Gr} {way:List Int} {a:Nat} (h:Way g way) (ha:a<g.n.toNat) (hn:(a:Int)∉way):Way g (way++ [(a:Int)]):=by
 refine ⟨fun x hx=> ?_, ?_⟩
 ·rcases List.mem_append.1 hx with hx|hx
  ·exact h.lo x hx
  ·simp at hx;omega
 ·have h1:=h.fuel
  have h2:=nv ha hn
  rw [List.length_append,List.length_singleton];omega
theorem vU {g:Gr} {x:Nat} {e:Int} (h:e∈oy g x):∃i:Nat,e=i∧i<g.es.length∧hd g i=x:=by
 simp only [oy,eC,List.mem_map,List.mem_filter,List.mem_range,decide_eq_true_eq] at h
 obtain ⟨i,⟨h1,h2⟩,rfl⟩:=h
 exact ⟨i,rfl,h1,h2⟩
theorem B4 {α β:Type} {f:β→α→β} {b:β} {l:List α} {j:Nat} {x:α} (h:l[j]? =some x):(l.take (j+1)).foldl f b=f ((l.take j).foldl f b) x:=by
 rw [List.take_add_one,List.foldl_append,h];rfl
theorem pE {g:Gr} (hm:aK g=true) (ws:List Int):∀(l:List Int) (b:Int),(b= -1∨(0≤b∧b<g.n))→(∀e∈l,∃i:Nat,e=i∧i<g.es.length)→l.foldl (eL g ws) b= -1∨(0≤l.foldl (eL g ws) b∧l.foldl (eL g ws) b<g.n)
 | [],b,hb,_=>hb
 |e::l,b,hb,h=>by
  refine pE hm ws l _ ?_ fun e he=>h e (List.mem_cons_of_mem _ he)
  obtain ⟨i,rfl,hi⟩:=h e List.mem_cons_self
  obtain ⟨⟨h1,h2⟩,_⟩:=dg hm hi
  unfold eL
  split
  ·exact .inr ⟨h1,h2⟩
  ·exact hb
theorem Eh {g:Gr} {x:Nat} :∀e∈oy g x,∃i:Nat,e=i∧i<g.es.length:=fun e he=>by
 obtain ⟨i,h1,h2,_⟩:=vU he;exact ⟨i,h1,h2⟩
theorem nw {g:Gr} {ws way:List Int} {a:Int} (h:a<0∨a∈way):∀f,mA g ws f way a=(way,a)
 |0=>rfl
 |f+1=>by simp only [mA];rw [if_pos h]
theorem ic {l:List Int} {x:Int} (h:x∈l):∃k:Nat,fC l x=k∧k<l.length∧l.getD k 0=x:=by
 rcases ia (f:=fun y:Int=>decide (x=y)) (l:=l) 0 with ⟨h1,h2⟩|⟨k,h1,h2,h3,_⟩
 ·exact absurd (h2 x h) (by simp)
 ·exact ⟨k,h1,h2,(of_decide_eq_true h3).symm⟩
theorem xZ:∀ {l:List Int},0<l.length→jW l∈l
 |a::r,_=>by
  have:∀(r:List Int) (a:Int),r.foldl min a=a∨r.foldl min a∈r:=by
   intro r
   induction r with
   |nil=>intro a;exact .inl rfl
   |cons b r ih=>
    intro a
    simp only [List.foldl_cons]
    rcases ih (min a b) with h|h
    ·by_cases hab:a≤b
     ·left;rw [h];omega
     ·right;rw [h];simp;omega
    ·right;simp [h]
  rcases this r a with h|h
  ·simp [jW,h]
  ·simp [jW,h]
theorem ig (g:Gr) (hm:aK g=true):Spec Tryz.prog 133 (Args [.d (vw g)]) [] (.d (sI (kU g))) []:=by
 have hn:=aH hm
 have AK:(cy g (aR g)).length≤9223372036854775807:=by rw [wts_length];omega
 (refine Spec.hd (C:=T.cfg [30] []) (rs:= [.t 2]) (T.ah _ _) Tryz.func133 rfl rfl Tryz.ntmps133 Tryz.results133 (by simp [AObj.isNest]) (by simp [AObj.isNest]) (by kernel_rfl) T.mixed fun X hX hP hC aP ck=> ?_)
 repeat' (first|refine Rn.p ?_|(with_reducible apply And.intro)|((first|(refine hK _ ?_;clear hK K)|with_reducible intro K hK|refine Rs.p ?_|((with_reducible first|apply oP|apply oQ);exact rfl)|refine aa hX hC hP (ji g hm) rfl rfl rfl (by simp only [go_sem,simprocAttr]) rfl ?_|refine aa hX hC hP (cx bz.nil _ [] _ gM (cy g (aR g)) AK) rfl rfl rfl (by simp only [go_sem,simprocAttr]) rfl ?_|(refine au hX hC hP (aX way a kg) rfl rfl rfl ?_ ?_ ?_ ?_;iterate 3 (focus (simp only [go_sem,simprocAttr];done)))|(refine au hX hC hP (aQ way a kg) rfl rfl rfl ?_ ?_ ?_ ?_;iterate 3 (focus (simp only [go_sem,simprocAttr];done)))|(refine aj hX hC hP [(10000,75)] (dD (way.drop k) hlr) rfl rfl rfl ?_ ?_ ?_ ?_ ?_ ?_ ?_ ?_ ?_ ?_ ?_ ?_ ?_ ?_;(focus (simp only [go_sem,simprocAttr];done));(iterate 12 (focus (simp [go_sem,simprocAttr];done)));try simp only [List.map_cons,List.map_nil])|(refine au hX hC hP (jk rev r9 hrev) rfl rfl rfl ?_ ?_ ?_ ?_;iterate 3 (focus (simp only [go_sem,simprocAttr];done)))|(refine au hX hC hP (aQ rev (jW rev) uA) rfl rfl rfl ?_ ?_ ?_ ?_;iterate 3 (focus (simp only [go_sem,simprocAttr];done)))|(refine cr hX hC hP (eH [rev.drop k2,rev.take k2] hc1 AL F8) rfl rfl rfl ?_ ?_ rfl ?_;iterate 2 (focus (simp only [go_sem,simprocAttr];done))));try simp only [go_sem,simprocAttr])|((with_reducible refine oD ?_ ?_);kernel_rfl)|((with_reducible intro h);try simp only [go_sem,simprocAttr] at h)|omega|intro h)
 (refine c8 hX 6 30 (.own 3 1 []) (by simp only [go_sem,simprocAttr]) (by simp only [go_sem,simprocAttr]) (by decide) ⟨3,1,by decide, .inl rfl⟩ ?_;simp only [go_sem,simprocAttr])
 refine an (fun i:List Int × Int=>Way g i.1∧(i.2= -1∨(0≤i.2∧i.2<g.n))∧mA g (cy g (aR g)) (left g i.1) i.1 i.2=lR g) (fun i=>⟨[(0, .d (vw g)),(4, .d (sI (cy g (aR g)))),(5,eN i.2),(6, .ref 30)], [(30, .own 3 1 (i.1.map rI))]⟩) (fun i=>left g i.1) ([],bL (fun n=>decide (0<n)) (cy g (aR g))) ⟨Way.nil g, ?_, ?_⟩ ?_ ?_
 ·rcases xM (fun n:Int=>decide (0<n)) (cy g (aR g)) with h|h
  ·exact .inl h
  ·rw [wts_length] at h;exact .inr (by simp only;omega)
 ·rw [r8];rfl
 ·(refine Le.of ?_ ?_<;>simp [go_sem,simprocAttr])
 rintro ⟨way,at_⟩ ⟨Ia,oc,hrun⟩
 simp only at Ia oc hrun ⊢
 have RU:way.length≤64:=by have:=Ia.fuel;omega
 have kg:way.length≤9223372036854775807:=by omega
 by_cases h0:at_<0
 ·have hb1:decide (0≤at_)=false:=decide_eq_false (by omega)
  have hb3:decide (at_<0)=true:=decide_eq_true h0
  have he:kU g= []:=by
   have:=nw (g:=g) (ws:=cy g (aR g)) (way:=way) (.inl h0) (left g way)
   rw [hrun] at this
   simp only [kU,this];rw [if_pos h0]
  repeat' (first|refine Rn.p ?_|(with_reducible apply And.intro)|((first|(refine hK _ ?_;clear hK K)|with_reducible intro K hK|refine Rs.p ?_|((with_reducible first|apply oP|apply oQ);exact rfl)|refine aa hX hC hP (ji g hm) rfl rfl rfl (by simp only [go_sem,simprocAttr,hb1,hb3]) rfl ?_|refine aa hX hC hP (cx bz.nil _ [] _ gM (cy g (aR g)) AK) rfl rfl rfl (by simp only [go_sem,simprocAttr,hb1,hb3]) rfl ?_|(refine au hX hC hP (aX way a kg) rfl rfl rfl ?_ ?_ ?_ ?_;iterate 3 (focus (simp only [go_sem,simprocAttr,hb1,hb3];done)))|(refine au hX hC hP (aQ way a kg) rfl rfl rfl ?_ ?_ ?_ ?_;iterate 3 (focus (simp only [go_sem,simprocAttr,hb1,hb3];done)))|(refine aj hX hC hP [(10000,75)] (dD (way.drop k) hlr) rfl rfl rfl ?_ ?_ ?_ ?_ ?_ ?_ ?_ ?_ ?_ ?_ ?_ ?_ ?_ ?_;(focus (simp only [go_sem,simprocAttr,hb1,hb3];done));(iterate 12 (focus (simp [go_sem,simprocAttr,hb1,hb3];done)));try simp only [List.map_cons,List.map_nil])|(refine au hX hC hP (jk rev r9 hrev) rfl rfl rfl ?_ ?_ ?_ ?_;iterate 3 (focus (simp only [go_sem,simprocAttr,hb1,hb3];done)))|(refine au hX hC hP (aQ rev (jW rev) uA) rfl rfl rfl ?_ ?_ ?_ ?_;iterate 3 (focus (simp only [go_sem,simprocAttr,hb1,hb3];done)))|(refine cr hX hC hP (eH [rev.drop k2,rev.take k2] hc1 AL F8) rfl rfl rfl ?_ ?_ rfl ?_;iterate 2 (focus (simp only [go_sem,simprocAttr,hb1,hb3];done))));try simp only [go_sem,simprocAttr,hb1,hb3])|((with_reducible refine oD ?_ ?_);kernel_rfl)|((with_reducible intro h);try simp only [go_sem,simprocAttr,hb1,hb3] at h)|omega|intro h)
  rw [he];rfl
 obtain ⟨a,rfl⟩:∃a:Nat,at_=a:=⟨at_.toNat,by omega⟩
 have Ls:a<g.n.toNat:=by omega
 have hb1:decide (0≤(a:Int))=true:=decide_eq_true (by omega)
 by_cases hmem:(a:Int)∈way
 ·have hb2:decide ((a:Int)∈way)=true:=decide_eq_true hmem
  have hb3:decide ((a:Int)<0)=false:=decide_eq_false h0
  have hend:=nw (g:=g) (ws:=cy g (aR g)) (.inr hmem) (left g way)
  rw [hrun] at hend
  obtain ⟨k,hk,cm,_⟩:=ic hmem
  obtain ⟨rev,iJ⟩:∃rev,rev=(way.drop k).reverse:=⟨_,rfl⟩
  have hrl:rev.length=way.length - k:=by rw [iJ];simp
  have r9:0<rev.length:=by omega
  have hrev:rev.length≤1000000:=by omega
  have uA:rev.length≤9223372036854775807:=by omega
  have hlr:(way.drop k).length≤1000000:=by simp;omega
  obtain ⟨k2,hk2,P5,_⟩:=ic (xZ r9)
  have hc1: [rev.drop k2,rev.take k2].length≤1000:=by simp
  have AL:0< [rev.drop k2,rev.take k2].flatten.length:=by simp;omega
  have F8: [rev.drop k2,rev.take k2].flatten.length≤1000000:=by simp;omega
  have Nb:kU g= [rev.drop k2,rev.take k2].flatten:=by
   simp only [kU,hend]
   rw [if_neg h0,hk]
   simp only [Int.toNat_natCast, ← iJ,nu,hk2,List.flatten_cons,List.flatten_nil,List.append_nil]
  repeat' (first|(show cj _ (.seq (.region 20 _ _) _) _ _;(refine qm hX 75 rfl (.inr rfl) ?_;simp only [go_sem,simprocAttr,hb1,hb2,hb3,hk,hk2, ← List.map_take, ← List.map_drop,List.take_length, ← iJ,vL]))|refine Rn.p ?_|(with_reducible apply And.intro)|((first|(refine hK _ ?_;clear hK K)|with_reducible intro K hK|refine Rs.p ?_|((with_reducible first|apply oP|apply oQ);exact rfl)|refine aa hX hC hP (ji g hm) rfl rfl rfl (by simp only [go_sem,simprocAttr,hb1,hb2,hb3,hk,hk2, ← List.map_take, ← List.map_drop,List.take_length, ← iJ,vL]) rfl ?_|refine aa hX hC hP (cx bz.nil _ [] _ gM (cy g (aR g)) AK) rfl rfl rfl (by simp only [go_sem,simprocAttr,hb1,hb2,hb3,hk,hk2, ← List.map_take, ← List.map_drop,List.take_length, ← iJ,vL]) rfl ?_|(refine au hX hC hP (aX way a kg) rfl rfl rfl ?_ ?_ ?_ ?_;iterate 3 (focus (simp only [go_sem,simprocAttr,hb1,hb2,hb3,hk,hk2, ← List.map_take, ← List.map_drop,List.take_length, ← iJ,vL];done)))|(refine au hX hC hP (aQ way a kg) rfl rfl rfl ?_ ?_ ?_ ?_;iterate 3 (focus (simp only [go_sem,simprocAttr,hb1,hb2,hb3,hk,hk2, ← List.map_take, ← List.map_drop,List.take_length, ← iJ,vL];done)))|(refine aj hX hC hP [(10000,75)] (dD (way.drop k) hlr) rfl rfl rfl ?_ ?_ ?_ ?_ ?_ ?_ ?_ ?_ ?_ ?_ ?_ ?_ ?_ ?_;(focus (simp only [go_sem,simprocAttr,hb1,hb2,hb3,hk,hk2, ← List.map_take, ← List.map_drop,List.take_length, ← iJ,vL];done));(iterate 12 (focus (simp [go_sem,simprocAttr,hb1,hb2,hb3,hk,hk2, ← List.map_take, ← List.map_drop,List.take_length, ← iJ,vL];done)));try simp only [List.map_cons,List.map_nil])|(refine au hX hC hP (jk rev r9 hrev) rfl rfl rfl ?_ ?_ ?_ ?_;iterate 3 (focus (simp only [go_sem,simprocAttr,hb1,hb2,hb3,hk,hk2, ← List.map_take, ← List.map_drop,List.take_length, ← iJ,vL];done)))|(refine au hX hC hP (aQ rev (jW rev) uA) rfl rfl rfl ?_ ?_ ?_ ?_;iterate 3 (focus (simp only [go_sem,simprocAttr,hb1,hb2,hb3,hk,hk2, ← List.map_take, ← List.map_drop,List.take_length, ← iJ,vL];done)))|(refine cr hX hC hP (eH [rev.drop k2,rev.take k2] hc1 AL F8) rfl rfl rfl ?_ ?_ rfl ?_;iterate 2 (focus (simp only [go_sem,simprocAttr,hb1,hb2,hb3,hk,hk2, ← List.map_take, ← List.map_drop,List.take_length, ← iJ,vL];done))));try simp only [go_sem,simprocAttr,hb1,hb2,hb3,hk,hk2, ← List.map_take, ← List.map_drop,List.take_length, ← iJ,vL])|((with_reducible refine oD ?_ ?_);kernel_rfl)|((with_reducible intro h);try simp only [go_sem,simprocAttr,hb1,hb2,hb3,hk,hk2, ← List.map_take, ← List.map_drop,List.take_length, ← iJ,vL] at h)|omega|intro h)
  rw [Nb]
 ·have hb2:decide ((a:Int)∈way)=false:=decide_eq_false hmem
  have hv:=nt (f:=(·.2)) Ls
  have Fq:(oy g a).length≤g.es.length:=gL
  repeat' (first|refine Rn.p ?_|(with_reducible apply And.intro)|((first|(refine hK _ ?_;clear hK K)|with_reducible intro K hK|refine Rs.p ?_|((with_reducible first|apply oP|apply oQ);exact rfl)|refine aa hX hC hP (ji g hm) rfl rfl rfl (by simp only [go_sem,simprocAttr,hb1,hb2,hv,aq]) rfl ?_|refine aa hX hC hP (cx bz.nil _ [] _ gM (cy g (aR g)) AK) rfl rfl rfl (by simp only [go_sem,simprocAttr,hb1,hb2,hv,aq]) rfl ?_|(refine au hX hC hP (aX way a kg) rfl rfl rfl ?_ ?_ ?_ ?_;iterate 3 (focus (simp only [go_sem,simprocAttr,hb1,hb2,hv,aq];done)))|(refine au hX hC hP (aQ way a kg) rfl rfl rfl ?_ ?_ ?_ ?_;iterate 3 (focus (simp only [go_sem,simprocAttr,hb1,hb2,hv,aq];done)))|(refine aj hX hC hP [(10000,75)] (dD (way.drop k) hlr) rfl rfl rfl ?_ ?_ ?_ ?_ ?_ ?_ ?_ ?_ ?_ ?_ ?_ ?_ ?_ ?_;(focus (simp only [go_sem,simprocAttr,hb1,hb2,hv,aq];done));(iterate 12 (focus (simp [go_sem,simprocAttr,hb1,hb2,hv,aq];done)));try simp only [List.map_cons,List.map_nil])|(refine au hX hC hP (jk rev r9 hrev) rfl rfl rfl ?_ ?_ ?_ ?_;iterate 3 (focus (simp only [go_sem,simprocAttr,hb1,hb2,hv,aq];done)))|(refine au hX hC hP (aQ rev (jW rev) uA) rfl rfl rfl ?_ ?_ ?_ ?_;iterate 3 (focus (simp only [go_sem,simprocAttr,hb1,hb2,hv,aq];done)))|(refine cr hX hC hP (eH [rev.drop k2,rev.take k2] hc1 AL F8) rfl rfl rfl ?_ ?_ rfl ?_;iterate 2 (focus (simp only [go_sem,simprocAttr,hb1,hb2,hv,aq];done))));try simp only [go_sem,simprocAttr,hb1,hb2,hv,aq])|((with_reducible refine oD ?_ ?_);kernel_rfl)|((with_reducible intro h);try simp only [go_sem,simprocAttr,hb1,hb2,hv,aq] at h)|omega|intro h)
  refine an (fun j:Nat=>j≤(oy g a).length) (fun j=>⟨[(39,eN j),(38,eN (oy g a).length),(37, .d (sI (oy g a))),(7,eN (uz g (cy g (aR g)) ((oy g a).take j))),(0, .d (IX g)),(4, .d (sI (cy g (aR g)))),(6, .ref 30)], [(30, .own 3 1 ((way++ [(a:Int)]).map rI))]⟩) (fun j=>(oy g a).length - j) 0 (by simp) ?_ ?_
  ·refine Le.of ?_ ?_<;>simp [go_sem,simprocAttr,hb1,hb2,hv,aq,oy,rI,uz]
  rintro j hj
  rcases Nat.lt_or_ge j (oy g a).length with hlt|hge
  ·have hb4:decide ((j:Int)<((oy g a).length:Int))=true:=decide_eq_true (by omega)
   obtain ⟨i,hi,hil,hit⟩:=vU (List.getElem_mem hlt)
   have hi1:(oy g a)[j]? =some (i:Int):=by rw [List.getElem?_eq_getElem hlt,hi]
   have hi2:(oy g a).getD j 0=(i:Int):=by rw [List.getD_eq_getElem?_getD,hi1];rfl
   obtain ⟨⟨Kl,yY⟩,_⟩:=dg hm hil
   have hstep:uz g (cy g (aR g)) ((oy g a).take (j+1))=eL g (cy g (aR g)) (uz g (cy g (aR g)) ((oy g a).take j)) i:=B4 hi1
   rw [Eg] at hstep
   repeat' (first|refine Rn.p ?_|(with_reducible apply And.intro)|((first|(refine hK _ ?_;clear hK K)|with_reducible intro K hK|refine Rs.p ?_|((with_reducible first|apply oP|apply oQ);exact rfl)|refine aa hX hC hP (ji g hm) rfl rfl rfl (by simp only [go_sem,simprocAttr,hb4,hi2,wts_length]) rfl ?_|refine aa hX hC hP (cx bz.nil _ [] _ gM (cy g (aR g)) AK) rfl rfl rfl (by simp only [go_sem,simprocAttr,hb4,hi2,wts_length]) rfl ?_|(refine au hX hC hP (aX way a kg) rfl rfl rfl ?_ ?_ ?_ ?_;iterate 3 (focus (simp only [go_sem,simprocAttr,hb4,hi2,wts_length];done)))|(refine au hX hC hP (aQ way a kg) rfl rfl rfl ?_ ?_ ?_ ?_;iterate 3 (focus (simp only [go_sem,simprocAttr,hb4,hi2,wts_length];done)))|(refine aj hX hC hP [(10000,75)] (dD (way.drop k) hlr) rfl rfl rfl ?_ ?_ ?_ ?_ ?_ ?_ ?_ ?_ ?_ ?_ ?_ ?_ ?_ ?_;(focus (simp only [go_sem,simprocAttr,hb4,hi2,wts_length];done));(iterate 12 (focus (simp [go_sem,simprocAttr,hb4,hi2,wts_length];done)));try simp only [List.map_cons,List.map_nil])|(refine au hX hC hP (jk rev r9 hrev) rfl rfl rfl ?_ ?_ ?_ ?_;iterate 3 (focus (simp only [go_sem,simprocAttr,hb4,hi2,wts_length];done)))|(refine au hX hC hP (aQ rev (jW rev) uA) rfl rfl rfl ?_ ?_ ?_ ?_;iterate 3 (focus (simp only [go_sem,simprocAttr,hb4,hi2,wts_length];done)))|(refine cr hX hC hP (eH [rev.drop k2,rev.take k2] hc1 AL F8) rfl rfl rfl ?_ ?_ rfl ?_;iterate 2 (focus (simp only [go_sem,simprocAttr,hb4,hi2,wts_length];done))));try simp only [go_sem,simprocAttr,hb4,hi2,wts_length])|((with_reducible refine oD ?_ ?_);kernel_rfl)|((with_reducible intro h);try simp only [go_sem,simprocAttr,hb4,hi2,wts_length] at h)|omega|intro h)
   all_goals (refine ⟨j+1,by omega, ?_,by omega⟩;first|rw [if_pos (by omega)] at hstep|rw [if_neg (by omega)] at hstep)
   all_goals (refine Le.of ?_ ?_<;>simp [go_sem,simprocAttr,hb4,hi2,wts_length,hstep])
  ·have hb4:decide ((j:Int)<((oy g a).length:Int))=false:=decide_eq_false (by omega)
   have ht:(oy g a).take j=oy g a:=List.take_of_length_le (by omega)
   repeat' (first|refine Rn.p ?_|(with_reducible apply And.intro)|((first|(refine hK _ ?_;clear hK K)|with_reducible intro K hK|refine Rs.p ?_|((with_reducible first|apply oP|apply oQ);exact rfl)|refine aa hX hC hP (ji g hm) rfl rfl rfl (by simp only [go_sem,simprocAttr,hb4,ht]) rfl ?_|refine aa hX hC hP (cx bz.nil _ [] _ gM (cy g (aR g)) AK) rfl rfl rfl (by simp only [go_sem,simprocAttr,hb4,ht]) rfl ?_|(refine au hX hC hP (aX way a kg) rfl rfl rfl ?_ ?_ ?_ ?_;iterate 3 (focus (simp only [go_sem,simprocAttr,hb4,ht];done)))|(refine au hX hC hP (aQ way a kg) rfl rfl rfl ?_ ?_ ?_ ?_;iterate 3 (focus (simp only [go_sem,simprocAttr,hb4,ht];done)))|(refine aj hX hC hP [(10000,75)] (dD (way.drop k) hlr) rfl rfl rfl ?_ ?_ ?_ ?_ ?_ ?_ ?_ ?_ ?_ ?_ ?_ ?_ ?_ ?_;(focus (simp only [go_sem,simprocAttr,hb4,ht];done));(iterate 12 (focus (simp [go_sem,simprocAttr,hb4,ht];done)));try simp only [List.map_cons,List.map_nil])|(refine au hX hC hP (jk rev r9 hrev) rfl rfl rfl ?_ ?_ ?_ ?_;iterate 3 (focus (simp only [go_sem,simprocAttr,hb4,ht];done)))|(refine au hX hC hP (aQ rev (jW rev) uA) rfl rfl rfl ?_ ?_ ?_ ?_;iterate 3 (focus (simp only [go_sem,simprocAttr,hb4,ht];done)))|(refine cr hX hC hP (eH [rev.drop k2,rev.take k2] hc1 AL F8) rfl rfl rfl ?_ ?_ rfl ?_;iterate 2 (focus (simp only [go_sem,simprocAttr,hb4,ht];done))));try simp only [go_sem,simprocAttr,hb4,ht])|((with_reducible refine oD ?_ ?_);kernel_rfl)|((with_reducible intro h);try simp only [go_sem,simprocAttr,hb4,ht] at h)|omega|intro h)
   refine ⟨(way++ [(a:Int)],kT g (cy g (aR g)) a),⟨Ia.next Ls hmem,pE hm _ _ _ (.inl rfl) Eh, ?_⟩, ?_, ?_⟩
   ·simp only
    rw [← hrun,nv Ls hmem]
    simp only [mA]
    rw [if_neg (by intro h;rcases h with h|h;omega;exact hmem h)]
   ·refine Le.of ?_ ?_<;>simp [go_sem,simprocAttr,hb4,ht,kT]
   ·have:=nv Ls hmem;simp only;omega
end Go.Ab
end
section
namespace Go.Ab
open Go.Proofs
attribute [local congr] ACall.congr gd.congr Nx.congr
set_option maxRecDepth 10000
def eF (f:Int × Int × List Int):AV:= .agg [eN f.1,eN f.2.1, .d (sI f.2.2)]
attribute [go_sem] eF
def kX (g:Gr):Int:=bL (fun e:Edge=>decide (e.1=e.2)) g.es
def sg (g:Gr) (i:Nat):Bool:=decide (g.es.getD i (0,0)∈g.es.take i)
def dZ (g:Gr):Int:=bL (sg g) (List.range g.es.length)
def jm (g:Gr) (Oe bare:List Int):Int × Int × List Int:=
 if aK g=false then (1,0, []) else
 if 0≤kX g then (13,kX g, []) else
 if 0≤dZ g then (14,dZ g, []) else
 if 0<Oe.length then (15,0,Oe) else
 if 1<bare.length then (16,0,bare.take 2) else (0,0, [])
def bX (g:Gr):Int × Int × List Int:=jm g (kU g) (bM (·.2) g)
theorem jo (e:Edge):Spec Tryz.prog 131 (Args [eE e]) [] (eB (decide (e.1=e.2))) []:=by
 (refine Spec.hd (C:=T.cfg [] []) (rs:= [.t 2]) (T.ah _ _) Tryz.func131 rfl rfl Tryz.ntmps131 Tryz.results131 (by simp [AObj.isNest]) (by simp [AObj.isNest]) (by kernel_rfl) T.mixed fun X hX hP hC aP ck=> ?_)
 repeat' (first|refine Rn.p ?_|(with_reducible apply And.intro)|((first|(refine hK _ ?_;clear hK K)|with_reducible intro K hK|refine Rs.p ?_|((with_reducible first|apply oP|apply oQ);exact rfl));try simp only [go_sem,simprocAttr])|((with_reducible refine oD ?_ ?_);kernel_rfl)|((with_reducible intro h);try simp only [go_sem,simprocAttr] at h)|omega|intro h)
theorem mB {n k:Nat} (h:k<n) (d:Nat):(List.range n).getD k d=k:=by
 simp [List.getD_eq_getElem?_getD,List.getElem?_range h]
theorem jX (g:Gr) (hl:g.es.length≤1000):Spec Tryz.prog 88 (Args [eG g]) [] (eF (bX g)) []:=by
 have hl:g.es.length≤9223372036854775807:=by omega
 (refine Spec.hd (C:=T.cfg [] []) (rs:= [.c 2 66]) (T.ah _ _) Tryz.func88 rfl rfl Tryz.ntmps88 Tryz.results88 (by simp [AObj.isNest]) (by simp [AObj.isNest]) (by kernel_rfl) T.mixed fun X hX hP hC aP ck=> ?_)
 cases hm:aK g with
 |false=>
  repeat' (first|refine Rn.p ?_|(with_reducible apply And.intro)|((first|(refine hK _ ?_;clear hK K)|with_reducible intro K hK|refine Rs.p ?_|((with_reducible first|apply oP|apply oQ);exact rfl)|refine aa hX hC hP (eZ g hl) rfl rfl rfl (by simp only [go_sem,simprocAttr,hm]) rfl ?_|refine aa hX hC hP (bF bz.nil _ [] _ jo g.es hl) rfl rfl rfl (by simp only [go_sem,simprocAttr,hm]) rfl ?_|refine aa hX hC hP (gw g hm) rfl rfl rfl (by simp only [go_sem,simprocAttr,hm]) rfl ?_|refine aa hX hC hP (ig g hm) rfl rfl rfl (by simp only [go_sem,simprocAttr,hm]) rfl ?_|refine aa hX hC hP (e8 g hm) rfl rfl rfl (by simp only [go_sem,simprocAttr,hm]) rfl ?_|refine aa hX hC hP (dn (g.es.take k) (g.es.getD k (0,0)) hlk) rfl rfl rfl (by simp only [go_sem,simprocAttr,hm]) rfl ?_);try simp only [go_sem,simprocAttr,hm])|((with_reducible refine oD ?_ ?_);kernel_rfl)|((with_reducible intro h);try simp only [go_sem,simprocAttr,hm] at h)|omega|intro h)
  all_goals simp [bX,jm,hm]
 |true=>
 have hn:=aH hm
 by_cases hlo:0≤kX g
 ·have hb1:decide (0≤bL (fun p:Edge=>decide (p.1=p.2)) g.es)=true:=decide_eq_true hlo
  repeat' (first|refine Rn.p ?_|(with_reducible apply And.intro)|((first|(refine hK _ ?_;clear hK K)|with_reducible intro K hK|refine Rs.p ?_|((with_reducible first|apply oP|apply oQ);exact rfl)|refine aa hX hC hP (eZ g hl) rfl rfl rfl (by simp only [go_sem,simprocAttr,hm,hb1]) rfl ?_|refine aa hX hC hP (bF bz.nil _ [] _ jo g.es hl) rfl rfl rfl (by simp only [go_sem,simprocAttr,hm,hb1]) rfl ?_|refine aa hX hC hP (gw g hm) rfl rfl rfl (by simp only [go_sem,simprocAttr,hm,hb1]) rfl ?_|refine aa hX hC hP (ig g hm) rfl rfl rfl (by simp only [go_sem,simprocAttr,hm,hb1]) rfl ?_|refine aa hX hC hP (e8 g hm) rfl rfl rfl (by simp only [go_sem,simprocAttr,hm,hb1]) rfl ?_|refine aa hX hC hP (dn (g.es.take k) (g.es.getD k (0,0)) hlk) rfl rfl rfl (by simp only [go_sem,simprocAttr,hm,hb1]) rfl ?_);try simp only [go_sem,simprocAttr,hm,hb1])|((with_reducible refine oD ?_ ?_);kernel_rfl)|((with_reducible intro h);try simp only [go_sem,simprocAttr,hm,hb1] at h)|omega|intro h)
  all_goals (
   have hc:bX g=(13,kX g, []):=by
    simp only [bX,jm];rw [if_neg (by simp [hm]),if_pos hlo]
   rw [hc]<;>rfl)
 have hb1:decide (0≤bL (fun p:Edge=>decide (p.1=p.2)) g.es)=false:=decide_eq_false hlo
 repeat' (first|refine Rn.p ?_|(with_reducible apply And.intro)|((first|(refine hK _ ?_;clear hK K)|with_reducible intro K hK|refine Rs.p ?_|((with_reducible first|apply oP|apply oQ);exact rfl)|refine aa hX hC hP (eZ g hl) rfl rfl rfl (by simp only [go_sem,simprocAttr,hm,hb1]) rfl ?_|refine aa hX hC hP (bF bz.nil _ [] _ jo g.es hl) rfl rfl rfl (by simp only [go_sem,simprocAttr,hm,hb1]) rfl ?_|refine aa hX hC hP (gw g hm) rfl rfl rfl (by simp only [go_sem,simprocAttr,hm,hb1]) rfl ?_|refine aa hX hC hP (ig g hm) rfl rfl rfl (by simp only [go_sem,simprocAttr,hm,hb1]) rfl ?_|refine aa hX hC hP (e8 g hm) rfl rfl rfl (by simp only [go_sem,simprocAttr,hm,hb1]) rfl ?_|refine aa hX hC hP (dn (g.es.take k) (g.es.getD k (0,0)) hlk) rfl rfl rfl (by simp only [go_sem,simprocAttr,hm,hb1]) rfl ?_);try simp only [go_sem,simprocAttr,hm,hb1])|((with_reducible refine oD ?_ ?_);kernel_rfl)|((with_reducible intro h);try simp only [go_sem,simprocAttr,hm,hb1] at h)|omega|intro h)
 refine an (fun k:Nat=>k≤g.es.length∧∀j,j<k→sg g j=false) (fun k=>⟨[(23,eN k),(22,eN g.es.length),(21, .d (sE g.es)),(1, .ptr 1 0),(2, .ptr 2 0)], [(1, .box [eN g.n, .d (sE g.es)]),(2, .box [eN 0,eN 0, .nil 3])]⟩) (fun k=>g.es.length - k) 0 (by simp) ?_ ?_
 ·(refine Le.of ?_ ?_<;>simp [go_sem,simprocAttr,hm,hb1])
 rintro k ⟨hk,Ib⟩
 rcases Nat.lt_or_ge k g.es.length with hlt|hge
 ·have hb2:decide ((k:Int)<(g.es.length:Int))=true:=decide_eq_true (by omega)
  have hlk:(g.es.take k).length≤9223372036854775807:=by rw [List.length_take];omega
  repeat' (first|refine Rn.p ?_|(with_reducible apply And.intro)|((first|(refine hK _ ?_;clear hK K)|with_reducible intro K hK|refine Rs.p ?_|((with_reducible first|apply oP|apply oQ);exact rfl)|refine aa hX hC hP (eZ g hl) rfl rfl rfl (by simp only [go_sem,simprocAttr,hm,hb1,hb2, ← List.map_take]) rfl ?_|refine aa hX hC hP (bF bz.nil _ [] _ jo g.es hl) rfl rfl rfl (by simp only [go_sem,simprocAttr,hm,hb1,hb2, ← List.map_take]) rfl ?_|refine aa hX hC hP (gw g hm) rfl rfl rfl (by simp only [go_sem,simprocAttr,hm,hb1,hb2, ← List.map_take]) rfl ?_|refine aa hX hC hP (ig g hm) rfl rfl rfl (by simp only [go_sem,simprocAttr,hm,hb1,hb2, ← List.map_take]) rfl ?_|refine aa hX hC hP (e8 g hm) rfl rfl rfl (by simp only [go_sem,simprocAttr,hm,hb1,hb2, ← List.map_take]) rfl ?_|refine aa hX hC hP (dn (g.es.take k) (g.es.getD k (0,0)) hlk) rfl rfl rfl (by simp only [go_sem,simprocAttr,hm,hb1,hb2, ← List.map_take]) rfl ?_);try simp only [go_sem,simprocAttr,hm,hb1,hb2, ← List.map_take])|((with_reducible refine oD ?_ ?_);kernel_rfl)|((with_reducible intro h);try simp only [go_sem,simprocAttr,hm,hb1,hb2, ← List.map_take] at h)|omega|intro h)
  any_goals (
   have P6:dZ g=(k:Int):=eX (d:=0) (by simpa using hlt) (fun j hj=>by rw [mB (by omega)];exact Ib j hj) (by rw [mB hlt];exact decide_eq_true h)
   have hc:bX g=(14,dZ g, []):=by
    simp only [bX,jm];rw [if_neg (by simp [hm]),if_neg hlo,if_pos (by omega)]
   rw [hc]<;>first|rfl|exact P6.symm)
  refine ⟨k+1,⟨by omega,fun j hj=> ?_⟩, ?_,by omega⟩
  ·by_cases hjk:j=k
   ·subst hjk;exact decide_eq_false h
   ·exact Ib j (by omega)
  ·(refine Le.of ?_ ?_<;>simp [go_sem,simprocAttr,hm,hb1,hb2, ← List.map_take])
 ·have hb2:decide ((k:Int)<(g.es.length:Int))=false:=decide_eq_false (by omega)
  have Nc:¬0≤dZ g:=by
   have:dZ g= -1:=dX 0 fun j hj=>by
    rw [List.length_range] at hj
    rw [mB hj];exact Ib j (by omega)
   omega
  repeat' (first|refine Rn.p ?_|(with_reducible apply And.intro)|((first|(refine hK _ ?_;clear hK K)|with_reducible intro K hK|refine Rs.p ?_|((with_reducible first|apply oP|apply oQ);exact rfl)|refine aa hX hC hP (eZ g hl) rfl rfl rfl (by simp only [go_sem,simprocAttr,hm,hb1,hb2]) rfl ?_|refine aa hX hC hP (bF bz.nil _ [] _ jo g.es hl) rfl rfl rfl (by simp only [go_sem,simprocAttr,hm,hb1,hb2]) rfl ?_|refine aa hX hC hP (gw g hm) rfl rfl rfl (by simp only [go_sem,simprocAttr,hm,hb1,hb2]) rfl ?_|refine aa hX hC hP (ig g hm) rfl rfl rfl (by simp only [go_sem,simprocAttr,hm,hb1,hb2]) rfl ?_|refine aa hX hC hP (e8 g hm) rfl rfl rfl (by simp only [go_sem,simprocAttr,hm,hb1,hb2]) rfl ?_|refine aa hX hC hP (dn (g.es.take k) (g.es.getD k (0,0)) hlk) rfl rfl rfl (by simp only [go_sem,simprocAttr,hm,hb1,hb2]) rfl ?_);try simp only [go_sem,simprocAttr,hm,hb1,hb2])|((with_reducible refine oD ?_ ?_);kernel_rfl)|((with_reducible intro h);try simp only [go_sem,simprocAttr,hm,hb1,hb2] at h)|omega|intro h)
  all_goals (
   have hc:bX g=if 0<(kU g).length then (15,0,kU g) else if 1<(bM (·.2) g).length then (16,0,(bM (·.2) g).take 2) else (0,0, []):=by
    simp only [bX,jm];rw [if_neg (by simp [hm]),if_neg hlo,if_neg Nc]
   first|rw [if_pos (by omega)] at hc|(rw [if_neg (by omega)] at hc;first|rw [if_pos (by omega)] at hc|rw [if_neg (by omega)] at hc)
   rw [hc]<;>first|rfl|simp only [List.map_take])
end Go.Ab
end
section
namespace Go.Ab
open Go.Proofs
attribute [local congr] ACall.congr gd.congr Nx.congr
set_option maxRecDepth 10000
def aL (f:Edge→Int) (es:List Edge) (k:Nat) (x:Int):List Int:=((List.range k).filter fun i=>decide (f (es.getD i (0,0))=x)).map Int.ofNat
theorem nE (f:Edge→Int) (es:List Edge) (k x:Nat):eC f es k x=aL f es k (x:Int):=rfl
theorem jq {f:Edge→Int} {es:List Edge} {k:Nat} {x:Int} :(aL f es k x).length≤k:=by
 simpa [aL] using List.length_filter_le (fun i=>decide (f (es.getD i (0,0))=x)) (List.range k)
def P7 (b:Bool) (e:Edge):Int:=if b then e.1 else e.2
end Go.Ab
end
section
namespace Go.Ab
open Go.Proofs
attribute [local congr] ACall.congr gd.congr Nx.congr
set_option maxRecDepth 10000
def rB (b:Bool):List D:= [.sc (.bool b)]
def sB (l:List Bool):D:= .sl 1 (l.map rB)
theorem getD_rB (l:List Bool) (i:Nat):(l.map rB).getD i [.sc (.bool false)]= [.sc (.bool (l.getD i false))]:=by
 simp only [List.getD_eq_getElem?_getD,List.getElem?_map]
 cases l[i]? <;>rfl
attribute [go_sem] getD_rB sB
def uB (n k:Nat):List Bool:=(List.range n).map fun y=>decide (y<k)
def si (g:Gr) (l:List Bool) (j:Nat):List Bool:=(List.range g.n.toNat).map fun y:Nat=>(List.range j).any fun i=>decide (hd g i=(y:Int))&&(l.getD (tl g i).toNat false&&l.getD (hd g i).toNat false)
def nF (g:Gr):Nat→List Bool
 |0=>uB g.n.toNat g.n.toNat
 |k+1=>si g (nF g k) g.es.length
theorem trueK_length {n k:Nat} :(uB n k).length=n:=by simp [uB]
theorem nextK_length {g:Gr} {l:List Bool} {j:Nat} :(si g l j).length=g.n.toNat:=by simp [si]
theorem leftK_length {g:Gr} {k:Nat} :(nF g k).length=g.n.toNat:=by
 cases k
 ·exact trueK_length
 ·exact nextK_length
attribute [go_sem] trueK_length nextK_length leftK_length
end Go.Ab
end
section
namespace Go.Ab
open Go.Proofs
attribute [local congr] ACall.congr gd.congr Nx.congr
set_option maxRecDepth 10000
def G4 (g:Gr):List Bool:=nF g g.n.toNat
def IY (g:Gr):Int:=if bL (fun b:Bool=>b) (G4 g)<0 then g.n else bL (fun b:Bool=>b) (G4 g)
def Ic (g:Gr) (x:Int) (b:Int) (i:Nat):Int:=if hd g i=x∧(G4 g).getD (tl g i).toNat false=true then min b (tl g i) else b
def Km (g:Gr) (x:Int) (k:Nat):Int:=(List.range k).foldl (Ic g x) g.n
def Kn (g:Gr):Nat→List Int→Int→List Int × Int
 |0,way,x=>(way,x)
 |f+1,way,x=>if x∈way then (way,x) else Kn g f (way++ [x]) (Km g x g.es.length)
def gx (g:Gr):Gr:=⟨g.n+1,g.es⟩
def Ei (g:Gr):List Int × Int:=Kn g (g.n.toNat+1) [] (IY g)
def Nd (l:List Int) (m k:Nat):List Int:=(List.range k).map fun i=>l.getD ((m+l.length - i) % l.length) 0
def Ko (l:List Int):List Int:=Nd l (fC l (jW l)).toNat l.length
def Kq (g:Gr):List Int:=if IY g=g.n then [] else Ko ((Ei g).1.drop (fC (Ei g).1 (Ei g).2).toNat)
theorem jr {l:List Int} {m:Nat} (h:m<l.length):l.getD m 0∈l:=by
 rw [List.getD_eq_getElem?_getD,List.getElem?_eq_getElem h];exact List.getElem_mem h
end Go.Ab
end
section
namespace Go.Ab
open Go.Proofs
attribute [local congr] ACall.congr gd.congr Nx.congr
set_option maxRecDepth 10000
def Of (g:Gr):Int × Int × List Int:=jm g (Kq g) (bM (·.2) g)
end Go.Ab
end
section
namespace Go.Ab
def Ord (g:Gr) (out:List Int):Prop:=∀p,p<out.length→∀i,i<g.es.length→hd g i=out.getD p 0→tl g i∈out.take p
theorem nG {l r:List Int} {p:Nat} (h:p<l.length):(l++r).getD p 0=l.getD p 0:=by
 rw [List.getD_eq_getElem?_getD,List.getD_eq_getElem?_getD,List.getElem?_append_left h]
theorem Ord.next {g:Gr} {out:List Int} (h:Ord g out) {x:Nat} (hb:∀i,i<g.es.length→hd g i=x→tl g i∈out):Ord g (out++ [(x:Int)]):=by
 intro p hp i hi hh
 rw [List.length_append,List.length_singleton] at hp
 by_cases cT:p<out.length
 ·rw [nG cT] at hh
  have:=h p cT i hi hh
  rw [List.take_append_of_le_length (by omega)]
  exact this
 ·have hpe:p=out.length:=by omega
  subst hpe
  rw [List.getD_eq_getElem?_getD,List.getElem?_append_right (by omega)] at hh
  simp at hh
  rw [List.take_append_of_le_length (by omega),List.take_of_length_le (by omega)]
  exact hb i hi hh
theorem sj {g:Gr} (hm:aK g=true):∀f out,dL g out→Ord g out→left g out≤f→dL g (tV g f out)∧Ord g (tV g f out)∧fC (cy g (tV g f out)) 0<0
 |f,out,hP,hO,hl=>by
  rcases Kk (g:=g) out with hx|⟨x,hx,AJ,hw⟩
  ·rw [xY (by omega)];exact ⟨hP,hO,by omega⟩
  ·obtain ⟨Og,_,hb⟩:=hP.next hm AJ hw
   have hn:=uu hP Og
   cases f with
   |zero=>omega
   |succ f=>
    have:=sj hm f (out++ [(x:Int)]) Og (hO.next hb) (by omega)
    simp only [tV,hx]
    rw [if_neg (by omega)]
    exact this
theorem fF {g:Gr} (hm:aK g=true):dL g (aR g)∧Ord g (aR g)∧fC (cy g (aR g)) 0<0:=
 sj hm _ _ (dL.nil g) (fun p hp=>by simp at hp) (by rw [r8];exact Nat.le_refl _)
theorem oz {g:Gr} (hm:aK g=true) {y:Nat} (hy:y<g.n.toNat):0<wt g (aR g) y↔(y:Int)∉aR g:=by
 obtain ⟨_,_,hi⟩:=fF hm
 constructor
 ·intro h hin;simp [wt,hin] at h
 ·intro h
  have h0:wt g (aR g) y≠0:=by
   intro e
   rcases ia (f:=fun y:Int=>decide (0=y)) (l:=cy g (aR g)) 0 with ⟨_,h2⟩|⟨k,h1,_⟩
   ·have:=h2 _ (List.mem_of_getElem? (jU hy))
    rw [e] at this;simp at this
   ·have:fC (cy g (aR g)) 0=k:=h1
    omega
  have:0≤wt g (aR g) y:=by simp only [wt,h,if_false];omega
  omega
theorem sk {g:Gr} {l:List Bool} {j y:Nat} (h:y<g.n.toNat):(si g l j).getD y false=(List.range j).any fun i=>decide (hd g i=(y:Int))&&(l.getD (tl g i).toNat false&&l.getD (hd g i).toNat false):=by
 simp [si,List.getD_eq_getElem?_getD,List.getElem?_range h]
theorem sn {g:Gr} (hm:aK g=true):∀k y,y<g.n.toNat→(y:Int)∉aR g→(nF g k).getD y false=true
 |0,y,hy,_=>by simp [nF,uB,List.getD_eq_getElem?_getD,List.getElem?_range hy];omega
 |k+1,y,hy,h=>by
  have hw:=(oz hm hy).2 h
  simp only [wt,h,if_false] at hw
  obtain ⟨i,hi,hp⟩:=List.countP_pos_iff.1 (Int.natCast_pos.1 hw)
  simp only [Bool.and_eq_true,decide_eq_true_eq,Bool.not_eq_true',decide_eq_false_iff_not] at hp
  have hil:=List.mem_range.1 hi
  obtain ⟨⟨h1,h2⟩,_⟩:=dg hm hil
  have ht:(g.es.getD i (0,0)).1=tl g i:=rfl
  rw [ht] at h1 h2
  have e:((tl g i).toNat:Int)=tl g i:=by omega
  have g1:=sn hm k (tl g i).toNat (by omega) (by rw [e];exact hp.2)
  have g2:=sn hm k y hy h
  show (si g (nF g k) g.es.length).getD y false=true
  rw [sk hy,List.any_eq_true]
  refine ⟨i,hi, ?_⟩
  rw [hp.1,Int.toNat_natCast,g1,g2];simp
theorem AM {g:Gr} (hm:aK g=true):∀k p,p<k→p<(aR g).length→(nF g k).getD ((aR g).getD p 0).toNat false=false
 |0,p,h,_=>by omega
 |k+1,p,h,hp=>by
  obtain ⟨hP,hO,_⟩:=fF hm
  have hr:=hP.lo _ (jr hp)
  obtain ⟨y,hy⟩:∃y:Nat,(aR g).getD p 0=y:=⟨((aR g).getD p 0).toNat,by omega⟩
  have Ie:y<g.n.toNat:=by omega
  rw [hy,Int.toNat_natCast]
  show (si g (nF g k) g.es.length).getD y false=false
  rw [sk Ie,List.any_eq_false]
  intro i hi
  have hil:=List.mem_range.1 hi
  simp only [Bool.and_eq_true,decide_eq_true_eq]
  rintro ⟨h1,h2,_⟩
  have ht:=hO p hp i hil (by rw [h1,hy])
  rw [List.mem_iff_getElem?] at ht
  obtain ⟨q,hq⟩:=ht
  rw [List.getElem?_take] at hq
  split at hq
  ·rename_i P8
   have:=AM hm k q (by omega) (by omega)
   rw [List.getD_eq_getElem?_getD (l:=aR g),hq] at this
   rw [Option.getD_some,h2] at this
   cases this
  ·cases hq
theorem Ig {g:Gr} (hm:aK g=true) {y:Nat} (hy:y<g.n.toNat):(G4 g).getD y false=true↔(y:Int)∉aR g:=by
 constructor
 ·intro h hin
  obtain ⟨hP,_,_⟩:=fF hm
  obtain ⟨p,hp,e⟩:=List.getElem_of_mem hin
  have hl:=hP.fuel
  have:=AM hm g.n.toNat p (by omega) hp
  rw [List.getD_eq_getElem?_getD (l:=aR g),List.getElem?_eq_getElem hp,Option.getD_some,e,Int.toNat_natCast] at this
  have h2:(nF g g.n.toNat).getD y false=true:=h
  rw [this] at h2;cases h2
 ·intro h;exact sn hm _ y hy h
theorem Ej {g:Gr} (hm:aK g=true) {y:Nat} (hy:y<g.n.toNat):(G4 g).getD y false=decide (0<(cy g (aR g)).getD y 0):=by
 rw [kR hy,Bool.eq_iff_iff,Ig hm hy,decide_eq_true_eq,oz hm hy]
theorem start_eq {g:Gr} (hm:aK g=true):(bL (fun n=>decide (0<n)) (cy g (aR g))= -1∧IY g=g.n)∨∃a:Nat,a<g.n.toNat∧bL (fun n=>decide (0<n)) (cy g (aR g))=a∧IY g=a∧(a:Int)∉aR g:=by
 have hlf:(G4 g).length=g.n.toNat:=leftK_length
 rcases ia (f:=fun n:Int=>decide (0<n)) (l:=cy g (aR g)) 0 with ⟨h1,h2⟩|⟨k,h1,h2,h3,h4⟩
 ·refine .inl ⟨h1, ?_⟩
  have:bL (fun b:Bool=>b) (G4 g)= -1:=dX false fun j hj=>by
   rw [hlf] at hj
   rw [Ej hm hj]
   exact h2 _ (by rw [List.getD_eq_getElem?_getD,jU hj];exact List.mem_of_getElem? (jU hj))
  unfold IY;rw [this,if_pos (by omega)]
 ·rw [wts_length] at h2
  refine .inr ⟨k,h2,h1, ?_, ?_⟩
  ·have:bL (fun b:Bool=>b) (G4 g)=k:=eX (d:=false) (by omega) (fun j hj=>by
    rw [Ej hm (by omega)];exact h4 j hj) (by rw [Ej hm h2];exact h3)
   unfold IY;rw [this,if_neg (by omega)]
  ·rw [← oz hm h2]
   rw [kR h2] at h3
   exact of_decide_eq_true h3
def Q (g:Gr) (a:Nat) (t:Int):Prop:=∃i,i<g.es.length∧hd g i=(a:Int)∧tl g i=t∧t∉aR g
theorem aZ {g:Gr} (hm:aK g=true) {i:Nat} (hi:i<g.es.length):0≤tl g i∧tl g i<g.n:=(dg hm hi).1
theorem bn {g:Gr} (hm:aK g=true) {i:Nat} (hi:i<g.es.length):0≤hd g i∧hd g i<g.n:=(dg hm hi).2
theorem B5 {g:Gr} (hm:aK g=true) {i:Nat} (hi:i<g.es.length):0<(cy g (aR g)).getD (tl g i).toNat 0↔tl g i∉aR g:=by
 have h:=aZ hm hi
 have e:((tl g i).toNat:Int)=tl g i:=by omega
 rw [kR (by omega),oz hm (by omega),e]
theorem pF {g:Gr} (hm:aK g=true):∀(l:List Int) (b:Int),(∀e∈l,∃i:Nat,e=i∧i<g.es.length)→
 (b= -1∨0≤b)→(l.foldl (eL g (cy g (aR g))) b=b∨∃i:Nat,(i:Int)∈l∧tl g i∉aR g∧l.foldl (eL g (cy g (aR g))) b=tl g i)∧(0≤b→l.foldl (eL g (cy g (aR g))) b≤b)∧
   (∀i:Nat,(i:Int)∈l→tl g i∉aR g→0≤l.foldl (eL g (cy g (aR g))) b∧l.foldl (eL g (cy g (aR g))) b≤tl g i)
 | [],b,_,_=>⟨.inl rfl,fun _=>Int.le_refl _,by simp⟩
 |e::l,b,he,hb=>by
  obtain ⟨i,rfl,hi⟩:=he e List.mem_cons_self
  have htr:=aZ hm hi
  have hw:=B5 hm hi
  have hstep:eL g (cy g (aR g)) b (i:Int)=if tl g i∉aR g∧(b<0∨tl g i<b) then tl g i else b:=by
   simp only [eL,Int.toNat_natCast,hw]
  have hb':eL g (cy g (aR g)) b (i:Int)= -1∨0≤eL g (cy g (aR g)) b (i:Int):=by
   rw [hstep];split
   ·exact .inr htr.1
   ·exact hb
  obtain ⟨h1,h2,h3⟩:=pF hm l (eL g (cy g (aR g)) b (i:Int)) (fun e h=>he e (List.mem_cons_of_mem _ h)) hb'
  simp only [List.foldl_cons]
  generalize hr:l.foldl (eL g (cy g (aR g))) (eL g (cy g (aR g)) b (i:Int))=r at h1 h2 h3 ⊢
  refine ⟨?_, ?_, ?_⟩
  ·rcases h1 with h1|⟨j,hj,h4,h5⟩
   ·rw [hstep] at h1
    split at h1
    ·rename_i hc
     exact .inr ⟨i,by simp,hc.1,h1⟩
    ·exact .inl h1
   ·exact .inr ⟨j,by simp [hj],h4,h5⟩
  ·intro h0
   rw [hstep] at h2
   split at h2
   ·rename_i hc;have:=h2 htr.1;omega
   ·exact h2 h0
  ·intro j hj hjn
   rcases List.mem_cons.1 hj with hj|hj
   ·have:j=i:=Int.ofNat.inj hj
    subst this
    rw [hstep] at h1 h2
    split at h1
    ·rename_i hc
     rw [if_pos hc] at h2
     have:=h2 htr.1
     rcases h1 with h1|⟨q,hq,h4,h5⟩
     ·omega
     ·obtain ⟨i',e',hi'⟩:=he q (List.mem_cons_of_mem _ hq)
      have:q=i':=Int.ofNat.inj e'
      subst this
      have:=aZ hm hi';omega
    ·rename_i hc
     rw [if_neg hc] at h2
     have IP:¬(b<0∨tl g j<b):=fun h=>hc ⟨hjn,h⟩
     have:=h2 (by omega)
     rcases h1 with h1|⟨q,hq,h4,h5⟩
     ·omega
     ·obtain ⟨i',e',hi'⟩:=he q (List.mem_cons_of_mem _ hq)
      have:q=i':=Int.ofNat.inj e'
      subst this
      have:=aZ hm hi';omega
   ·exact h3 j hj hjn
theorem zK {g:Gr} (hm:aK g=true) {a:Nat} (h:∃t,Q g a t):Q g a (kT g (cy g (aR g)) a)∧∀t,Q g a t→kT g (cy g (aR g)) a≤t:=by
 have hin:∀i,i<g.es.length→hd g i=(a:Int)→(i:Int)∈oy g a:=by
  intro i hi hh
  simp only [oy,eC,List.mem_map,List.mem_filter,List.mem_range,decide_eq_true_eq]
  exact ⟨i,⟨hi,hh⟩,rfl⟩
 obtain ⟨h1,_,h3⟩:=pF hm (oy g a) (-1) Eh (.inl rfl)
 have hG:kT g (cy g (aR g)) a=(oy g a).foldl (eL g (cy g (aR g))) (-1):=by simp [kT,uz]
 rw [← hG] at h1 h3
 have hle:∀t,Q g a t→0≤kT g (cy g (aR g)) a∧kT g (cy g (aR g)) a≤t:=by
  rintro t ⟨i,h4,h5,rfl,h6⟩
  exact h3 i (hin i h4 h5) h6
 obtain ⟨t,ht⟩:=h
 have h0:=(hle t ht).1
 refine ⟨?_,fun t ht=>(hle t ht).2⟩
 rcases h1 with h1|⟨i,hi,h4,h5⟩
 ·omega
 ·obtain ⟨i',e',hi',hh⟩:=vU hi
  have:i=i':=Int.ofNat.inj e'
  subst this
  exact ⟨i,hi',hh,h5.symm,by rw [h5];exact h4⟩
theorem Kr {g:Gr} (hm:aK g=true) {a:Nat} (ha:a<g.n.toNat) (h:(a:Int)∉aR g):∃t,Q g a t:=by
 have hw:=(oz hm ha).2 h
 simp only [wt,h,if_false] at hw
 obtain ⟨i,hi,hp⟩:=List.countP_pos_iff.1 (Int.natCast_pos.1 hw)
 simp only [Bool.and_eq_true,decide_eq_true_eq,Bool.not_eq_true',decide_eq_false_iff_not] at hp
 exact ⟨tl g i,i,List.mem_range.1 hi,hp.1,rfl,hp.2⟩
theorem F9 {g:Gr} {way:List Int} :left g way≤g.n.toNat:=by
 unfold left
 have:=List.countP_le_length (p:=fun y:Nat=> !decide ((y:Int)∈way)) (l:=List.range g.n.toNat)
 simpa using this
theorem jY {l:List Int} (h:l.Nodup) {i j:Nat} (hi:i<l.length) (hj:j<l.length) (e:l.getD i 0=l.getD j 0):i=j:=by
 rw [List.getD_eq_getElem?_getD,List.getD_eq_getElem?_getD,List.getElem?_eq_getElem hi,List.getElem?_eq_getElem hj] at e
 exact (List.getElem_inj h).1 e
end Go.Ab
end
section
namespace Go.Ab
end Go.Ab
end
section
namespace Go.Ab
open Go.Proofs
attribute [local congr] ACall.congr gd.congr Nx.congr
set_option maxRecDepth 10000
def g0:Gr:=⟨3, [(0,1),(1,2),(2,1)]⟩
end Go.Ab
end
section
namespace Go.Ab
open Go.Proofs
attribute [local congr] ACall.congr gd.congr Nx.congr
set_option maxRecDepth 10000
def AO (g:Gr):Bool:=decide (g.n≤((aR g).length:Int))
def P9 (g:Gr):List Int:=if AO g then aR g else []
def kY (l:List Int) (n:Int):Bool:=decide ((l.length:Int)=n)&&(List.range n.toNat).all fun x:Nat=>decide ((x:Int)∈l)
end Go.Ab
end
section
namespace Go.Ab
open Go.Proofs
attribute [local congr] ACall.congr gd.congr Nx.congr
set_option maxRecDepth 10000
theorem count_le:∀(xs l:List Int),xs.Nodup→(∀x∈xs,x∈l)→xs.length≤l.countP (fun y=>decide (y∈xs))
 | [],_,_,_=>Nat.zero_le _
 |a::r,l,hd,h=>by
  obtain ⟨h1,h2⟩:=List.nodup_cons.1 hd
  have ih:=count_le r l h2 fun x hx=>h x (List.mem_cons_of_mem _ hx)
  have hp:=jV (p:=fun y=>decide (y∈a::r)) (q:=fun y=>decide (y∈r)) (r:=fun y=>decide (y=a)) (l:=l) (fun y _=>by
   by_cases hy:y=a
   ·subst hy;simp [h1]
   ·simp [hy])
  have ha:0<l.countP (fun y=>decide (y=a)):=List.countP_pos_iff.2 ⟨a,h a List.mem_cons_self,by simp⟩
  rw [hp,List.length_cons];omega
def cQ (n:Nat):List Int:=(List.range n).map Int.ofNat
theorem cC {n:Nat} {x:Int} :x∈cQ n↔0≤x∧x<n:=by
 simp only [cQ,List.mem_map,List.mem_range]
 constructor
 ·rintro ⟨a,h,rfl⟩;simp;omega
 ·intro h;exact ⟨x.toNat,by omega,by simp;omega⟩
theorem mC {n:Nat} :(cQ n).Nodup:=by
 unfold cQ
 exact List.Pairwise.map _ (fun a b h e=>h (Int.ofNat.inj e)) List.nodup_range
theorem cn {l:List Int} {n:Int} :kY l n=true↔(l.length:Int)=n∧∀x∈cQ n.toNat,x∈l:=by
 simp only [kY,Bool.and_eq_true,decide_eq_true_eq,List.all_eq_true,List.mem_range]
 constructor
 ·rintro ⟨h1,h2⟩
  refine ⟨h1,fun x hx=> ?_⟩
  obtain ⟨a,b⟩:=cC.1 hx
  have:=h2 x.toNat (by omega)
  rwa [show ((x.toNat:Nat):Int)=x from by omega] at this
 ·rintro ⟨h1,h2⟩
  exact ⟨h1,fun x hx=>h2 _ (cC.2 (by omega))⟩
theorem sq {l:List Int} {n:Int} (h:kY l n=true):∀x∈l,0≤x∧x<n:=by
 obtain ⟨h1,h2⟩:=cn.1 h
 have hc:=count_le (cQ n.toNat) l mC h2
 have hlen:(cQ n.toNat).length=n.toNat:=by simp [cQ]
 have he:l.countP (fun y=>decide (y∈cQ n.toNat))=l.length:=by
  have:=List.countP_le_length (p:=fun y=>decide (y∈cQ n.toNat)) (l:=l)
  omega
 intro x hx
 have:=List.countP_eq_length.1 he x hx
 have:=cC.1 (of_decide_eq_true this)
 omega
def y4 (n:Nat) (l:List Int):Nat→List Int
 |0=>List.replicate n 0
 |k+1=>(y4 n l k).set (l.getD k 0).toNat k
theorem atK_length {n:Nat} {l:List Int} :∀ {k:Nat},(y4 n l k).length=n
 |0=>by simp [y4]
 |k+1=>by simp [y4,atK_length (k:=k)]
def Ek (g:Gr) (l:List Int) (j:Nat):Bool:=(List.range j).all fun i=>decide ((y4 g.n.toNat l l.length).getD (tl g i).toNat 0<(y4 g.n.toNat l l.length).getD (hd g i).toNat 0)
def vV (g:Gr) (l:List Int):Bool:=kY l g.n&&Ek g l g.es.length
attribute [go_sem] atK_length
end Go.Ab
end
section
namespace Go.Ab
def RW (g:Gr) (out:List Int):Prop:=∀p,p<out.length→out.getD p 0=fC (cy g (out.take p)) 0∧0≤out.getD p 0
theorem AQ {g:Gr} (hm:aK g=true) (h:AO g=true):kY (aR g) g.n=true:=by
 obtain ⟨hP,_,_⟩:=fF hm
 have hn:=aH hm
 have hf:=hP.fuel
 have hok:=of_decide_eq_true h
 refine cn.2 ⟨by omega,fun x hx=> ?_⟩
 obtain ⟨h1,h2⟩:=cC.1 hx
 have h0:(List.range g.n.toNat).countP (fun y:Nat=> !decide ((y:Int)∈aR g))=0:=by omega
 have:=List.countP_eq_zero.1 h0 x.toNat (List.mem_range.2 (by omega))
 rw [show ((x.toNat:Nat):Int)=x from by omega] at this
 simpa using this
theorem AS {g:Gr} (hm:aK g=true) (h:AO g=false):∃y:Nat,y<g.n.toNat∧(y:Int)∉aR g:=by
 obtain ⟨hP,_,_⟩:=fF hm
 have hn:=aH hm
 have hf:=hP.fuel
 have hok:=of_decide_eq_false h
 have h0:0<(List.range g.n.toNat).countP (fun y:Nat=> !decide ((y:Int)∈aR g)):=by omega
 obtain ⟨y,hy,hp⟩:=List.countP_pos_iff.1 h0
 exact ⟨y,List.mem_range.1 hy,by simpa using hp⟩
theorem El {g:Gr} {l:List Int} (h:vV g l=true) {i:Nat} (hi:i<g.es.length):(y4 g.n.toNat l l.length).getD (tl g i).toNat 0<(y4 g.n.toNat l l.length).getD (hd g i).toNat 0:=by
 simp only [vV,Bool.and_eq_true] at h
 have:=List.all_eq_true.1 h.2 i (List.mem_range.2 hi)
 exact of_decide_eq_true this
theorem sr {n:Nat} {l:List Int} :∀ {k:Nat} {y:Nat},0≤(y4 n l k).getD y 0
 |0,y=>by
  simp only [y4,List.getD_eq_getElem?_getD,List.getElem?_replicate]
  split<;>simp
 |k+1,y=>by
  have ih:=sr (n:=n) (l:=l) (k:=k) (y:=y)
  simp only [y4,List.getD_eq_getElem?_getD,List.getElem?_set] at ih ⊢
  split
  ·split<;>simp
  ·exact ih
theorem vW {l:List Int} {i j:Nat} (hij:i<j) (hj:j<l.length) (e:l.getD i 0=l.getD j 0):∀x∈l,x∈l.eraseIdx i:=by
 intro x hx
 obtain ⟨k,hk,rfl⟩:=List.getElem_of_mem hx
 rw [List.mem_iff_getElem?]
 rcases Nat.lt_trichotomy k i with h|h|h
 ·exact ⟨k,by rw [List.getElem?_eraseIdx,if_pos h,List.getElem?_eq_getElem hk]⟩
 ·subst h
  refine ⟨j - 1, ?_⟩
  rw [List.getElem?_eraseIdx,if_neg (by omega),show j - 1+1=j from by omega,List.getElem?_eq_getElem hj]
  rw [List.getD_eq_getElem?_getD,List.getD_eq_getElem?_getD,List.getElem?_eq_getElem hk,List.getElem?_eq_getElem hj] at e
  exact congrArg some e.symm
 ·exact ⟨k - 1,by rw [List.getElem?_eraseIdx,if_neg (by omega),show k - 1+1=k from by omega,List.getElem?_eq_getElem hk]⟩
theorem jZ {l:List Int} {n:Int} (h:kY l n=true) {i j:Nat} (hi:i<l.length) (hj:j<l.length) (e:l.getD i 0=l.getD j 0):i=j:=by
 obtain ⟨h1,h2⟩:=cn.1 h
 have key:∀i j,i<j→j<l.length→l.getD i 0=l.getD j 0→False:=by
  intro i j hij hj e
  have hc:=count_le (cQ n.toNat) (l.eraseIdx i) mC fun x hx=>vW hij hj e x (h2 x hx)
  have hlen:(cQ n.toNat).length=n.toNat:=by simp [cQ]
  have hle:=List.countP_le_length (p:=fun y=>decide (y∈cQ n.toNat)) (l:=l.eraseIdx i)
  rw [List.length_eraseIdx_of_lt (by omega)] at hle
  omega
 rcases Nat.lt_trichotomy i j with h|h|h
 ·exact (key i j h hj e).elim
 ·exact h
 ·exact (key j i h hi e.symm).elim
theorem zL {l:List Int} {n:Int} (h:kY l n=true) {p:Nat} :∀ {k:Nat},p<k→k≤l.length→(y4 n.toNat l k).getD (l.getD p 0).toNat 0=p
 |0,hp,_=>by omega
 |k+1,hp,hk=>by
  have hlo:=sq h
  have hp1:=hlo _ (jr (l:=l) (m:=p) (by omega))
  have Ai:=hlo _ (jr (l:=l) (m:=k) (by omega))
  simp only [y4,List.getD_eq_getElem?_getD (l:=(y4 n.toNat l k).set _ _),List.getElem?_set,atK_length]
  by_cases hpk:p=k
  ·subst hpk
   rw [if_pos rfl,if_pos (by omega)];rfl
  ·have hne:¬(l.getD k 0).toNat=(l.getD p 0).toNat:=fun e=>hpk (jZ h (i:=p) (j:=k) (by omega) (by omega) (by omega))
   rw [if_neg hne, ← List.getD_eq_getElem?_getD]
   exact zL h (by omega) (by omega)
theorem B6 {g:Gr} (hm:aK g=true) (h:AO g=true):vV g (aR g)=true:=by
 have he:=AQ hm h
 obtain ⟨hP,hO,_⟩:=fF hm
 have hall:=(cn.1 he).2
 simp only [vV,he,Bool.true_and,Ek,List.all_eq_true,List.mem_range,decide_eq_true_eq]
 intro i hi
 have hh:=bn hm hi
 obtain ⟨p,hp,e⟩:=List.getElem_of_mem (hall (hd g i) (cC.2 (by omega)))
 have e':(aR g).getD p 0=hd g i:=by rw [List.getD_eq_getElem?_getD,List.getElem?_eq_getElem hp];exact e
 have ht:=hO p hp i hi e'.symm
 rw [List.mem_iff_getElem?] at ht
 obtain ⟨q,hq⟩:=ht
 rw [List.getElem?_take] at hq
 split at hq
 ·rename_i P8
  have e2:(aR g).getD q 0=tl g i:=by rw [List.getD_eq_getElem?_getD,hq];rfl
  rw [← e', ← e2,zL he hp (Nat.le_refl _),zL he (by omega) (Nat.le_refl _)]
  omega
 ·cases hq
end Go.Ab
end
section
namespace Go.Ab
open Go.Proofs
attribute [local congr] ACall.congr gd.congr Nx.congr
set_option maxRecDepth 10000
end Go.Ab
end
section
namespace Go.Ab
open Go.Proofs
attribute [local congr] ACall.congr gd.congr Nx.congr
set_option maxRecDepth 10000
def gz:Gr:=⟨0, []⟩
def vz:D:= .pt [.sc (.int .i64 0), .sl 2 [], .sl 1 [], .sl 1 []]
def bp (f:Edge→Int) (g:Gr) (x:Int):List Int:=if 0≤x∧x<g.n then aL f g.es g.es.length x else []
theorem sx (f:Edge→Int) (g:Gr) (hm:aK g=true) (x:Int):Spec Tryz.prog 98 (Args [.d (vw g), .d (.sl 1 (F7 f g)),eN x]) [] (.d (sI (bp f g x))) []:=by
 rw [aq]
 have hn:=aH hm
 have hl':(aL f g.es g.es.length x).length≤1000000:=by have:=jq (f:=f) (es:=g.es) (k:=g.es.length) (x:=x);omega
 (refine Spec.hd (C:=T.cfg [] []) (rs:= [.t 6]) (T.ah _ _) Tryz.func98 rfl rfl Tryz.ntmps98 Tryz.results98 (by simp [AObj.isNest]) (by simp [AObj.isNest]) (by kernel_rfl) T.mixed fun X hX hP hC aP ck=> ?_)
 by_cases hx:0≤x∧x<g.n
 ·have hv:=nt (f:=f) (g:=g) (x:=x.toNat) (by omega)
  have he:eC f g.es g.es.length x.toNat=aL f g.es g.es.length x:=by rw [nE,show ((x.toNat:Nat):Int)=x from by omega]
  rw [he] at hv
  have hb1:decide (x<0)=false:=decide_eq_false (by omega)
  have hb2:decide (g.n≤x)=false:=decide_eq_false (by omega)
  have ht:bp f g x=aL f g.es g.es.length x:=if_pos hx
  repeat' (first|refine Rn.p ?_|(with_reducible apply And.intro)|((first|(refine hK _ ?_;clear hK K)|with_reducible intro K hK|refine Rs.p ?_|((with_reducible first|apply oP|apply oQ);exact rfl)|refine aa hX hC hP (iI (aL f g.es g.es.length x) hl') rfl rfl rfl (by simp only [go_sem,simprocAttr,hv,hb1,hb2]) rfl ?_);try simp only [go_sem,simprocAttr,hv,hb1,hb2])|((with_reducible refine oD ?_ ?_);kernel_rfl)|((with_reducible intro h);try simp only [go_sem,simprocAttr,hv,hb1,hb2] at h)|omega|intro h)
  simp [ht]
 ·have ht:bp f g x= []:=if_neg hx
  repeat' (first|refine Rn.p ?_|(with_reducible apply And.intro)|((first|(refine hK _ ?_;clear hK K)|with_reducible intro K hK|refine Rs.p ?_|((with_reducible first|apply oP|apply oQ);exact rfl)|refine aa hX hC hP (iI (aL f g.es g.es.length x) hl') rfl rfl rfl (by simp only [go_sem,simprocAttr,ht]) rfl ?_);try simp only [go_sem,simprocAttr,ht])|((with_reducible refine oD ?_ ?_);kernel_rfl)|((with_reducible intro h);try simp only [go_sem,simprocAttr,ht] at h)|omega|intro h)
theorem gN (g:Gr) (hm:aK g=true) (x:Int):Spec Tryz.prog 45 (Args [.d (vw g),eN x]) [] (.d (sI (bp (·.1) g x))) []:=by
 (refine Spec.hd (C:=T.cfg [] []) (rs:= [.t 4]) (T.ah _ _) Tryz.func45 rfl rfl Tryz.ntmps45 Tryz.results45 (by simp [AObj.isNest]) (by simp [AObj.isNest]) (by kernel_rfl) T.mixed fun X hX hP hC aP ck=> ?_)
 repeat' (first|refine Rn.p ?_|(with_reducible apply And.intro)|((first|(refine hK _ ?_;clear hK K)|with_reducible intro K hK|refine Rs.p ?_|((with_reducible first|apply oP|apply oQ);exact rfl)|refine aa hX hC hP (sx (·.1) g hm x) rfl rfl rfl (by simp only [go_sem,simprocAttr,aq]) rfl ?_);try simp only [go_sem,simprocAttr,aq])|((with_reducible refine oD ?_ ?_);kernel_rfl)|((with_reducible intro h);try simp only [go_sem,simprocAttr,aq] at h)|omega|intro h)
theorem js (g:Gr) (hm:aK g=true) (x:Int):Spec Tryz.prog 172 (Args [.d (vw g),eN x]) [] (.d (sI (bp (·.2) g x))) []:=by
 (refine Spec.hd (C:=T.cfg [] []) (rs:= [.t 4]) (T.ah _ _) Tryz.func172 rfl rfl Tryz.ntmps172 Tryz.results172 (by simp [AObj.isNest]) (by simp [AObj.isNest]) (by kernel_rfl) T.mixed fun X hX hP hC aP ck=> ?_)
 repeat' (first|refine Rn.p ?_|(with_reducible apply And.intro)|((first|(refine hK _ ?_;clear hK K)|with_reducible intro K hK|refine Rs.p ?_|((with_reducible first|apply oP|apply oQ);exact rfl)|refine aa hX hC hP (sx (·.2) g hm x) rfl rfl rfl (by simp only [go_sem,simprocAttr,aq]) rfl ?_);try simp only [go_sem,simprocAttr,aq])|((with_reducible refine oD ?_ ?_);kernel_rfl)|((with_reducible intro h);try simp only [go_sem,simprocAttr,aq] at h)|omega|intro h)
end Go.Ab
end
section
namespace Go.Ab
open Go.Proofs
attribute [local congr] ACall.congr gd.congr Nx.congr
set_option maxRecDepth 10000
abbrev It:=Int × Int × Int
def rT (t:It):List D:= [.sc (.int .i64 t.1), .sc (.int .i64 t.2.1), .sc (.int .i64 t.2.2)]
def eT (t:It):AV:= .agg [.d (.sc (.int .i64 t.1)), .d (.sc (.int .i64 t.2.1)), .d (.sc (.int .i64 t.2.2))]
def sT (ts:List It):D:= .sl 3 (ts.map rT)
theorem getD_rT (ps:List It) (i:Nat):(ps.map rT).getD i [.sc (.int .i64 0), .sc (.int .i64 0), .sc (.int .i64 0)]=rT (ps.getD i (0,0,0)):=by
 simp only [List.getD_eq_getElem?_getD,List.getElem?_map]
 cases ps[i]? <;>rfl
theorem rT_eq (t:It):rT t= [.sc (.int .i64 t.1), .sc (.int .i64 t.2.1), .sc (.int .i64 t.2.2)]:=rfl
attribute [go_sem] getD_rT rT_eq eT sT
theorem sy {l:List Int} :∀r∈l.map rI,∀x∈r,∃v,x=D.sc v:=by
 intro r hr x hx
 obtain ⟨y,_,rfl⟩:=List.mem_map.1 hr
 simp only [rI,List.mem_singleton] at hx
 exact ⟨_,hx⟩
theorem sC {l:List It} :∀r∈l.map rT,∀x∈r,∃v,x=D.sc v:=by
 intro r hr x hx
 obtain ⟨y,_,rfl⟩:=List.mem_map.1 hr
 simp only [rT,List.mem_cons,List.not_mem_nil,or_false] at hx
 rcases hx with h|h|h<;>exact ⟨_,h⟩
theorem aS {α:Type} {l:List α} {m:Nat} {d:α} (h:m<l.length):l.getD m d∈l:=by
 rw [List.getD_eq_getElem?_getD,List.getElem?_eq_getElem h];exact List.getElem_mem h
theorem pG (ps:List It) (hl:ps.length≤1000000):
 Spec Tryz.prog 127 (Args [.d (sT ps)]) [] (.ref 10000) [(10000, .tip 100 3 (ps.map rT))]:=by
 (refine Spec.rH (C:=T.cfg [] []) (rs:= [.t 2]) [(10000,7)] (T.ah _ _) Tryz.func127 rfl rfl Tryz.ntmps127 Tryz.results127 (by simp [AObj.isNest]) (by simp [AObj.isNest]) (by first|(simp [look];done)|(simp [asN];done)|(intro l hl;simp only [asN];repeat (rw [if_neg (fun e=>by subst e;simp [look] at hl)]))) (by first|(simp [look];done)|(simp [asN];done)|(intro l hl;simp only [asN];repeat (rw [if_neg (fun e=>by subst e;simp [look] at hl)]))) (by kernel_rfl) T.mixed fun X hX hP hC aP ck=> ?_)
 repeat' (first|(show cj _ .ret _ _;(try simp only [go_sem,simprocAttr]);refine c8 hX 2 7 (.tip 100 3 []) ?_ ?_ (by decide) ⟨100,3,by decide, .inr rfl⟩ ?_;(iterate 2 (focus (simp only [go_sem,simprocAttr];done)));simp only [go_sem,simprocAttr])|refine Rn.p ?_|(with_reducible apply And.intro)|((first|(refine hK _ ?_;clear hK K)|with_reducible intro K hK|refine Rs.p ?_|((with_reducible first|apply oP|apply oQ);exact rfl));try simp only [go_sem,simprocAttr])|((with_reducible refine oD ?_ ?_);kernel_rfl)|((with_reducible intro h);try simp only [go_sem,simprocAttr] at h)|omega|intro h)
 exact h.symm
theorem vX (ps:List Int) (hl:ps.length≤1000000):
 Spec Tryz.prog 71 (Args [.d (sI ps)]) [] (.ref 10000) [(10000, .tip 3 1 (ps.map rI))]:=by
 (refine Spec.rH (C:=T.cfg [] []) (rs:= [.t 2]) [(10000,7)] (T.ah _ _) Tryz.func71 rfl rfl Tryz.ntmps71 Tryz.results71 (by simp [AObj.isNest]) (by simp [AObj.isNest]) (by first|(simp [look];done)|(simp [asN];done)|(intro l hl;simp only [asN];repeat (rw [if_neg (fun e=>by subst e;simp [look] at hl)]))) (by first|(simp [look];done)|(simp [asN];done)|(intro l hl;simp only [asN];repeat (rw [if_neg (fun e=>by subst e;simp [look] at hl)]))) (by kernel_rfl) T.mixed fun X hX hP hC aP ck=> ?_)
 repeat' (first|(show cj _ .ret _ _;(try simp only [go_sem,simprocAttr]);refine c8 hX 2 7 (.tip 3 1 []) ?_ ?_ (by decide) ⟨3,1,by decide, .inr rfl⟩ ?_;(iterate 2 (focus (simp only [go_sem,simprocAttr];done)));simp only [go_sem,simprocAttr])|refine Rn.p ?_|(with_reducible apply And.intro)|((first|(refine hK _ ?_;clear hK K)|with_reducible intro K hK|refine Rs.p ?_|((with_reducible first|apply oP|apply oQ);exact rfl));try simp only [go_sem,simprocAttr])|((with_reducible refine oD ?_ ?_);kernel_rfl)|((with_reducible intro h);try simp only [go_sem,simprocAttr] at h)|omega|intro h)
 exact h.symm
theorem ki {m:List (Nat × AObj)} (hR:bz m) (f:Nat) (caps:List AV) (g:It→Bool) (ps:List It) (hf:∀p∈ps,Spec Tryz.prog f (Args (eT p::caps)) m (eB (g p)) m) (hl:ps.length≤9223372036854775807):
 Spec Tryz.prog 212 (Args [.d (sT ps), .fn f [] caps]) m (eN (bL g ps)) m:=by
 (refine Spec.hd (C:=T.cfg [] []) (rs:= [.t 4]) (T.ah _ _) Tryz.func212 rfl rfl Tryz.ntmps212 Tryz.results212 (fun p hp=>⟨(bz.low hR p hp).1,bz.nest hR p hp⟩) (fun p hp=>⟨(bz.low hR p hp).2,bz.nest hR p hp⟩) (by kernel_rfl) T.mixed fun X hX hP hC aP ck=> ?_)
 repeat' (first|refine Rn.p ?_|(with_reducible apply And.intro)|((first|(refine hK _ ?_;clear hK K)|with_reducible intro K hK|refine Rs.p ?_|((with_reducible first|apply oP|apply oQ);exact rfl));try simp only [go_sem,simprocAttr])|((with_reducible refine oD ?_ ?_);kernel_rfl)|((with_reducible intro h);try simp only [go_sem,simprocAttr] at h)|omega|intro h)
 refine an (fun k:Nat=>k≤ps.length∧∀j,j<k→g (ps.getD j (0,0,0))=false) (fun k=>⟨[(0, .d (sT ps)),(1, .fn f [] caps),(7,eN ps.length),(8,eN k)],m⟩) (fun k=>ps.length - k) 0 (by simp) ?_ ?_
 ·(refine ⟨c9 ?_,fun _ _ h=>h⟩;simp [go_sem,simprocAttr])
 rintro k ⟨hk,hg⟩
 rcases Nat.lt_or_ge k ps.length with hlt|hge
 ·have hb:decide ((k:Int)<(ps.length:Int))=true:=decide_eq_true (by omega)
  have hf':=hf (ps.getD k (0,0,0)) (aS hlt)
  repeat' (first|refine Rn.p ?_|(with_reducible apply And.intro)|((first|(refine hK _ ?_;clear hK K)|with_reducible intro K hK|refine Rs.p ?_|((with_reducible first|apply oP|apply oQ);exact rfl)|(first|(refine bf hX hC hP hR (hf') rfl rfl rfl ?_ ?_ rfl rfl ?_;(focus (simp only [go_sem,simprocAttr,hb];done));(focus (first|(intro p hp;exact aN (bz.nd hR) hp)|(simp [go_sem,simprocAttr,hb];done))))|(refine bf hX hC hP hR (hf') rfl rfl rfl ?_ ?_ ?_ rfl ?_;(focus (simp only [go_sem,simprocAttr,hb];done));(focus (first|(intro p hp;exact aN (bz.nd hR) hp)|(simp [go_sem,simprocAttr,hb];done)));(focus (simp [go_sem,simprocAttr,hb];done)))));try simp only [go_sem,simprocAttr,hb])|((with_reducible refine oD ?_ ?_);kernel_rfl)|((with_reducible intro h);try simp only [go_sem,simprocAttr,hb] at h)|omega|intro h)
  ·exact (eX (by omega) hg h).symm
  ·exact eY hR
  ·refine ⟨k+1,⟨by omega,fun j hj=> ?_⟩, ?_,by omega⟩
   ·by_cases hjk:j=k
    ·subst hjk;exact h
    ·exact hg j (by omega)
   ·(refine ⟨c9 ?_,fun _ _ h=>h⟩;simp [go_sem,simprocAttr,hb])
 ·have hb:decide ((k:Int)<(ps.length:Int))=false:=decide_eq_false (by omega)
  repeat' (first|refine Rn.p ?_|(with_reducible apply And.intro)|((first|(refine hK _ ?_;clear hK K)|with_reducible intro K hK|refine Rs.p ?_|((with_reducible first|apply oP|apply oQ);exact rfl)|(first|(refine bf hX hC hP hR (hf') rfl rfl rfl ?_ ?_ rfl rfl ?_;(focus (simp only [go_sem,simprocAttr,hb];done));(focus (first|(intro p hp;exact aN (bz.nd hR) hp)|(simp [go_sem,simprocAttr,hb];done))))|(refine bf hX hC hP hR (hf') rfl rfl rfl ?_ ?_ ?_ rfl ?_;(focus (simp only [go_sem,simprocAttr,hb];done));(focus (first|(intro p hp;exact aN (bz.nd hR) hp)|(simp [go_sem,simprocAttr,hb];done)));(focus (simp [go_sem,simprocAttr,hb];done)))));try simp only [go_sem,simprocAttr,hb])|((with_reducible refine oD ?_ ?_);kernel_rfl)|((with_reducible intro h);try simp only [go_sem,simprocAttr,hb] at h)|omega|intro h)
  ·exact (dX (0,0,0) fun j hj=>hg j (by omega)).symm
  ·exact eY hR
theorem mD {m:List (Nat × AObj)} (hR:bz m) (f:Nat) (caps:List AV) (g:It→Bool) (ps:List It) (hf:∀p∈ps,Spec Tryz.prog f (Args (eT p::caps)) m (eB (g p)) m) (hl:ps.length≤9223372036854775807):
 Spec Tryz.prog 197 (Args [.d (sT ps), .fn f [] caps]) m (eB (ps.any g)) m:=by
 (refine Spec.hd (C:=T.cfg [] []) (rs:= [.t 4]) (T.ah _ _) Tryz.func197 rfl rfl Tryz.ntmps197 Tryz.results197 (fun p hp=>⟨(bz.low hR p hp).1,bz.nest hR p hp⟩) (fun p hp=>⟨(bz.low hR p hp).2,bz.nest hR p hp⟩) (by kernel_rfl) T.mixed fun X hX hP hC aP ck=> ?_)
 repeat' (first|refine Rn.p ?_|(with_reducible apply And.intro)|((first|(refine hK _ ?_;clear hK K)|with_reducible intro K hK|refine Rs.p ?_|((with_reducible first|apply oP|apply oQ);exact rfl)|(first|(refine bf hX hC hP hR (ki hR f caps g ps hf hl) rfl rfl rfl ?_ ?_ rfl rfl ?_;(focus (simp only [go_sem,simprocAttr];done));(focus (first|(intro p hp;exact aN (bz.nd hR) hp)|(simp [go_sem,simprocAttr];done))))|(refine bf hX hC hP hR (ki hR f caps g ps hf hl) rfl rfl rfl ?_ ?_ ?_ rfl ?_;(focus (simp only [go_sem,simprocAttr];done));(focus (first|(intro p hp;exact aN (bz.nd hR) hp)|(simp [go_sem,simprocAttr];done)));(focus (simp [go_sem,simprocAttr];done)))));try simp only [go_sem,simprocAttr])|((with_reducible refine oD ?_ ?_);kernel_rfl)|((with_reducible intro h);try simp only [go_sem,simprocAttr] at h)|omega|intro h)
 ·exact ew g ps
 ·exact eY hR
theorem ij (n:Int) (h0:0<n) (hl:n≤1000000):Spec Tryz.prog 199 (Args [.nil 100,eN n]) [] (.ref 10000) [(10000, .own 100 3 [])]:=by
 (refine Spec.rH (C:=T.cfg [] []) (rs:= [.t 4]) [(10000,25)] (T.ah _ _) Tryz.func199 rfl rfl Tryz.ntmps199 Tryz.results199 (by simp [AObj.isNest]) (by simp [AObj.isNest]) (by first|(simp [look];done)|(simp [asN];done)|(intro l hl;simp only [asN];repeat (rw [if_neg (fun e=>by subst e;simp [look] at hl)]))) (by first|(simp [look];done)|(simp [asN];done)|(intro l hl;simp only [asN];repeat (rw [if_neg (fun e=>by subst e;simp [look] at hl)]))) (by kernel_rfl) T.mixed fun X hX hP hC aP ck=> ?_)
 repeat' (first|refine Rn.p ?_|(with_reducible apply And.intro)|((first|(refine hK _ ?_;clear hK K)|with_reducible intro K hK|refine Rs.p ?_|((with_reducible first|apply oP|apply oQ);exact rfl));try simp only [go_sem,simprocAttr])|((with_reducible refine oD ?_ ?_);kernel_rfl)|((with_reducible intro h);try simp only [go_sem,simprocAttr] at h)|omega|intro h)
def vT (ls:List (List It)):List (List D):=ls.map fun l=> [sT l]
theorem vT_length {ls:List (List It)} :(vT ls).length=ls.length:=by simp [vT]
theorem qu {ls:List (List It)} {k:Nat} (h:k<ls.length) (d:List D):(vT ls).getD k d= [sT (ls.getD k [])]:=by
 simp [vT,List.getD_eq_getElem?_getD,List.getElem?_eq_getElem h]
attribute [go_sem] vT_length
theorem sD {α:Type} {ls:List (List α)} {k:Nat} (h:k<ls.length):(ls.take (k+1)).flatten=(ls.take k).flatten++ls.getD k []:=by
 rw [List.take_add_one,List.flatten_append,List.getElem?_eq_getElem h,List.getD_eq_getElem?_getD,List.getElem?_eq_getElem h]
 simp
theorem nH {α:Type} {ls:List (List α)} {k:Nat} :(ls.take k).flatten.length≤ls.flatten.length:=by
 have:=congrArg (fun x=>x.flatten.length) (List.take_append_drop k ls)
 simp only [List.flatten_append,List.length_append] at this
 omega
theorem vY (ls:List (List It)) (hn:ls.length≤1000) (h0:0<ls.flatten.length) (hl:ls.flatten.length≤1000000):Spec Tryz.prog 174 (Args [.d (.sl 1 (vT ls))]) [] (.d (sT ls.flatten)) []:=by
 (refine Spec.hd (C:=T.cfg [] []) (rs:= [.t 2]) (T.ah _ _) Tryz.func174 rfl rfl Tryz.ntmps174 Tryz.results174 (by simp [AObj.isNest]) (by simp [AObj.isNest]) (by kernel_rfl) T.mixed fun X hX hP hC aP ck=> ?_)
 repeat' (first|refine Rn.p ?_|(with_reducible apply And.intro)|((first|(refine hK _ ?_;clear hK K)|with_reducible intro K hK|refine Rs.p ?_|((with_reducible first|apply oP|apply oQ);exact rfl)|(refine aj hX hC hP [(10000,33)] (ij (ls.flatten.length:Int) (by omega) (by omega)) rfl rfl rfl ?_ ?_ ?_ ?_ ?_ ?_ ?_ ?_ ?_ ?_ ?_ ?_ ?_ ?_;(focus (simp only [go_sem,simprocAttr];done));(iterate 12 (focus (simp [go_sem,simprocAttr];done)));try simp only [List.map_cons,List.map_nil]));try simp only [go_sem,simprocAttr])|((with_reducible refine oD ?_ ?_);kernel_rfl)|((with_reducible intro h);try simp only [go_sem,simprocAttr] at h)|omega|intro h)
 refine an (fun k:Nat=>k≤ls.length) (fun k=>⟨[(0, .d (.sl 1 (vT ls))),(9, .d (.sl 1 (vT ls))),(10,eN ls.length),(11,eN k),(3,eN ((ls.take k).flatten.length))], []⟩) (fun k=>ls.length - k) 0 (by omega) ?_ ?_
 ·(refine Le.of ?_ ?_<;>simp [go_sem,simprocAttr])
 ·rintro k hk
  rcases Nat.lt_or_ge k ls.length with hlt|hge
  ·have hb:decide ((k:Int)<(ls.length:Int))=true:=decide_eq_true (by omega)
   have hv:=qu hlt
   have hf:=sD hlt
   have Lq:=nH (ls:=ls) (k:=k)
   have H9:=nH (ls:=ls) (k:=k+1)
   rw [hf,List.length_append] at H9
   have hneg:decide (((ls.take k).flatten.length:Int)+((ls.getD k []).length:Int)<0)=false:=decide_eq_false (by omega)
   repeat' (first|refine Rn.p ?_|(with_reducible apply And.intro)|((first|(refine hK _ ?_;clear hK K)|with_reducible intro K hK|refine Rs.p ?_|((with_reducible first|apply oP|apply oQ);exact rfl)|(refine aj hX hC hP [(10000,33)] (ij (ls.flatten.length:Int) (by omega) (by omega)) rfl rfl rfl ?_ ?_ ?_ ?_ ?_ ?_ ?_ ?_ ?_ ?_ ?_ ?_ ?_ ?_;(focus (simp only [go_sem,simprocAttr,hb,hv,hneg];done));(iterate 12 (focus (simp [go_sem,simprocAttr,hb,hv,hneg];done)));try simp only [List.map_cons,List.map_nil]));try simp only [go_sem,simprocAttr,hb,hv,hneg])|((with_reducible refine oD ?_ ?_);kernel_rfl)|((with_reducible intro h);try simp only [go_sem,simprocAttr,hb,hv,hneg] at h)|omega|intro h)
   refine ⟨k+1,by omega, ?_,by omega⟩
   simp only [hf]
   refine Le.of ?_ ?_<;>simp [go_sem,simprocAttr,hb,hv,hneg]
  ·have hb:decide ((k:Int)<(ls.length:Int))=false:=decide_eq_false (by omega)
   have ht:ls.take k=ls:=List.take_of_length_le (by omega)
   repeat' (first|refine Rn.p ?_|(with_reducible apply And.intro)|((first|(refine hK _ ?_;clear hK K)|with_reducible intro K hK|refine Rs.p ?_|((with_reducible first|apply oP|apply oQ);exact rfl)|(refine aj hX hC hP [(10000,33)] (ij (ls.flatten.length:Int) (by omega) (by omega)) rfl rfl rfl ?_ ?_ ?_ ?_ ?_ ?_ ?_ ?_ ?_ ?_ ?_ ?_ ?_ ?_;(focus (simp only [go_sem,simprocAttr,hb,ht];done));(iterate 12 (focus (simp [go_sem,simprocAttr,hb,ht];done)));try simp only [List.map_cons,List.map_nil]));try simp only [go_sem,simprocAttr,hb,ht])|((with_reducible refine oD ?_ ?_);kernel_rfl)|((with_reducible intro h);try simp only [go_sem,simprocAttr,hb,ht] at h)|omega|intro h)
   refine an (fun k:Nat=>k≤ls.length) (fun k=>⟨[(25, .d (.sl 1 (vT ls))),(26,eN ls.length),(27,eN k),(6, .ref 33)], [(33, .own 100 3 ((ls.take k).flatten.map rT))]⟩) (fun k=>ls.length - k) 0 (by omega) ?_ ?_
   ·(refine Le.of ?_ ?_<;>simp [go_sem,simprocAttr,hb,ht])
   ·clear hb ht hk hge
    rintro k hk
    rcases Nat.lt_or_ge k ls.length with hlt|hge
    ·have hb:decide ((k:Int)<(ls.length:Int))=true:=decide_eq_true (by omega)
     have hv:=qu hlt
     have hf:=sD hlt
     have Lq:=nH (ls:=ls) (k:=k)
     have H9:=nH (ls:=ls) (k:=k+1)
     rw [hf,List.length_append] at H9
     repeat' (first|refine Rn.p ?_|(with_reducible apply And.intro)|((first|(refine hK _ ?_;clear hK K)|with_reducible intro K hK|refine Rs.p ?_|((with_reducible first|apply oP|apply oQ);exact rfl)|(refine aj hX hC hP [(10000,33)] (ij (ls.flatten.length:Int) (by omega) (by omega)) rfl rfl rfl ?_ ?_ ?_ ?_ ?_ ?_ ?_ ?_ ?_ ?_ ?_ ?_ ?_ ?_;(focus (simp only [go_sem,simprocAttr,hb,hv];done));(iterate 12 (focus (simp [go_sem,simprocAttr,hb,hv];done)));try simp only [List.map_cons,List.map_nil]));try simp only [go_sem,simprocAttr,hb,hv])|((with_reducible refine oD ?_ ?_);kernel_rfl)|((with_reducible intro h);try simp only [go_sem,simprocAttr,hb,hv] at h)|omega|intro h)
     refine ⟨k+1,by omega, ?_,by omega⟩
     simp only [hf]
     refine Le.of ?_ ?_<;>simp [go_sem,simprocAttr,hb,hv]
    ·have hb:decide ((k:Int)<(ls.length:Int))=false:=decide_eq_false (by omega)
     have ht:ls.take k=ls:=List.take_of_length_le (by omega)
     repeat' (first|refine Rn.p ?_|(with_reducible apply And.intro)|((first|(refine hK _ ?_;clear hK K)|with_reducible intro K hK|refine Rs.p ?_|((with_reducible first|apply oP|apply oQ);exact rfl)|(refine aj hX hC hP [(10000,33)] (ij (ls.flatten.length:Int) (by omega) (by omega)) rfl rfl rfl ?_ ?_ ?_ ?_ ?_ ?_ ?_ ?_ ?_ ?_ ?_ ?_ ?_ ?_;(focus (simp only [go_sem,simprocAttr,hb,ht];done));(iterate 12 (focus (simp [go_sem,simprocAttr,hb,ht];done)));try simp only [List.map_cons,List.map_nil]));try simp only [go_sem,simprocAttr,hb,ht])|((with_reducible refine oD ?_ ?_);kernel_rfl)|((with_reducible intro h);try simp only [go_sem,simprocAttr,hb,ht] at h)|omega|intro h)
end Go.Ab
end
section
namespace Go.Ab
open Go.Proofs
attribute [local congr] ACall.congr gd.congr Nx.congr
set_option maxRecDepth 10000
set_option maxHeartbeats 1000000
structure Fr where
 row:List It
 pl:List Int
def fm (g:Gr) (f:Fr):D:= .pt [sT f.row,vw g,sI f.pl]
def eM (row:List It) (x:Int):Nat→Int × Int × Int
 |0=>(-1,0,0)
 |k+1=>if (row.getD k (0,0,0)).2.2=x then (if (eM row x k).1= -1 then (k:Int) else (eM row x k).1,(k:Int)+1,(eM row x k).2.2+1) else eM row x k
def bg (row:List It) (x:Int):Int × Int × Int:=eM row x row.length
theorem mE {row:List It} {x:Int} {k:Nat} :eM row x (k+1)=if (row.getD k (0,0,0)).2.2=x then (if (eM row x k).1= -1 then (k:Int) else (eM row x k).1,(k:Int)+1,(eM row x k).2.2+1) else eM row x k:=rfl
theorem dP {row:List It} {x:Int} :∀k:Nat,(eM row x k=(-1,0,0)∧∀j,j<k→(row.getD j (0,0,0)).2.2≠x)∨
 ∃a b c:Nat,eM row x k=((a:Int),(b:Int),(c:Int))∧a<b∧b≤k∧0<c∧c≤k∧(row.getD a (0,0,0)).2.2=x∧(row.getD (b - 1) (0,0,0)).2.2=x∧(∀j,j<a→(row.getD j (0,0,0)).2.2≠x)∧(∀j,b≤j→j<k→(row.getD j (0,0,0)).2.2≠x)
 |0=> .inl ⟨rfl,fun j hj=>by omega⟩
 |k+1=>by
  rw [mE]
  by_cases hx:(row.getD k (0,0,0)).2.2=x
  ·rw [if_pos hx]
   right
   rcases dP (row:=row) (x:=x) k with ⟨h1,h2⟩|⟨a,b,c,h1,h2,h3,h4,h5,h6,h7,h8,h9⟩
   ·refine ⟨k,k+1,1,by rw [h1];rfl,by omega,by omega,by omega,by omega,hx,hx,h2,fun j h1 h2=>by omega⟩
   ·refine ⟨a,k+1,c+1,by rw [h1];simp only [Prod.mk.injEq];exact ⟨by rw [if_neg (by omega)],by omega,by omega⟩,by omega,by omega,by omega,by omega,h6,hx,h8,fun j h1 h2=>by omega⟩
  ·rw [if_neg hx]
   rcases dP (row:=row) (x:=x) k with ⟨h1,h2⟩|⟨a,b,c,h1,h2,h3,h4,h5,h6,h7,h8,h9⟩
   ·refine .inl ⟨h1,fun j hj=> ?_⟩
    by_cases hjk:j=k
    ·subst hjk;exact hx
    ·exact h2 j (by omega)
   ·refine .inr ⟨a,b,c,h1,h2,by omega,h4,by omega,h6,h7,h8,fun j Oh Nf=> ?_⟩
    by_cases hjk:j=k
    ·subst hjk;exact hx
    ·exact h9 j Oh (by omega)
theorem dF (ds:List D) (row:List It) (x:Int) (hl:row.length≤1000000):Spec Tryz.prog 124 (Args [.d (.pt (sT row::ds)),eN x]) [] (.tup [eN (bg row x).1,eN (bg row x).2.1,eN (bg row x).2.2]) []:=by
 (refine Spec.hd (C:=T.cfg [] []) (rs:= [.t 4, .t 5, .t 6]) (T.ah _ _) Tryz.func124 rfl rfl Tryz.ntmps124 Tryz.results124 (by simp [AObj.isNest]) (by simp [AObj.isNest]) (by kernel_rfl) T.mixed fun X hX hP hC aP ck=> ?_)
 repeat' (first|refine Rn.p ?_|(with_reducible apply And.intro)|((first|(refine hK _ ?_;clear hK K)|with_reducible intro K hK|refine Rs.p ?_|((with_reducible first|apply oP|apply oQ);exact rfl));try simp only [go_sem,simprocAttr,bg])|((with_reducible refine oD ?_ ?_);kernel_rfl)|((with_reducible intro h);try simp only [go_sem,simprocAttr,bg] at h)|omega|intro h)
 refine an (fun k:Nat=>k≤row.length) (fun k=>⟨[(1,eN x),(12, .d (sT row)),(13,eN row.length),(14,eN k),(4,eN (eM row x k).1),(5,eN (eM row x k).2.1),(6,eN (eM row x k).2.2)], []⟩) (fun k=>row.length - k) 0 (by simp) ?_ ?_
 ·refine Le.of ?_ ?_<;>simp [go_sem,simprocAttr,bg,eM]
 rintro k hk
 rcases Nat.lt_or_ge k row.length with hlt|hge
 ·have hb:decide ((k:Int)<(row.length:Int))=true:=decide_eq_true (by omega)
  have hok:=dP (row:=row) (x:=x) k
  have hc: -1≤(eM row x k).2.2∧(eM row x k).2.2≤k:=by
   rcases hok with ⟨h1,_⟩|⟨a,b,c,h1,_,_,_,_,_⟩<;>rw [h1]<;>simp only<;>omega
  have dN:=mE (row:=row) (x:=x) (k:=k)
  repeat' (first|refine Rn.p ?_|(with_reducible apply And.intro)|((first|(refine hK _ ?_;clear hK K)|with_reducible intro K hK|refine Rs.p ?_|((with_reducible first|apply oP|apply oQ);exact rfl));try simp only [go_sem,simprocAttr,hb])|((with_reducible refine oD ?_ ?_);kernel_rfl)|((with_reducible intro h);try simp only [go_sem,simprocAttr,hb] at h)|omega|intro h)
  all_goals (first|rw [if_neg (by assumption)] at dN|(rw [if_pos (by assumption)] at dN;first|rw [if_pos (by assumption)] at dN|rw [if_neg (by assumption)] at dN))
  all_goals (refine ⟨k+1,by omega, ?_,by omega⟩;refine Le.of ?_ ?_<;>simp [go_sem,simprocAttr,hb,dN])
 ·have hb:decide ((k:Int)<(row.length:Int))=false:=decide_eq_false (by omega)
  obtain rfl:k=row.length:=by omega
  repeat' (first|refine Rn.p ?_|(with_reducible apply And.intro)|((first|(refine hK _ ?_;clear hK K)|with_reducible intro K hK|refine Rs.p ?_|((with_reducible first|apply oP|apply oQ);exact rfl));try simp only [go_sem,simprocAttr,hb,bg])|((with_reducible refine oD ?_ ?_);kernel_rfl)|((with_reducible intro h);try simp only [go_sem,simprocAttr,hb,bg] at h)|omega|intro h)
def j0 (x:Int) (t:It):Bool:=decide (t.2.2≠x)&&decide (t.2.2≠ -1)
def pH (row:List It) (x:Int) (a b:Nat):Bool:= !((row.take b).drop a).any (j0 x)
theorem B7 (x:Int):bz [(10000, .rob [eN x])]:=⟨by simp [AObj.ro],by simp [nodupM,look],by simp,by simp [AObj.ids,AV.ids,AV.idss,eN]⟩
theorem zM (x:Int) (t:It):Spec Tryz.prog 198 (Args [eT t, .ptr 10000 0]) [(10000, .rob [eN x])] (eB (j0 x t)) [(10000, .rob [eN x])]:=by
 (refine Spec.hd (C:=T.cfg [] []) (rs:= [.t 3]) (T.ah _ _) Tryz.func198 rfl rfl Tryz.ntmps198 Tryz.results198 (fun p hp=>⟨(bz.low (B7 x) p hp).1,bz.nest (B7 x) p hp⟩) (fun p hp=>⟨(bz.low (B7 x) p hp).2,bz.nest (B7 x) p hp⟩) (by kernel_rfl) T.mixed fun X hX hP hC aP ck=> ?_)
 repeat' (first|refine Rn.p ?_|(with_reducible apply And.intro)|((first|(refine hK _ ?_;clear hK K)|with_reducible intro K hK|refine Rs.p ?_|((with_reducible first|apply oP|apply oQ);exact rfl));try simp only [go_sem,simprocAttr])|((with_reducible refine oD ?_ ?_);kernel_rfl)|((with_reducible intro h);try simp only [go_sem,simprocAttr] at h)|omega|intro h)
 all_goals (simp only [j0];first|exact eY (B7 x)|simp [*])
theorem fG (ds:List D) (row:List It) (x:Int) (a b:Nat) (hab:a≤b) (hb:b≤row.length) (hl:row.length≤1000000):Spec Tryz.prog 173 (Args [.d (.pt (sT row::ds)),eN x,eN a,eN b]) [] (eB (pH row x a b)) []:=by
 have Fl:sT ((row.take b).drop a)= .sl 3 (((row.map rT).take b).drop a):=by simp [sT,List.map_take,List.map_drop]
 have je:((row.take b).drop a).length≤9223372036854775807:=by simp;omega
 (refine Spec.hd (C:=T.cfg [] []) (rs:= [.t 8]) (T.ah _ _) Tryz.func173 rfl rfl Tryz.ntmps173 Tryz.results173 (by simp [AObj.isNest]) (by simp [AObj.isNest]) (by kernel_rfl) T.mixed fun X hX hP hC aP ck=> ?_)
 repeat' (first|refine Rn.p ?_|(with_reducible apply And.intro)|((first|(refine hK _ ?_;clear hK K)|with_reducible intro K hK|refine Rs.p ?_|((with_reducible first|apply oP|apply oQ);exact rfl)|(refine bt hX hC hP [(10000,5)] (mD (B7 x) _ [.ptr 10000 0] (j0 x) ((row.take b).drop a) (fun t _=>zM x t) je) rfl rfl rfl ?_ ?_ ?_ ?_ ?_ ?_ rfl rfl ?_ ?_;(focus (simp only [go_sem,simprocAttr,List.map_take,List.map_drop];done));(iterate 6 (focus (simp [go_sem,simprocAttr,List.map_take,List.map_drop];done)));try simp only [List.map_cons,List.map_nil]));try simp only [go_sem,simprocAttr,List.map_take,List.map_drop])|((with_reducible refine oD ?_ ?_);kernel_rfl)|((with_reducible intro h);try simp only [go_sem,simprocAttr,List.map_take,List.map_drop] at h)|omega|intro h)
 rfl
end Go.Ab
end
section
namespace Go.Ab
open Go.Proofs
attribute [local congr] ACall.congr gd.congr Nx.congr
set_option maxRecDepth 10000
set_option maxHeartbeats 2000000
def ee (g:Gr) (f:Fr) (x:Int):Bool:=
 if x<0∨g.n≤x∨x∈f.pl then false else
 decide ((bg f.row x).2.2=((bp (·.2) g x).length:Int))&&(decide ((bp (·.2) g x).length=0)||pH f.row x (bg f.row x).1.toNat (bg f.row x).2.1.toNat)
theorem zN {f:Edge→Int} {g:Gr} {x:Int} :(bp f g x).length≤g.es.length:=by
 unfold bp
 split
 ·exact jq
 ·simp
theorem fH (g:Gr) (hm:aK g=true) (f:Fr) (x:Int) (hr:f.row.length≤1000000) (cT:f.pl.length≤1000000):Spec Tryz.prog 123 (Args [.d (fm g f),eN x]) [] (eB (ee g f x)) []:=by
 have hp:f.pl.length≤9223372036854775807:=by omega
 have hn:=aH hm
 unfold fm
 by_cases hx:x<0∨g.n≤x∨x∈f.pl
 ·have hR:ee g f x=false:=if_pos hx
  (refine Spec.hd (C:=T.cfg [] []) (rs:= [.t 4]) (T.ah _ _) Tryz.func123 rfl rfl Tryz.ntmps123 Tryz.results123 (by simp [AObj.isNest]) (by simp [AObj.isNest]) (by kernel_rfl) T.mixed fun X hX hP hC aP ck=> ?_)
  by_cases h1:x<0
  ·have hb1:decide (x<0)=true:=decide_eq_true h1
   repeat' (first|refine Rn.p ?_|(with_reducible apply And.intro)|((first|(refine hK _ ?_;clear hK K)|with_reducible intro K hK|refine Rs.p ?_|((with_reducible first|apply oP|apply oQ);exact rfl)|refine aa hX hC hP (js g hm x) rfl rfl rfl (by simp only [go_sem,simprocAttr,aq,hR,hb1]) rfl ?_|refine aa hX hC hP (aX f.pl x hp) rfl rfl rfl (by simp only [go_sem,simprocAttr,aq,hR,hb1]) rfl ?_|refine aa hX hC hP (dF [vw g,sI f.pl] f.row x hr) rfl rfl rfl (by simp only [go_sem,simprocAttr,aq,hR,hb1]) rfl ?_|refine aa hX hC hP (fG [vw g,sI f.pl] f.row x a b hab qf hr) rfl rfl rfl (by simp only [go_sem,simprocAttr,aq,hR,hb1]) rfl ?_);try simp only [go_sem,simprocAttr,aq,hR,hb1])|((with_reducible refine oD ?_ ?_);kernel_rfl)|((with_reducible intro h);try simp only [go_sem,simprocAttr,aq,hR,hb1] at h)|omega|intro h)
  have hb1:decide (x<0)=false:=decide_eq_false h1
  by_cases h2:g.n≤x
  ·have hb2:decide (g.n≤x)=true:=decide_eq_true h2
   repeat' (first|refine Rn.p ?_|(with_reducible apply And.intro)|((first|(refine hK _ ?_;clear hK K)|with_reducible intro K hK|refine Rs.p ?_|((with_reducible first|apply oP|apply oQ);exact rfl)|refine aa hX hC hP (js g hm x) rfl rfl rfl (by simp only [go_sem,simprocAttr,aq,hR,hb1,hb2]) rfl ?_|refine aa hX hC hP (aX f.pl x hp) rfl rfl rfl (by simp only [go_sem,simprocAttr,aq,hR,hb1,hb2]) rfl ?_|refine aa hX hC hP (dF [vw g,sI f.pl] f.row x hr) rfl rfl rfl (by simp only [go_sem,simprocAttr,aq,hR,hb1,hb2]) rfl ?_|refine aa hX hC hP (fG [vw g,sI f.pl] f.row x a b hab qf hr) rfl rfl rfl (by simp only [go_sem,simprocAttr,aq,hR,hb1,hb2]) rfl ?_);try simp only [go_sem,simprocAttr,aq,hR,hb1,hb2])|((with_reducible refine oD ?_ ?_);kernel_rfl)|((with_reducible intro h);try simp only [go_sem,simprocAttr,aq,hR,hb1,hb2] at h)|omega|intro h)
  have hb2:decide (g.n≤x)=false:=decide_eq_false h2
  have h3:x∈f.pl:=by rcases hx with h|h|h;exact absurd h h1;exact absurd h h2;exact h
  have hb3:decide (x∈f.pl)=true:=decide_eq_true h3
  repeat' (first|refine Rn.p ?_|(with_reducible apply And.intro)|((first|(refine hK _ ?_;clear hK K)|with_reducible intro K hK|refine Rs.p ?_|((with_reducible first|apply oP|apply oQ);exact rfl)|refine aa hX hC hP (js g hm x) rfl rfl rfl (by simp only [go_sem,simprocAttr,aq,hR,hb1,hb2,hb3]) rfl ?_|refine aa hX hC hP (aX f.pl x hp) rfl rfl rfl (by simp only [go_sem,simprocAttr,aq,hR,hb1,hb2,hb3]) rfl ?_|refine aa hX hC hP (dF [vw g,sI f.pl] f.row x hr) rfl rfl rfl (by simp only [go_sem,simprocAttr,aq,hR,hb1,hb2,hb3]) rfl ?_|refine aa hX hC hP (fG [vw g,sI f.pl] f.row x a b hab qf hr) rfl rfl rfl (by simp only [go_sem,simprocAttr,aq,hR,hb1,hb2,hb3]) rfl ?_);try simp only [go_sem,simprocAttr,aq,hR,hb1,hb2,hb3])|((with_reducible refine oD ?_ ?_);kernel_rfl)|((with_reducible intro h);try simp only [go_sem,simprocAttr,aq,hR,hb1,hb2,hb3] at h)|omega|intro h)
 ·have hb1:decide (x<0)=false:=decide_eq_false fun h=>hx (.inl h)
  have hb2:decide (g.n≤x)=false:=decide_eq_false fun h=>hx (.inr (.inl h))
  have hb3:decide (x∈f.pl)=false:=decide_eq_false fun h=>hx (.inr (.inr h))
  have hR:ee g f x=(decide ((bg f.row x).2.2=((bp (·.2) g x).length:Int))&&(decide ((bp (·.2) g x).length=0)||pH f.row x (bg f.row x).1.toNat (bg f.row x).2.1.toNat)):=if_neg hx
  by_cases h4:(bg f.row x).2.2=((bp (·.2) g x).length:Int)
  ·have hb4:decide ((bg f.row x).2.2=((bp (·.2) g x).length:Int))=true:=decide_eq_true h4
   by_cases h5:(bp (·.2) g x).length=0
   ·have B8:decide (((bp (·.2) g x).length:Int)=0)=true:=decide_eq_true (by omega)
    rw [hb4,decide_eq_true h5] at hR
    (refine Spec.hd (C:=T.cfg [] []) (rs:= [.t 4]) (T.ah _ _) Tryz.func123 rfl rfl Tryz.ntmps123 Tryz.results123 (by simp [AObj.isNest]) (by simp [AObj.isNest]) (by kernel_rfl) T.mixed fun X hX hP hC aP ck=> ?_)
    repeat' (first|refine Rn.p ?_|(with_reducible apply And.intro)|((first|(refine hK _ ?_;clear hK K)|with_reducible intro K hK|refine Rs.p ?_|((with_reducible first|apply oP|apply oQ);exact rfl)|refine aa hX hC hP (js g hm x) rfl rfl rfl (by simp only [go_sem,simprocAttr,aq,hR,hb1,hb2,hb3,hb4,B8]) rfl ?_|refine aa hX hC hP (aX f.pl x hp) rfl rfl rfl (by simp only [go_sem,simprocAttr,aq,hR,hb1,hb2,hb3,hb4,B8]) rfl ?_|refine aa hX hC hP (dF [vw g,sI f.pl] f.row x hr) rfl rfl rfl (by simp only [go_sem,simprocAttr,aq,hR,hb1,hb2,hb3,hb4,B8]) rfl ?_|refine aa hX hC hP (fG [vw g,sI f.pl] f.row x a b hab qf hr) rfl rfl rfl (by simp only [go_sem,simprocAttr,aq,hR,hb1,hb2,hb3,hb4,B8]) rfl ?_);try simp only [go_sem,simprocAttr,aq,hR,hb1,hb2,hb3,hb4,B8])|((with_reducible refine oD ?_ ?_);kernel_rfl)|((with_reducible intro h);try simp only [go_sem,simprocAttr,aq,hR,hb1,hb2,hb3,hb4,B8] at h)|omega|intro h)
   ·have B8:decide (((bp (·.2) g x).length:Int)=0)=false:=decide_eq_false (by omega)
    rcases dP (row:=f.row) (x:=x) f.row.length with ⟨h6,_⟩|⟨a,b,c,h6,hab,qf,_⟩
    ·exfalso
     have:(bg f.row x).2.2=0:=by unfold bg;rw [h6]
     omega
    ·have hsp:bg f.row x=((a:Int),(b:Int),(c:Int)):=h6
     have hab:a≤b:=by omega
     rw [hb4,decide_eq_false h5,hsp] at hR
     simp only [Bool.true_and,Bool.false_or,Int.toNat_natCast] at hR
     rw [hsp] at hb4
     (refine Spec.hd (C:=T.cfg [] []) (rs:= [.t 4]) (T.ah _ _) Tryz.func123 rfl rfl Tryz.ntmps123 Tryz.results123 (by simp [AObj.isNest]) (by simp [AObj.isNest]) (by kernel_rfl) T.mixed fun X hX hP hC aP ck=> ?_)
     repeat' (first|refine Rn.p ?_|(with_reducible apply And.intro)|((first|(refine hK _ ?_;clear hK K)|with_reducible intro K hK|refine Rs.p ?_|((with_reducible first|apply oP|apply oQ);exact rfl)|refine aa hX hC hP (js g hm x) rfl rfl rfl (by simp only [go_sem,simprocAttr,aq,hR,hb1,hb2,hb3,hb4,B8,hsp]) rfl ?_|refine aa hX hC hP (aX f.pl x hp) rfl rfl rfl (by simp only [go_sem,simprocAttr,aq,hR,hb1,hb2,hb3,hb4,B8,hsp]) rfl ?_|refine aa hX hC hP (dF [vw g,sI f.pl] f.row x hr) rfl rfl rfl (by simp only [go_sem,simprocAttr,aq,hR,hb1,hb2,hb3,hb4,B8,hsp]) rfl ?_|refine aa hX hC hP (fG [vw g,sI f.pl] f.row x a b hab qf hr) rfl rfl rfl (by simp only [go_sem,simprocAttr,aq,hR,hb1,hb2,hb3,hb4,B8,hsp]) rfl ?_);try simp only [go_sem,simprocAttr,aq,hR,hb1,hb2,hb3,hb4,B8,hsp])|((with_reducible refine oD ?_ ?_);kernel_rfl)|((with_reducible intro h);try simp only [go_sem,simprocAttr,aq,hR,hb1,hb2,hb3,hb4,B8,hsp] at h)|omega|intro h)
  ·have hb4:decide ((bg f.row x).2.2=((bp (·.2) g x).length:Int))=false:=decide_eq_false h4
   rw [hb4,Bool.false_and] at hR
   (refine Spec.hd (C:=T.cfg [] []) (rs:= [.t 4]) (T.ah _ _) Tryz.func123 rfl rfl Tryz.ntmps123 Tryz.results123 (by simp [AObj.isNest]) (by simp [AObj.isNest]) (by kernel_rfl) T.mixed fun X hX hP hC aP ck=> ?_)
   repeat' (first|refine Rn.p ?_|(with_reducible apply And.intro)|((first|(refine hK _ ?_;clear hK K)|with_reducible intro K hK|refine Rs.p ?_|((with_reducible first|apply oP|apply oQ);exact rfl)|refine aa hX hC hP (js g hm x) rfl rfl rfl (by simp only [go_sem,simprocAttr,aq,hR,hb1,hb2,hb3,hb4]) rfl ?_|refine aa hX hC hP (aX f.pl x hp) rfl rfl rfl (by simp only [go_sem,simprocAttr,aq,hR,hb1,hb2,hb3,hb4]) rfl ?_|refine aa hX hC hP (dF [vw g,sI f.pl] f.row x hr) rfl rfl rfl (by simp only [go_sem,simprocAttr,aq,hR,hb1,hb2,hb3,hb4]) rfl ?_|refine aa hX hC hP (fG [vw g,sI f.pl] f.row x a b hab qf hr) rfl rfl rfl (by simp only [go_sem,simprocAttr,aq,hR,hb1,hb2,hb3,hb4]) rfl ?_);try simp only [go_sem,simprocAttr,aq,hR,hb1,hb2,hb3,hb4])|((with_reducible refine oD ?_ ?_);kernel_rfl)|((with_reducible intro h);try simp only [go_sem,simprocAttr,aq,hR,hb1,hb2,hb3,hb4] at h)|omega|intro h)
theorem B9 (ds:List D) (row:List It) (hr:row.length≤1000000):Spec Tryz.prog 84 (Args [.d (.pt (sT row::ds))]) [] (.ref 10000) [(10000, .tip 100 3 (row.map rT))]:=by
 (refine Spec.rH (C:=T.cfg [] []) (rs:= [.t 2]) [(10000,7)] (T.ah _ _) Tryz.func84 rfl rfl Tryz.ntmps84 Tryz.results84 (by simp [AObj.isNest]) (by simp [AObj.isNest]) (by first|(simp [look];done)|(simp [asN];done)|(intro l hl;simp only [asN];repeat (rw [if_neg (fun e=>by subst e;simp [look] at hl)]))) (by first|(simp [look];done)|(simp [asN];done)|(intro l hl;simp only [asN];repeat (rw [if_neg (fun e=>by subst e;simp [look] at hl)]))) (by kernel_rfl) T.mixed fun X hX hP hC aP ck=> ?_)
 repeat' (first|refine Rn.p ?_|(with_reducible apply And.intro)|((first|(refine hK _ ?_;clear hK K)|with_reducible intro K hK|refine Rs.p ?_|((with_reducible first|apply oP|apply oQ);exact rfl)|(refine aj hX hC hP [(10000,7)] (pG row hr) rfl rfl rfl ?_ ?_ ?_ ?_ ?_ ?_ ?_ ?_ ?_ ?_ ?_ ?_ ?_ ?_;(focus (simp only [go_sem,simprocAttr];done));(iterate 12 (focus (simp [go_sem,simprocAttr];done)));try simp only [List.map_cons,List.map_nil]));try simp only [go_sem,simprocAttr])|((with_reducible refine oD ?_ ?_);kernel_rfl)|((with_reducible intro h);try simp only [go_sem,simprocAttr] at h)|omega|intro h)
end Go.Ab
end
