/- A part of the proof. -/
import Derived.WalkKit
import Derived.Deep.QuietTactic
import Derived.Tactics2
import Derived.LoopN
import Derived.LoopTactic
import Derived.Laws.IdiomRangeMap
import Derived.Test.YtchjjbfhlchpfaaGreatL8P14
set_option linter.unusedSimpArgs false
set_option linter.unusedVariables false
section
namespace Go.Ab
open Go.Proofs Go.RowKit
set_option maxRecDepth 10000
set_option maxHeartbeats 4000000
def KU:Value→Nat
 | .int _ k=>k.toNat
 |_=>0
def KW:Value→Int
 | .int _ v=>v
 |_=>0
def fh (T:Nat→Int) (x:Int) (e:Nat) (k:Nat) (v:Int):Bool:=decide (v=x)&&decide (k≠e)&&decide (T k=T e)
def jy {α:Type} (P:Program) (s:Sem α):Prop:=∀W v W',s.run P W= .ok v W'→W'.tape=W.tape
theorem jy.bind {α β:Type} {P:Program} {s:Sem α} {k:α→Sem β} (h:jy P s) (hk:∀a,jy P (k a)):jy P (s>>= k):=by
 intro W v W' e
 rw [Sem.run_bind] at e
 cases hs:s.run P W with
 |ok a W1=>
  rw [hs] at e
  exact (hk a W1 v W' e).trans (h W a W1 hs)
 |halt hh W1=>rw [hs] at e;cases e
theorem JW {α:Type} {P:Program} (a:α):jy P (pure a:Sem α):=by
 intro W v W' e
 cases e;rfl
theorem JX {α:Type} {P:Program} (h:Halt):jy P (.halt h:Sem α):=by
 intro W v W' e
 cases e
theorem LW {P:Program} (r:Nat):jy P (getObj r):=by
 intro W v W' e
 simp only [getObj,Sem.run] at e
 split at e
 ·cases e
 ·cases e;rfl
 ·cases e
theorem LX {P:Program} (r:Nat) (o:Obj):jy P (setObj r o):=by
 intro W v W' e
 simp only [setObj,Sem.run] at e
 split at e
 ·cases e
 ·cases e;rfl
 ·cases e
theorem EX {P:Program} (q:Question):jy P (choose q):=by
 intro W v W' e
 simp only [choose,Sem.run] at e
 split at e
 ·cases e;rfl
 ·cases e;rfl
theorem EY {P:Program} (it:Value) (b:Bool) (ty:TypeId):jy P (Instr.next it b ty):=by
 unfold Instr.next
 repeat' (first|exact JW _|exact JX _|exact LW _|exact LX _ _|exact EX _|(refine jy.bind ?_ fun _=> ?_)|split)
theorem Cx (B bm be ne ce:Nat) (es:Array MapEntry) (T:Nat→Int) (x:Int) (e:Nat) (w:World) (hB:B<w.heap.size) (rq:be<w.heap.size)
 (h1:w.cell? ⟨B,1,none⟩=some (.slice (some ⟨be,0,none⟩) ne ce)) (h4:w.cell? ⟨B,4,none⟩=some (.map (some bm)))
 (hb:w.heap[bm]? =some (.map es es.size)) (hT:∀i,i<ne→w.cell? ⟨be,i*2,none⟩=some (.int .i64 (T i))) (he:e<ne) (hne:ne≤1000)
 (hst:(∀y∈es.toList,y.born<es.size)∧(es.toList.map (·.born)).Nodup) (hE:∀y∈es.toList,∃(k:Nat) (v:Int),y.key= .int .i64 k∧y.val= .int .i64 v∧k<ne):
 Calls Tryz.prog 167 #[.pointer (some ⟨B,0,none⟩), .int .i64 x, .int .i64 e] w fun en w'=>en= .returned (.bool (es.toList.any fun y=>fh T x e (KU y.key) (KW y.val)))∧
  ∃(w1:World) (seen:Array Nat),(w1.Alike w∧w1.tape=w.tape)∧w'=w1.alloc (.mapIter (some bm) es.size seen es.size):=by
 have Rq:=run_range_map (P:=Tryz.prog) w 69 3 3 bm es es.size Tryz.underlying69 hb
 go_enter Tryz.func167,Tryz.ntmps167
 go_wp2
 go_loopw [] (fun w'=>∃(w1:World) (seen:Array Nat),(w1.Alike w∧w1.tape=w.tape)∧w'=w1.alloc (.mapIter (some bm) es.size seen es.size)∧∀y∈es.toList,seen.contains y.born=true→fh T x e (KU y.key) (KW y.val)=false) (fun w'=>(leftOf es (w'.iterSeen w.heap.size)).size)
 case atStart=>exact ⟨w, #[],⟨⟨rfl,rfl,rfl⟩,rfl⟩,rfl,fun y _ h=>by simp at h⟩
 case round=>
  obtain ⟨w1,seen,⟨xQ,PE⟩,rfl,hno⟩:=hrel
  have hsz:w1.heap.size=w.heap.size:=by rw [xQ.1]
  have hb1:w1.heap[bm]? =some (.map es es.size):=by rw [xQ.1];exact hb
  have law:=run_next_map (P:=Tryz.prog) w1 0 bm es.size es.size seen es es.size hb1 hst.1 (Nat.le_refl _)
  rw [hsz] at law
  rcases law with ⟨h0,hrun⟩|⟨y,hy,w2,Ho,hrun⟩
  ·have cE:∀ty,(Instr.next (.pointer (some ⟨w.heap.size,0,none⟩)) false ty).run Tryz.prog (w1.alloc (.mapIter (some bm) es.size seen es.size))=_:=fun _=>hrun
   go_wp2
   go_ret
   have hf:(es.toList.any fun y=>fh T x e (KU y.key) (KW y.val))=false:=by
    rw [List.any_eq_false]
    intro y hy
    rw [hno y hy (all_seen es seen h0 y hy)];decide
   rw [hf]
   exact ⟨rfl,w1,seen,⟨xQ,PE⟩,rfl⟩
  ·obtain ⟨k,v,hkey,hval,hk⟩:=hE y (mem_left hy).1
   rw [hkey,hval] at hrun
   have cE:∀ty,(Instr.next (.pointer (some ⟨w.heap.size,0,none⟩)) false ty).run Tryz.prog (w1.alloc (.mapIter (some bm) es.size seen es.size))=_:=fun _=>hrun
   have LY:w2.heap.size=w.heap.size:=by rw [Ho.1,xQ.1]
   have hb2:w2.heap[bm]? =some (.map es es.size):=by rw [Ho.1];exact hb1
   have Ua:=run_entry_map (P:=Tryz.prog) w2 bm es.size seen es es.size y hb2 (mem_left hy).1 hst.2
   rw [LY,hkey,hval] at Ua
   have JY:w2.tape=w.tape:=(EY _ _ _ _ _ _ hrun).trans PE
   have Hp:w2.Alike w:=⟨Ho.1.trans xQ.1,Ho.2.1.trans xQ.2.1,Ho.2.2.trans xQ.2.2⟩
   have hc:∀(o:Obj) (a:Addr),a.block<w.heap.size→(w2.alloc o).cell? a=w.cell? a:=fun o a ha=>by
    have:(w2.alloc o).heap[a.block]? =w.heap[a.block]? :=by rw [nV _ _ (by rw [LY];exact ha),Hp.1]
    simp only [World.cell?,this]
   have g1:∀s,(w2.alloc (.mapIter (some bm) es.size s es.size)).cell? ⟨B,1,none⟩=some (.slice (some ⟨be,0,none⟩) ne ce):=fun s=>(hc _ _ hB).trans h1
   have g2:∀s,(w2.alloc (.mapIter (some bm) es.size s es.size)).cell? ⟨be,k*2,none⟩=some (.int .i64 (T k)):=fun s=>(hc _ _ rq).trans (hT k hk)
   have g3:∀s,(w2.alloc (.mapIter (some bm) es.size s es.size)).cell? ⟨be,e*2,none⟩=some (.int .i64 (T e)):=fun s=>(hc _ _ rq).trans (hT e he)
   have Sy:fh T x e (KU y.key) (KW y.val)=fh T x e k v:=by rw [hkey,hval];simp [KU,KW]
   have Cy:fh T x e k v=false→∀z∈es.toList,(seen.push y.born).contains z.born=true→fh T x e (KU z.key) (KW z.val)=false:=fun hm z hz Sz=>by
    rw [contains_push] at Sz
    rcases Bool.or_eq_true _ _ ▸ Sz with h1|h1
    ·exact hno z hz h1
    ·have:z=y:=born_inj hst.2 hz (mem_left hy).1 (beq_iff_eq.1 h1)
     subst this
     rw [Sy];exact hm
   have hyes:fh T x e k v=true→(es.toList.any fun y=>fh T x e (KU y.key) (KW y.val))=true:=fun hm=>List.any_eq_true.2 ⟨y,(mem_left hy).1,by rw [Sy];exact hm⟩
   have hi2:∀n,((w2.alloc (.mapIter (some bm) es.size (seen.push y.born) es.size)).drewN n).iterSeen w.heap.size=seen.push y.born:=fun n=>by
    show (w2.alloc _).iterSeen _=_
    rw [← LY,World.iterSeen_alloc]
   have hi1:(w1.alloc (.mapIter (some bm) es.size seen es.size)).iterSeen w.heap.size=seen:=by rw [← hsz,World.iterSeen_alloc]
   clear hE hT hno hc h1 h4 hst
   by_cases c1:v=x
   ·by_cases c2:k=e
    ·have hm:fh T x e k v=false:=by simp [fh,c1,c2]
     subst c1 c2
     go_wp2
     go_quiet (fail)
     go_wp2
     go_roundw
     case rel=>exact ⟨w2.drewN nq,seen.push y.born,⟨Hp,JY⟩,rfl,Cy hm⟩
     case measure=>
      rw [hi2,hi1]
      exact left_shrinks es seen y hy
    ·have VL:¬((k:Int)=(e:Int)):=by omega
     by_cases c3:T k=T e
     ·have hm:fh T x e k v=true:=by simp [fh,c1,c2,c3]
      go_wp2
      go_quiet (fail)
      go_wp2
      go_ret
      rw [hyes hm]
      exact ⟨rfl,w2.drewN nq,_,⟨Hp,JY⟩,rfl⟩
     ·have hm:fh T x e k v=false:=by simp [fh,c3]
      have b3:(T k==T e)=false:=by simpa using c3
      go_wp2
      go_quiet (fail)
      go_wp2
      go_roundw
      case rel=>exact ⟨w2.drewN nq,seen.push y.born,⟨Hp,JY⟩,rfl,Cy hm⟩
      case measure=>
       rw [hi2,hi1]
       exact left_shrinks es seen y hy
   ·have hm:fh T x e k v=false:=by simp [fh,c1]
    have b1:(v==x)=false:=by simpa using c1
    clear c1
    go_wp2
    go_quiet (fail)
    go_wp2
    go_roundw
    case rel=>exact ⟨w2.drewN nq,seen.push y.born,⟨Hp,JY⟩,rfl,Cy hm⟩
    case measure=>
     rw [hi2,hi1]
     exact left_shrinks es seen y hy
end Go.Ab
end
section
namespace Go.Ab
set_option maxRecDepth 10000
structure PS where
 m:Nat
 src:Int
 LZ:Int
 tl:Int→Int
 hd:Int→Int
 ins:Int→List Int
 outs:Int→List Int
 MV:Int→Nat
 Row:Nat→List Int→List Int→Prop
 k0:Nat
def PS.E (P:PS) (e:Int):Prop:=0≤e∧e<P.m
structure PS.Ok (P:PS):Prop where
 bW:∀x e,e∈P.outs x↔P.E e∧P.tl e=x
 de:∀x e,e∈P.ins x↔P.E e∧P.hd e=x
 qk:∀x,(P.outs x).Nodup
 Cz:∀x,(P.ins x).Nodup
 zu:∀e,P.E e→P.MV (P.tl e)<P.MV (P.hd e)
 JZ:P.Row P.k0 (P.outs P.src) [P.src]
 mZ:∀ {k W D},P.Row k W D→W.Nodup
 dy:∀ {k W D},P.Row k W D→∀e,e∈W↔P.E e∧P.tl e∈D∧P.hd e∉D
 m9:∀ {k W D},P.Row (k+1) W D→∃x A C,W=A++P.ins x++C∧P.ins x≠ []
 row_step:∀ {k W D x A C},P.Row k W D→W=A++P.ins x++C→P.ins x≠ []→∃k',k=k'+1∧P.Row k' (A++P.outs x++C) (D++ [x])
 nW:∀ {W D},P.Row 0 W D→∀e,P.E e→P.hd e∈D
 ql:∀ {k W D},P.Row k W D→P.src∈D
 tZ:∀ {k W D},P.Row k W D→P.LZ∈D→k=0
 vp:P.ins P.src= []
 qm:∀x,P.ins x≠ []→(P.outs x= []↔x=P.LZ)
theorem rR {l:List Int} :l.reverse.Nodup↔l.Nodup:=(List.reverse_perm l).nodup_iff
def PS.A7 (P:PS):PS:= {P with ins:=fun x=>(P.ins x).reverse,outs:=fun x=>(P.outs x).reverse,Row:=fun k W D=>P.Row k W.reverse D}
theorem PS.Ok.A7 {P:PS} (h:P.Ok):P.A7.Ok:=
 {bW:=fun x e=>by show e∈(P.outs x).reverse↔_;rw [List.mem_reverse];exact h.bW x e
  de:=fun x e=>by show e∈(P.ins x).reverse↔_;rw [List.mem_reverse];exact h.de x e
  qk:=fun x=>by show (P.outs x).reverse.Nodup;exact rR.2 (h.qk x)
  Cz:=fun x=>by show (P.ins x).reverse.Nodup;exact rR.2 (h.Cz x)
  zu:=h.zu
  JZ:=by show P.Row _ (P.outs P.src).reverse.reverse _;rw [List.reverse_reverse];exact h.JZ
  mZ:=fun {k W D} hr=>rR.1 (h.mZ (show P.Row k W.reverse D from hr))
  dy:=fun {k W D} hr e=>by
   have:=h.dy (show P.Row k W.reverse D from hr) e
   rw [List.mem_reverse] at this
   exact this
  m9:=fun {k W D} hr=>by
   obtain ⟨x,A,C,h1,h2⟩:=h.m9 (show P.Row (k+1) W.reverse D from hr)
   refine ⟨x,C.reverse,A.reverse, ?_,fun h3=>h2 (List.reverse_eq_nil_iff.1 h3)⟩
   show W=C.reverse++(P.ins x).reverse++A.reverse
   rw [← List.reverse_reverse W,h1]
   simp
  row_step:=fun {k W D x A C} hr h1 h2=>by
   have h1:W=A++(P.ins x).reverse++C:=h1
   obtain ⟨k',h3,h4⟩:=h.row_step (x:=x) (A:=C.reverse) (C:=A.reverse) (show P.Row k W.reverse D from hr) (by rw [h1];simp) (fun h3=>h2 (List.reverse_eq_nil_iff.2 h3))
   refine ⟨k',h3, ?_⟩
   show P.Row k' (A++(P.outs x).reverse++C).reverse (D++ [x])
   have e:(A++(P.outs x).reverse++C).reverse=C.reverse++P.outs x++A.reverse:=by simp
   rw [e];exact h4
  nW:=fun {W D} hr=>h.nW (show P.Row 0 W.reverse D from hr)
  ql:=fun {k W D} hr=>h.ql (show P.Row k W.reverse D from hr)
  tZ:=fun {k W D} hr=>h.tZ (show P.Row k W.reverse D from hr)
  vp:=by show (P.ins P.src).reverse= [];rw [h.vp];rfl
  qm:=fun x hx=>by
   have h2:P.ins x≠ []:=fun h3=>hx (by show (P.ins x).reverse= [];rw [h3];rfl)
   show (P.outs x).reverse= []↔_
   rw [List.reverse_eq_nil_iff];exact h.qm x h2}
structure MS where
 A:List Int
 B:List Int
 D:List Int
def PS.next (P:PS) (s:MS):MS:=
 match s.B with
 | []=>s
 |e::B=>if P.ins (P.hd e)<:+s.A++ [e] then ⟨(s.A++ [e]).take (s.A.length+1 - (P.ins (P.hd e)).length),P.outs (P.hd e)++B,s.D++ [P.hd e]⟩ else ⟨s.A++ [e],B,s.D⟩
def PS.st (P:PS):Nat→MS
 |0=>⟨[],P.outs P.src, [P.src]⟩
 |j+1=>P.next (P.st j)
def PS.sh (P:PS) (j:Nat):Int:=(P.st j).B.headD 0
def PS.ru (P:PS) (j:Nat):List Int:=(List.range j).map P.sh
variable {P:PS}
theorem PS.vq {j:Nat} :P.ru (j+1)=P.ru j++ [P.sh j]:=by simp [PS.ru,List.range_succ]
theorem PS.ua {j:Nat} :(P.ru j).length=j:=by simp [PS.ru]
theorem PS.qn {j:Nat} {e:Int} :e∈P.ru j↔∃i,i<j∧P.sh i=e:=by simp [PS.ru]
structure PS.Inv (P:PS) (j:Nat) (s:MS):Prop where
 row:∃k,P.Row k (s.A++s.B) s.D
 no:∀h,P.ins h≠ []→¬P.ins h<:+:s.A
 nd:(P.ru j).Nodup
 sh:∀e,e∈P.ru j↔P.E e∧(e∈s.A∨P.hd e∈s.D)
 len:j≤P.m
theorem jf:∀ {l m:List Int},l.Nodup→(∀i∈l,i∈m)→l.length≤m.length
 | [],_,_,_=>Nat.zero_le _
 |a::l,m,hn,h=>by
  rw [List.nodup_cons] at hn
  have ha:=h a (List.mem_cons_self ..)
  have:=jf (m:=m.erase a) hn.2 fun i hi=>(List.mem_erase_of_ne (show i≠a from fun e=>hn.1 (by rw [← e];exact hi))).2 (h i (List.mem_cons_of_mem _ hi))
  rw [List.length_erase_of_mem ha] at this
  have:=List.length_pos_of_mem ha
  rw [List.length_cons];omega
theorem xR {l:List Int} {m:Nat} (hall:∀e:Int,0≤e→e<m→e∈l):m≤l.length:=by
 have:=jf (l:=(List.range m).map Int.ofNat) (m:=l) (List.pairwise_map.2 (List.nodup_range.imp fun hab e=>hab (Int.ofNat.inj e))) fun x hx=>by
  obtain ⟨a,ha,rfl⟩:=List.mem_map.1 hx
  have:=List.mem_range.1 ha
  exact hall _ (by simp) (by simp;omega)
 simpa using this
theorem A8 {X Y:List Int} (h:X<:+Y):Y=Y.take (Y.length - X.length)++X:=by
 obtain ⟨t,rfl⟩:=h
 simp
theorem PS.Inv.more (h:P.Ok) {j:Nat} {s:MS} (hi:P.Inv j s) (hj:j<P.m):∃e B,s.B=e::B:=by
 cases hB:s.B with
 |cons e B=>exact ⟨e,B,rfl⟩
 |nil=>
  exfalso
  obtain ⟨k,hr⟩:=hi.row
  rw [hB,List.append_nil] at hr
  cases k with
  |succ k=>
   obtain ⟨x,A,C,h1,h2⟩:=h.m9 hr
   exact hi.no x h2 ⟨A,C,h1.symm⟩
  |zero=>
   have hall:∀e,P.E e→e∈P.ru j:=fun e he=>(hi.sh e).2 ⟨he, .inr (h.nW hr e he)⟩
   have:=xR (fun e h1 h2=>hall e ⟨h1,h2⟩)
   rw [PS.ua] at this
   omega
theorem PS.EZ {s:MS} {e:Int} {B:List Int} (hB:s.B=e::B):P.next s=if P.ins (P.hd e)<:+s.A++ [e] then ⟨(s.A++ [e]).take (s.A.length+1 - (P.ins (P.hd e)).length),P.outs (P.hd e)++B,s.D++ [P.hd e]⟩ else ⟨s.A++ [e],B,s.D⟩:=by
 unfold PS.next;rw [hB]
theorem PS.vr (h:P.Ok) {s:MS} {k:Nat} {e:Int} {B:List Int} (hr:P.Row k (s.A++s.B) s.D) (hB:s.B=e::B):
 P.E e∧((∃A',s.A++ [e]=A'++P.ins (P.hd e)∧P.ins (P.hd e)≠ []∧P.next s=⟨A',P.outs (P.hd e)++B,s.D++ [P.hd e]⟩)∨(¬P.ins (P.hd e)<:+s.A++ [e]∧P.next s=⟨s.A++ [e],B,s.D⟩)):=by
 have he:P.E e:=((h.dy hr e).1 (by rw [hB];simp)).1
 refine ⟨he, ?_⟩
 rw [PS.EZ hB]
 by_cases hs:P.ins (P.hd e)<:+s.A++ [e]
 ·rw [if_pos hs]
  refine .inl ⟨_, ?_,fun h0=> ?_,rfl⟩
  ·have:=A8 hs
   simpa using this
  ·have:=(h.de (P.hd e) e).2 ⟨he,rfl⟩
   rw [h0] at this;cases this
 ·rw [if_neg hs];exact .inr ⟨hs,rfl⟩
theorem CA {X A:List Int} {e:Int} (h:X<:+:A++ [e]):X<:+:A∨X<:+A++ [e]:=by
 obtain ⟨s,t,ht⟩:=h
 rcases List.eq_nil_or_concat t with rfl|⟨t',a,rfl⟩
 ·rw [List.append_nil] at ht;exact .inr ⟨s,ht⟩
 ·left
  refine ⟨s,t', ?_⟩
  have:s++X++t'++ [a]=A++ [e]:=by rw [← ht];simp
  exact (List.append_inj' this rfl).1
theorem PS.inv (h:P.Ok):∀j,j≤P.m→P.Inv j (P.st j)
 |0,_=>⟨⟨_,h.JZ⟩,fun x hx hs=>hx (by
    have:P.ins x<:+: []:=hs
    simpa using this),by simp [PS.ru],fun e=>(by
     simp only [PS.ru,List.range_zero,List.map_nil,List.not_mem_nil,false_iff]
     rintro ⟨he,h1|h1⟩
     ·cases h1
     ·have h1:P.hd e∈ [P.src]:=h1
      have h2:P.hd e=P.src:=by simpa using h1
      have:=(h.de P.src e).2 ⟨he,h2⟩
      rw [h.vp] at this;cases this),Nat.zero_le _⟩
 |j+1,hj=>by
  have hi:=PS.inv h j (by omega)
  obtain ⟨e,B,hB⟩:=hi.more h (by omega)
  obtain ⟨k,hr⟩:=hi.row
  have hsh:P.sh j=e:=by unfold PS.sh;rw [hB];rfl
  have Ub:e∈(P.st j).A++(P.st j).B:=by rw [hB];simp
  have hm:=(h.dy hr e).1 Ub
  have bN:=h.mZ hr
  have PF:e∉(P.st j).A:=fun hA=>by
   rw [List.nodup_append] at bN
   exact bN.2.2 e hA e (by rw [hB];simp) rfl
  have hnew:e∉P.ru j:=fun h1=>by
   rcases ((hi.sh e).1 h1).2 with h2|h2
   ·exact PF h2
   ·exact hm.2.2 h2
  have fZ:(P.ru (j+1)).Nodup:=by
   rw [PS.vq,hsh,List.nodup_append]
   exact ⟨hi.nd,by simp,fun a ha b hb=>by
    rw [List.mem_singleton] at hb
    subst hb
    intro e2;exact hnew (e2 ▸ ha)⟩
  obtain ⟨he,hc⟩:=PS.vr h hr hB
  have hst:P.st (j+1)=P.next (P.st j):=rfl
  rw [hst]
  rcases hc with ⟨A',h1,h2,h3⟩|⟨h1,h3⟩
  ·rw [h3]
   have hrow:(P.st j).A++(P.st j).B=A'++P.ins (P.hd e)++B:=by rw [hB, ← h1];simp
   obtain ⟨k',rfl,hr'⟩:=h.row_step hr hrow h2
   refine ⟨⟨k',by simpa using hr'⟩,fun x hx hs=> ?_,fZ,fun f=> ?_,hj⟩
   ·have hs:P.ins x<:+:A':=hs
    have hA:¬P.ins x<:+:(P.st j).A:=hi.no x hx
    obtain ⟨u,v,huv⟩:=hs
    rcases List.eq_nil_or_concat (P.ins (P.hd e)) with h0|⟨I',a,h0⟩
    ·exact h2 h0
    ·rw [h0, ← List.concat_eq_append,List.concat_eq_append] at h1
     have h4:(P.st j).A++ [e]=(A'++I')++ [a]:=by rw [h1];simp
     have h5:=(List.append_inj' h4 rfl).1
     exact hA ⟨u,v++I',by rw [h5, ← huv];simp⟩
   ·rw [PS.vq,hsh,List.mem_append,List.mem_singleton,hi.sh f]
    show _↔P.E f∧(f∈A'∨P.hd f∈(P.st j).D++ [P.hd e])
    constructor
    ·rintro (⟨h4,h5|h5⟩|rfl)
     ·have:f∈A'++P.ins (P.hd e):=by rw [← h1];exact List.mem_append.2 (.inl h5)
      rcases List.mem_append.1 this with h6|h6
      ·exact ⟨h4, .inl h6⟩
      ·exact ⟨h4, .inr (by rw [((h.de _ _).1 h6).2];simp)⟩
     ·exact ⟨h4, .inr (List.mem_append.2 (.inl h5))⟩
     ·exact ⟨he, .inr (by simp)⟩
    ·rintro ⟨h4,h5|h5⟩
     ·have:f∈(P.st j).A++ [e]:=by rw [h1];exact List.mem_append.2 (.inl h5)
      rcases List.mem_append.1 this with h6|h6
      ·exact .inl ⟨h4, .inl h6⟩
      ·exact .inr (by simpa using h6)
     ·rcases List.mem_append.1 h5 with h6|h6
      ·exact .inl ⟨h4, .inr h6⟩
      ·have h6:P.hd f=P.hd e:=by simpa using h6
       have h7:f∈P.ins (P.hd e):=(h.de _ _).2 ⟨h4,h6⟩
       have:f∈(P.st j).A++ [e]:=by rw [h1];exact List.mem_append.2 (.inr h7)
       rcases List.mem_append.1 this with h8|h8
       ·exact .inl ⟨h4, .inl h8⟩
       ·exact .inr (by simpa using h8)
  ·rw [h3]
   refine ⟨⟨k,by simpa [hB] using hr⟩,fun x hx hs=> ?_,fZ,fun f=> ?_,hj⟩
   ·rcases CA hs with h4|h4
    ·exact hi.no x hx h4
    ·have hne:e∈P.ins x:=by
      obtain ⟨t,ht⟩:=h4
      rcases List.eq_nil_or_concat (P.ins x) with h0|⟨I',a,h0⟩
      ·exact absurd h0 hx
      ·rw [h0] at ht
       have h5:(t++I')++ [a]=(P.st j).A++ [e]:=by rw [← ht];simp
       have:=(List.append_inj' h5 rfl).2
       rw [h0];simp at this ⊢;exact .inr this.symm
     rw [((h.de _ _).1 hne).2] at h1
     exact h1 h4
   ·rw [PS.vq,hsh,List.mem_append,List.mem_singleton,hi.sh f]
    show _↔P.E f∧(f∈(P.st j).A++ [e]∨P.hd f∈(P.st j).D)
    rw [List.mem_append,List.mem_singleton]
    constructor
    ·rintro (⟨h4,h5|h5⟩|rfl)
     ·exact ⟨h4, .inl (.inl h5)⟩
     ·exact ⟨h4, .inr h5⟩
     ·exact ⟨he, .inl (.inr rfl)⟩
    ·rintro ⟨h4,(h5|h5)|h5⟩
     ·exact .inl ⟨h4, .inl h5⟩
     ·exact .inr h5
     ·exact .inl ⟨h4, .inr h5⟩
end Go.Ab
end
section
namespace Go.Ab
set_option maxRecDepth 10000
set_option linter.unusedSectionVars false
variable {P:PS}
structure PS.fk (P:PS) (L R:Int→Int) (f0 f1:Int) (low:Int→Int):Prop where
 ne:f0≠f1
 iR:∀ {x u a b v},P.outs x=u++a::b::v→R a=L b
 o8:∀ {x u a b v},P.ins x=u++a::b::v→R a=L b
 fst:∀ {x a u b v},P.ins x=a::u→P.outs x=b::v→L a=L b
 F5:∀ {x a u b v},P.ins x=u++ [a]→P.outs x=v++ [b]→R a=R b
 s0:∀ {b v},P.outs P.src=b::v→L b=f0
 s1:∀ {b v},P.outs P.src=v++ [b]→R b=f1
 new:∀ {x u a b v},P.outs x=u++a::b::v→low (R a)=x∧R a≠f0∧R a≠f1
 new1:∀ {x u a b v u' a' b' v'},P.outs x=u++a::b::v→P.outs x=u'++a'::b'::v'→R a=R a'→a=a'
theorem Hq {l u v u' v':List Int} {a:Int} (hn:l.Nodup) (h1:l=u++a::v) (h2:l=u'++a::v'):u=u'∧v=v':=by
 induction u generalizing l u' with
 |nil=>
  cases u' with
  |nil=>rw [h1] at h2;simpa using h2
  |cons b u'=>
   rw [h1] at h2
   simp only [List.nil_append,List.cons_append,List.cons.injEq] at h2
   rw [h1,h2.2] at hn
   simp at hn
 |cons b u ih=>
  cases u' with
  |nil=>
   rw [h2] at h1
   simp only [List.nil_append,List.cons_append,List.cons.injEq] at h1
   rw [h2,h1.2] at hn
   simp at hn
  |cons b' u'=>
   have h3:=h1.symm.trans h2
   simp only [List.cons_append,List.cons.injEq] at h3
   rw [h1,List.cons_append,List.nodup_cons] at hn
   obtain ⟨h4,h5⟩:=ih hn.2 rfl h3.2
   exact ⟨by rw [h3.1,h4],h5⟩
theorem jg {l u v:List Int} {a b:Int} (h:l.reverse=u++a::b::v):l=v.reverse++b::a::u.reverse:=by
 have:=congrArg List.reverse h
 simpa using this
theorem PS.fk.A7 (h:P.Ok) {L R:Int→Int} {f0 f1:Int} {low:Int→Int} (F:P.fk L R f0 f1 low):P.A7.fk R L f1 f0 low:=
 {ne:=F.ne.symm
  iR:=fun {x u a b v} h=>(F.iR (jg (show (P.outs x).reverse=_ from h))).symm
  o8:=fun {x u a b v} h=>(F.o8 (jg (show (P.ins x).reverse=_ from h))).symm
  fst:=fun {x a u b v} h1 h2=>F.F5 (x:=x) (u:=u.reverse) (v:=v.reverse) (by
     have:=congrArg List.reverse (show (P.ins x).reverse=_ from h1);simpa using this) (by
     have:=congrArg List.reverse (show (P.outs x).reverse=_ from h2);simpa using this)
  F5:=fun {x a u b v} h1 h2=>F.fst (x:=x) (u:=u.reverse) (v:=v.reverse) (by
    have:=congrArg List.reverse (show (P.ins x).reverse=_ from h1);simpa using this) (by
    have:=congrArg List.reverse (show (P.outs x).reverse=_ from h2);simpa using this)
  s0:=fun {b v} h1=>F.s1 (v:=v.reverse) (by
     have:=congrArg List.reverse (show (P.outs P.src).reverse=_ from h1);simpa using this)
  s1:=fun {b v} h1=>F.s0 (v:=v.reverse) (by
     have:=congrArg List.reverse (show (P.outs P.src).reverse=_ from h1);simpa using this)
  new:=fun {x u a b v} h1=>by
   have h2:=jg (show (P.outs x).reverse=_ from h1)
   obtain ⟨h3,h4,h5⟩:=F.new h2
   have h6:=F.iR h2
   rw [← h6];exact ⟨h3,h5,h4⟩
  new1:=fun {x u a b v u' a' b' v'} h1 h2 h3=>by
   have g1:=jg (show (P.outs x).reverse=_ from h1)
   have g2:=jg (show (P.outs x).reverse=_ from h2)
   rw [← F.iR g1, ← F.iR g2] at h3
   have h4:=F.new1 g1 g2 h3
   subst h4
   have:=(Hq (h.qk x) g1 g2).2
   simp only [List.cons.injEq] at this
   exact this.1}
def gE (L R:Int→Int):Int→List Int→Prop
 |_, []=>True
 |f,a::W=>L a=f∧gE L R (R a) W
def iS (R:Int→Int):Int→List Int→Int
 |f, []=>f
 |_,a::W=>iS R (R a) W
theorem cy {L R:Int→Int} :∀ {A B:List Int} {f:Int},gE L R f (A++B)↔gE L R f A∧gE L R (iS R f A) B
 | [],B,f=>by simp [gE,iS]
 |a::A,B,f=>by simp [gE,iS,cy,and_assoc]
theorem cC {R:Int→Int} :∀ {A B:List Int} {f:Int},iS R f (A++B)=iS R (iS R f A) B
 | [],B,f=>rfl
 |a::A,B,f=>by simp [iS,cC]
theorem dJ {R:Int→Int} {A:List Int} {a f:Int} :iS R f (A++ [a])=R a:=by rw [cC];rfl
theorem qo {L R:Int→Int} :∀ {X:List Int} {f:Int},(∀u a b v,X=u++a::b::v→R a=L b)→(∀a u,X=a::u→L a=f)→gE L R f X
 | [],f,_,_=>trivial
 |a::X,f,h,h1=>⟨h1 a X rfl,qo (fun u b c v e=>h (a::u) b c v (by rw [e];rfl)) fun b v e=>(h [] a b v (by rw [e];rfl)).symm⟩
theorem Hr {L R:Int→Int} {f:Int} {u v:List Int} {a b:Int} (h:gE L R f (u++a::b::v)):R a=L b:=by
 have:=(cy.1 h).2
 exact this.2.1.symm
theorem gn {l:List Int} (h:l≠ []):∃u a,l=u++ [a]:=by
 rcases List.eq_nil_or_concat l with h1|⟨u,a,h1⟩
 ·exact absurd h1 h
 ·exact ⟨u,a,by rw [h1,List.concat_eq_append]⟩
theorem ij {l:List Int} (h:l≠ []):∃a u,l=a::u:=by
 cases l with
 |nil=>exact absurd rfl h
 |cons a u=>exact ⟨a,u,rfl⟩
structure A9 (L R:Int→Int) (f0 f1:Int) (low:Int→Int) (W D:List Int):Prop where
 lk:gE L R f0 W
 en:iS R f0 W=f1
 nd:(W.map R).Nodup
 lo:∀a∈W,R a≠f0∧(R a=f1∨(R a≠f1∧low (R a)∈D))
theorem E5 {X U V Y:List Int} {r:Int} (h:(X++(U++ [r])++Y).Nodup) (hV:V.Nodup) (hd:∀z∈V,z∉X∧z≠r∧z∉Y):(X++(V++ [r])++Y).Nodup:=by
 have h1:(X++ [r]++Y).Nodup:=by
  refine List.Nodup.sublist ?_ h
  refine List.Sublist.append (List.Sublist.append (List.Sublist.refl _) ?_) (List.Sublist.refl _)
  exact List.sublist_append_right ..
 have h2:(V++(X++ [r]++Y)).Nodup:=by
  rw [List.nodup_append]
  refine ⟨hV,h1,fun a ha b hb e=> ?_⟩
  subst e
  obtain ⟨g1,g2,g3⟩:=hd a ha
  simp only [List.mem_append,List.mem_singleton] at hb
  rcases hb with (hb|hb)|hb
  ·exact g1 hb
  ·exact g2 hb
  ·exact g3 hb
 refine (List.Perm.nodup_iff ?_).1 h2
 have:X++(V++ [r])++Y=(X++V)++([r]++Y):=by simp
 rw [this]
 have:V++(X++ [r]++Y)=(V++X)++([r]++Y):=by simp
 rw [this]
 exact List.Perm.append_right _ List.perm_append_comm
theorem oJ {R:Int→Int} :∀ {l:List Int},l.Nodup→(∀a∈l,∀b∈l,R a=R b→a=b)→(l.map R).Nodup
 | [],_,_=>by simp
 |a::l,hn,h=>by
  rw [List.nodup_cons] at hn
  rw [List.map_cons,List.nodup_cons]
  refine ⟨fun hm=> ?_,oJ hn.2 fun x hx y hy=>h x (List.mem_cons_of_mem _ hx) y (List.mem_cons_of_mem _ hy)⟩
  obtain ⟨b,hb,e⟩:=List.mem_map.1 hm
  have:=h b (List.mem_cons_of_mem _ hb) a (List.mem_cons_self ..) e
  exact hn.1 (this ▸ hb)
section
variable (h:P.Ok) {L R:Int→Int} {f0 f1:Int} {low:Int→Int} (F:P.fk L R f0 f1 low)
include h F
theorem o9 {v:List Int} {b:Int} {x:Int} (hv:P.outs x=v++ [b]) {a:Int} (ha:a∈v):∃u c w,P.outs x=u++a::c::w:=by
 obtain ⟨s,t,rfl⟩:=List.append_of_mem ha
 cases t with
 |nil=>exact ⟨s,b, [],by rw [hv];simp⟩
 |cons c t=>exact ⟨s,c,t++ [b],by rw [hv];simp⟩
theorem xS {x f:Int} (hf:∀b v,P.outs x=b::v→L b=f):gE L R f (P.outs x):=qo (fun u a b v e=>F.iR e) fun a u e=>hf a u e
theorem Hs {x f:Int} (hf:∀b v,P.ins x=b::v→L b=f):gE L R f (P.ins x):=qo (fun u a b v e=>F.o8 e) fun a u e=>hf a u e
theorem Dy {x:Int} {v:List Int} {b:Int} (hv:P.outs x=v++ [b]):(v.map R).Nodup∧∀z∈v.map R,low z=x∧z≠f0∧z≠f1:=by
 have hn:=h.qk x
 rw [hv,List.nodup_append] at hn
 refine ⟨oJ hn.1 fun a ha a' Ou e=> ?_,fun z hz=> ?_⟩
 ·obtain ⟨u,c,w,h1⟩:=o9 h F hv ha
  obtain ⟨u',c',w',h2⟩:=o9 h F hv Ou
  exact F.new1 h1 h2 e
 ·obtain ⟨a,ha,rfl⟩:=List.mem_map.1 hz
  obtain ⟨u,c,w,h1⟩:=o9 h F hv ha
  exact F.new h1
theorem A9.start (hne:P.outs P.src≠ []):A9 L R f0 f1 low (P.outs P.src) [P.src]:=by
 obtain ⟨v,b,hv⟩:=gn hne
 obtain ⟨n1,n2⟩:=Dy h F hv
 have hb:=F.s1 hv
 refine ⟨xS h F fun b v e=>F.s0 e,by rw [hv,dJ,hb], ?_,fun a ha=> ?_⟩
 ·rw [hv,List.map_append,List.nodup_append]
  refine ⟨n1,by simp,fun z hz y hy e=> ?_⟩
  simp only [List.map_cons,List.map_nil,List.mem_singleton] at hy
  exact (n2 z hz).2.2 (by rw [e,hy,hb])
 ·rw [hv,List.mem_append,List.mem_singleton] at ha
  rcases ha with ha|rfl
  ·obtain ⟨g1,g2,g3⟩:=n2 (R a) (List.mem_map_of_mem ha)
   exact ⟨g2, .inr ⟨g3,by rw [g1];simp⟩⟩
  ·exact ⟨by rw [hb];exact F.ne.symm, .inl hb⟩
theorem A9.step {A C D:List Int} {x:Int} (hi:A9 L R f0 f1 low (A++P.ins x++C) D) (hI:P.ins x≠ []) (hO:P.outs x≠ []) (hx:x∉D):A9 L R f0 f1 low (A++P.outs x++C) (D++ [x]):=by
 obtain ⟨u,a,hu⟩:=gn hI
 obtain ⟨v,b,hv⟩:=gn hO
 obtain ⟨a0,u0,MW⟩:=ij hI
 obtain ⟨b0,v0,Nr⟩:=ij hO
 have hab:=F.F5 hu hv
 have h0:=F.fst MW Nr
 obtain ⟨l1,l2⟩:=cy.1 hi.lk
 obtain ⟨l3,l4⟩:=cy.1 l1
 have MX:∀f,iS R f (P.ins x)=R a:=fun f=>by rw [hu,dJ]
 have SA:∀f,iS R f (P.outs x)=R b:=fun f=>by rw [hv,dJ]
 have hL:L a0=iS R f0 A:=by rw [MW] at l4;exact l4.1
 obtain ⟨n1,n2⟩:=Dy h F hv
 have bN:=hi.nd
 have hlo:=hi.lo
 refine ⟨?_, ?_, ?_,fun c hc=> ?_⟩
 ·rw [cy,cy]
  refine ⟨⟨l3,xS h F fun b' v' e=> ?_⟩, ?_⟩
  ·rw [Nr] at e
   simp only [List.cons.injEq] at e
   rw [← e.1, ← h0,hL]
  ·rw [cC,SA]
   rw [cC,MX] at l2
   rw [← hab];exact l2
 ·have:=hi.en
  rw [cC,cC,MX] at this
  rw [cC,cC,SA, ← hab];exact this
 ·rw [List.map_append,List.map_append,hv,List.map_append]
  rw [List.map_append,List.map_append,hu,List.map_append] at bN
  simp only [List.map_cons,List.map_nil] at bN ⊢
  rw [← hab]
  have hold:∀c∈A++P.ins x++C,R c∉v.map R:=fun c hc hz=>by
   obtain ⟨g1,g2,g3⟩:=n2 _ hz
   rcases (hlo c hc).2 with h1|⟨_,h1⟩
   ·exact g3 h1
   ·rw [g1] at h1;exact hx h1
  refine E5 bN n1 fun z hz=>⟨fun EN=> ?_,fun EN=> ?_,fun EN=> ?_⟩
  ·obtain ⟨c,hc,rfl⟩:=List.mem_map.1 EN
   exact hold c (by simp [hc]) hz
  ·exact hold a (by rw [hu];simp) (EN ▸ hz)
  ·obtain ⟨c,hc,rfl⟩:=List.mem_map.1 EN
   exact hold c (by simp [hc]) hz
 ·have hold:∀c∈A++P.ins x++C,R c≠f0∧(R c=f1∨(R c≠f1∧low (R c)∈D++ [x])):=fun c hc=>by
   obtain ⟨g1,g2⟩:=hlo c hc
   exact ⟨g1,g2.imp id fun ⟨g3,g4⟩=>⟨g3,List.mem_append.2 (.inl g4)⟩⟩
  simp only [List.mem_append] at hc
  rcases hc with (hc|hc)|hc
  ·exact hold c (by simp [hc])
  ·rw [hv,List.mem_append,List.mem_singleton] at hc
   rcases hc with hc|rfl
   ·obtain ⟨g1,g2,g3⟩:=n2 (R c) (List.mem_map_of_mem hc)
    exact ⟨g2, .inr ⟨g3,by rw [g1];simp⟩⟩
   ·have:=hold a (by rw [hu];simp)
    rw [hab] at this;exact this
  ·exact hold c (by simp [hc])
end
end Go.Ab
end
section
namespace Go.Ab
set_option maxRecDepth 10000
set_option linter.unusedSectionVars false
variable {P:PS}
inductive PS.kJ (P:PS) (x:Int):Int→Prop
 |refl:P.kJ x x
 |step {e:Int} :P.kJ x (P.tl e)→P.E e→P.kJ x (P.hd e)
theorem PS.kJ.trans {x y z:Int} (h1:P.kJ x y) (h2:P.kJ y z):P.kJ x z:=by
 induction h2 with
 |refl=>exact h1
 |step _ he ih=>exact .step ih he
inductive PS.Lp (P:PS) (L R:Int→Int) (F:Int):Int→Prop
 |refl:P.Lp L R F F
 |step {e:Int} :P.Lp L R F (L e)→P.E e→P.Lp L R F (R e)
theorem PS.Lp.trans {L R:Int→Int} {x y z:Int} (h1:P.Lp L R x y) (h2:P.Lp L R y z):P.Lp L R x z:=by
 induction h2 with
 |refl=>exact h1
 |step _ he ih=>exact .step ih he
theorem PS.Lp.head {L R:Int→Int} {e z:Int} (he:P.E e) (h2:P.Lp L R (R e) z):P.Lp L R (L e) z:=(PS.Lp.step .refl he).trans h2
theorem PS.Lp.A7 {L R:Int→Int} {x y:Int} (h1:P.Lp L R x y):P.A7.Lp R L y x:=by
 induction h1 with
 |refl=>exact .refl
 | @step e h1 he ih=>exact PS.Lp.head (P:=P.A7) (L:=R) (R:=L) (e:=e) he ih
theorem PS.kJ.A7 {x y:Int} (h1:P.kJ x y):P.A7.kJ x y:=by
 induction h1 with
 |refl=>exact .refl
 |step h1 he ih=>exact PS.kJ.step (P:=P.A7) ih he
section
variable (h:P.Ok)
include h
theorem lU {j:Nat} (hj:j≤P.m):∃k,P.Row k ((P.st j).A++(P.st j).B) (P.st j).D:=(P.inv h j hj).row
theorem gq {j:Nat} (hj:j<P.m):∃B,(P.st j).B=P.sh j::B:=by
 obtain ⟨e,B,hB⟩:=(P.inv h j (by omega)).more h hj
 refine ⟨B, ?_⟩
 have:P.sh j=e:=by unfold PS.sh;rw [hB];rfl
 rw [this,hB]
theorem zv {j:Nat} (hj:j<P.m):P.E (P.sh j):=by
 obtain ⟨B,hB⟩:=gq h hj
 obtain ⟨k,hr⟩:=lU h (Nat.le_of_lt hj)
 exact ((h.dy hr _).1 (by rw [hB];simp)).1
theorem zw {i j:Nat} (hi:i<P.m) (hj:j<P.m) (e:P.sh i=P.sh j):i=j:=by
 have hn:=(P.inv h P.m (Nat.le_refl _)).nd
 have hl:=PS.ua (P:=P) (j:=P.m)
 have gi:(P.ru P.m)[i]'(by omega)=P.sh i:=by simp [PS.ru]
 have gj:(P.ru P.m)[j]'(by omega)=P.sh j:=by simp [PS.ru]
 exact (List.getElem_inj hn).1 (by rw [gi,gj,e])
theorem iq {e:Int} (he:P.E e):∃j,j<P.m∧P.sh j=e:=by
 have hi:=P.inv h P.m (Nat.le_refl _)
 refine Decidable.byContradiction fun hne=> ?_
 have hne:e∉P.ru P.m:=fun hm=>hne (PS.qn.1 hm)
 have bN:(e::P.ru P.m).Nodup:=List.nodup_cons.2 ⟨hne,hi.nd⟩
 have:=jf (m:=(List.range P.m).map Int.ofNat) bN fun x hx=>by
  have hE:P.E x:=by
   rcases List.mem_cons.1 hx with rfl|hx
   ·exact he
   ·exact ((hi.sh x).1 hx).1
  have h1:=hE.1;have h2:=hE.2
  exact List.mem_map.2 ⟨x.toNat,List.mem_range.2 (by omega),by simp;omega⟩
 simp [PS.ua] at this
 omega
theorem qp {i j:Nat} (hi:i<P.m) (hj:j≤P.m):P.sh i∈P.ru j↔i<j:=by
 rw [PS.qn]
 constructor
 ·rintro ⟨i',h1,h2⟩
  have:=zw h (by omega) hi h2
  omega
 ·exact fun h1=>⟨i,h1,rfl⟩
theorem Ht:(P.st P.m).A= []:=by
 have hi:=P.inv h P.m (Nat.le_refl _)
 obtain ⟨k,hr⟩:=hi.row
 have hB:(P.st P.m).B= []:=by
  cases hB:(P.st P.m).B with
  |nil=>rfl
  |cons e B=>
   exfalso
   have hm:=(h.dy hr e).1 (by rw [hB];simp)
   obtain ⟨j,hj,e2⟩:=iq h hm.1
   have h1:e∈P.ru P.m:=PS.qn.2 ⟨j,hj,e2⟩
   have bN:=h.mZ hr
   rw [List.nodup_append] at bN
   rcases ((hi.sh e).1 h1).2 with h2|h2
   ·exact bN.2.2 e h2 e (by rw [hB];simp) rfl
   ·exact hm.2.2 h2
 rw [hB,List.append_nil] at hr
 cases k with
 |succ k=>
  obtain ⟨x,A,C,h1,h2⟩:=h.m9 hr
  exact absurd ⟨A,C,h1.symm⟩ (hi.no x h2)
 |zero=>
  cases hA:(P.st P.m).A with
  |nil=>rfl
  |cons e A=>
   have hm:=(h.dy hr e).1 (by rw [hA];simp)
   exact absurd (h.nW hr e hm.1) hm.2.2
theorem j5 {j:Nat} (hj:j<P.m):∃B,(P.st j).B=P.sh j::B∧((∃A',(P.st j).A++ [P.sh j]=A'++P.ins (P.hd (P.sh j))∧P.ins (P.hd (P.sh j))≠ []∧P.st (j+1)=⟨A',P.outs (P.hd (P.sh j))++B,(P.st j).D++ [P.hd (P.sh j)]⟩)∨
 (¬P.ins (P.hd (P.sh j))<:+(P.st j).A++ [P.sh j]∧P.st (j+1)=⟨(P.st j).A++ [P.sh j],B,(P.st j).D⟩)):=by
 obtain ⟨B,hB⟩:=gq h hj
 obtain ⟨k,hr⟩:=lU h (Nat.le_of_lt hj)
 exact ⟨B,hB,(PS.vr h hr hB).2⟩
theorem Rr {j:Nat} (hj:j<P.m):P.sh j∉(P.st j).A:=by
 obtain ⟨B,hB⟩:=gq h hj
 obtain ⟨k,hr⟩:=lU h (Nat.le_of_lt hj)
 have bN:=h.mZ hr
 rw [List.nodup_append] at bN
 exact fun hA=>bN.2.2 _ hA _ (by rw [hB];simp) rfl
theorem Ba:∀ {d j:Nat},j+d=P.m→∀t∈(P.st j).A,∀u,P.ins (P.hd t)≠u++ [t]
 |0,j,hj,t,ht,u=>by
  obtain rfl:j=P.m:=by omega
  rw [Ht h] at ht;cases ht
 |d+1,j,hj,t,ht,u=>by
  have ih:=Ba (d:=d) (j:=j+1) (by omega)
  have hjm:j<P.m:=by omega
  obtain ⟨B,hB,hc⟩:=j5 h hjm
  have hne:=Rr h hjm
  rcases hc with ⟨A',h1,h2,h3⟩|⟨h1,h3⟩
  ·have Hu:t∈A'++P.ins (P.hd (P.sh j)):=by rw [← h1];simp [ht]
   rcases List.mem_append.1 Hu with h4|h4
   ·exact ih t (by rw [h3];exact h4) u
   ·intro hu
    rw [((h.de _ _).1 h4).2] at hu
    rw [hu, ← List.append_assoc] at h1
    have:=(List.append_inj' h1 rfl).2
    simp only [List.cons.injEq,and_true] at this
    exact hne (this ▸ ht)
  ·exact ih t (by rw [h3];simp [ht]) u
theorem Dz {j:Nat} (hj:j<P.m):P.LZ∉(P.st j).D:=fun hs=>by
 have hi:=P.inv h j (by omega)
 obtain ⟨k,hr⟩:=hi.row
 have:=h.tZ hr hs
 subst this
 have:=xR (l:=P.ru j) (m:=P.m) fun e h1 h2=>(hi.sh e).2 ⟨⟨h1,h2⟩, .inr (h.nW hr e ⟨h1,h2⟩)⟩
 rw [PS.ua] at this
 omega
variable {L R:Int→Int} {f0 f1:Int} {low:Int→Int} (F:P.fk L R f0 f1 low)
include F
theorem nc:∀ {j:Nat},j<P.m→A9 L R f0 f1 low ((P.st j).A++(P.st j).B) (P.st j).D
 |0,hj=>by
  obtain ⟨B,hB⟩:=gq h hj
  have hB:P.outs P.src=P.sh 0::B:=hB
  exact A9.start h F (by rw [hB];simp)
 |j+1,hj=>by
  have ih:=nc (j:=j) (by omega)
  obtain ⟨B,hB,hc⟩:=j5 h (show j<P.m by omega)
  obtain ⟨k,hr⟩:=lU h (show j≤P.m by omega)
  rcases hc with ⟨A',h1,h2,h3⟩|⟨h1,h3⟩
  ·have hs:=Dz h hj
   rw [h3] at hs ⊢
   have hx:P.hd (P.sh j)≠P.LZ:=fun e=>hs (by simp [e])
   have hO:P.outs (P.hd (P.sh j))≠ []:=fun e=>hx ((h.qm _ h2).1 e)
   have hm:=(h.dy hr (P.sh j)).1 (by rw [hB];simp)
   have hW:(P.st j).A++(P.st j).B=A'++P.ins (P.hd (P.sh j))++B:=by rw [hB, ← h1];simp
   rw [hW] at ih
   have:=A9.step h F ih h2 hO hm.2.2
   simpa using this
  ·rw [h3]
   have hW:(P.st j).A++(P.st j).B=(P.st j).A++ [P.sh j]++B:=by rw [hB];simp
   rw [hW] at ih
   exact ih
theorem Hv {j:Nat} (hj:j<P.m) {a b:Int} (ha:a∈(P.st j).A++(P.st j).B) (hb:b∈(P.st j).A++(P.st j).B) (e:R a=R b):a=b:=by
 have hn:=(nc h F hj).nd
 obtain ⟨i,hi,rfl⟩:=List.mem_iff_getElem.1 ha
 obtain ⟨k,hk,rfl⟩:=List.mem_iff_getElem.1 hb
 have:=(List.getElem_inj (i:=i) (j:=k) (h₀:=by simpa using hi) (h₁:=by simpa using hk) hn).1 (by rw [List.getElem_map,List.getElem_map];exact e)
 subst this;rfl
theorem pe {j:Nat} (hj:j<P.m):∀ {d:Nat} {e:Int},P.MV (P.tl e)<d→P.E e→R e=L (P.sh j)→e∈P.ru j
 |0,e,hd,_,_=>by omega
 |d+1,e,hd,he,hR=>by
  refine Decidable.byContradiction fun hne=> ?_
  have hi:=P.inv h j (by omega)
  have hF:=nc h F hj
  obtain ⟨B,hB⟩:=gq h hj
  obtain ⟨k,hr⟩:=hi.row
  have Ov:¬(e∈(P.st j).A∨P.hd e∈(P.st j).D):=fun h1=>hne ((hi.sh e).2 ⟨he,h1⟩)
  have hlk:=hF.lk
  rw [cy,hB] at hlk
  have zx:L (P.sh j)=iS R f0 (P.st j).A:=hlk.2.1
  rcases List.eq_nil_or_concat (P.st j).A with hA|⟨A',t,hA⟩
  ·
   have zx:L (P.sh j)=f0:=by rw [zx,hA];rfl
   have Rt:R e≠f0:=by
    obtain ⟨i,hi2,e2⟩:=iq h he
    obtain ⟨B2,xz⟩:=gq h hi2
    have:=((nc h F hi2).lo (P.sh i) (by rw [xz];simp)).1
    rw [e2] at this;exact this
   exact Rt (hR.trans zx)
  ·rw [List.concat_eq_append] at hA
   have zx:L (P.sh j)=R t:=by rw [zx,hA,dJ]
   have MY:t∈(P.st j).A:=by rw [hA];simp
   have PG:t∈(P.st j).A++(P.st j).B:=List.mem_append.2 (.inl MY)
   have Oq:R e=R t:=hR.trans zx
   by_cases hc:P.tl e∈(P.st j).D
   ·have Uc:=(h.dy hr e).2 ⟨he,hc,fun h1=>Ov (.inr h1)⟩
    have:=Hv h F hj Uc PG Oq
    exact Ov (.inl (this ▸ MY))
   ·have hem:e∈P.outs (P.tl e):=(h.bW _ _).2 ⟨he,rfl⟩
    obtain ⟨s,w,hs⟩:=List.append_of_mem hem
    have Ow:R t≠f1:=fun h1=>by
     have h2:=hF.en
     rw [hB,cC] at h2
     obtain ⟨V,b,SB⟩:=gn (l:=P.sh j::B) (by simp)
     rw [SB,dJ] at h2
     have SC:b∈(P.st j).B:=by rw [hB,SB];simp
     have h3:=Hv h F hj PG (List.mem_append.2 (.inr SC)) (h1.trans h2.symm)
     have bN:=h.mZ hr
     rw [List.nodup_append] at bN
     exact bN.2.2 t MY b SC h3
    cases w with
    |cons b w=>
     obtain ⟨g1,g2,g3⟩:=F.new hs
     have h4:=(hF.lo t PG).2
     rw [← Oq] at h4 Ow
     rcases h4 with h4|⟨_,h4⟩
     ·exact Ow h4
     ·rw [g1] at h4;exact hc h4
    |nil=>
     have hI:P.ins (P.tl e)≠ []:=fun h0=>by
      have h5:P.tl e≠P.src:=fun h6=>hc (h6 ▸ h.ql hr)
      obtain ⟨i,hi2,e2⟩:=iq h he
      obtain ⟨k2,sS⟩:=lU h (show i≤P.m by omega)
      obtain ⟨B2,xz⟩:=gq h hi2
      have hm2:=(h.dy sS (P.sh i)).1 (by rw [xz];simp)
      have:∀i,i≤P.m→∀x∈(P.st i).D,x=P.src∨P.ins x≠ []:=by
       intro i
       induction i with
       |zero=>intro _ x hx;exact .inl (by simpa [PS.st] using hx)
       |succ i ih=>
        intro VM x hx
        obtain ⟨B3,VN,Hw⟩:=j5 h (show i<P.m by omega)
        rcases Hw with ⟨A3,k1,k2,k3⟩|⟨k1,k3⟩
        ·rw [k3] at hx
         rcases List.mem_append.1 hx with hx|hx
         ·exact ih (by omega) x hx
         ·rw [List.mem_singleton] at hx
          exact .inr (hx ▸ k2)
        ·rw [k3] at hx;exact ih (by omega) x hx
      rcases this i (by omega) _ hm2.2.1 with h6|h6
      ·rw [e2] at h6;exact h5 h6
      ·rw [e2] at h6;exact h6 h0
     obtain ⟨u,a,hu⟩:=gn hI
     have Ox:=(h.de (P.tl e) a).1 (by rw [hu];simp)
     have Oy:R a=R e:=F.F5 hu hs
     have hp:=h.zu a Ox.1
     rw [Ox.2] at hp
     have hin:=pe (d:=d) (e:=a) hj (by omega) Ox.1 (Oy.trans hR)
     rcases ((hi.sh a).1 hin).2 with h7|h7
     ·have h8:=Hv h F hj (List.mem_append.2 (.inl h7)) PG (Oy.trans Oq)
      subst h8
      exact Ba h (d:=P.m - j) (by omega) a MY u (by rw [Ox.2];exact hu)
     ·rw [Ox.2] at h7;exact hc h7
theorem E6 {i j:Nat} (hi:i<P.m) (hj:j<P.m) (hR:P.Lp L R (R (P.sh i)) (L (P.sh j))):i<j:=by
 have key:∀y,P.Lp L R (R (P.sh i)) y→∀j,j<P.m→L (P.sh j)=y→i<j:=by
  intro y hy
  induction hy with
  |refl=>
   intro j hj e
   exact (qp h hi (by omega)).1 (pe h F hj (d:=P.MV (P.tl (P.sh i))+1) (by omega) (zv h hi) e.symm)
  | @step f _ hf ih=>
    intro j hj e
    obtain ⟨k,hk,rfl⟩:=iq h hf
    have h1:=ih k hk rfl
    have h2:=(qp h hk (by omega)).1 (pe h F hj (d:=P.MV (P.tl (P.sh k))+1) (by omega) hf e.symm)
    omega
 exact key _ hR j hj rfl
end
end Go.Ab
end
section
namespace Go.Ab
set_option maxRecDepth 10000
set_option linter.unusedSectionVars false
variable {P:PS}
theorem zy {L R:Int→Int} :∀ {A:List Int} {f:Int},(∀a∈A,P.E a)→gE L R f A→P.Lp L R f (iS R f A)
 | [],_,_,_=> .refl
 |a::A,f,hE,⟨h1,h2⟩=>by
  have:=zy (A:=A) (f:=R a) (fun b hb=>hE b (List.mem_cons_of_mem _ hb)) h2
  rw [← h1]
  exact PS.Lp.head (hE a (List.mem_cons_self ..)) this
section
variable (h:P.Ok) {L R:Int→Int} {f0 f1:Int} {low:Int→Int} (F:P.fk L R f0 f1 low)
include h F
theorem L0 {x:Int} {u v v':List Int} {e a:Int} (hu:P.ins x=u++e::v) (ha:P.ins x=v'++ [a]):P.Lp L R (R e) (R a):=by
 have hl:gE L R (L ((P.ins x).headD 0)) (P.ins x):=by
  cases hI:P.ins x with
  |nil=>trivial
  |cons b w=>rw [← hI];exact Hs h F fun b' w' e'=>by rw [hI];rw [hI] at e';simp only [List.cons.injEq] at e';simp [e'.1]
 rw [hu,show u++e::v=(u++ [e])++v by simp,cy,dJ] at hl
 have h2:=zy (P:=P) (fun b hb=>((h.de x b).1 (by rw [hu];simp [hb])).1) hl.2
 have h3:iS R (R e) v=R a:=by
  have e1:iS R 0 (P.ins x)=R a:=by rw [ha,dJ]
  rw [hu,show u++e::v=(u++ [e])++v by simp,cC,dJ] at e1
  exact e1
 rw [h3] at h2;exact h2
theorem xT {x:Int} (hx:x≠P.src):∀ {j:Nat},j≤P.m→x∈(P.st j).D→∃i B,i<j∧x∉(P.st i).D∧P.hd (P.sh i)=x∧(∃u,P.ins x=u++ [P.sh i])∧(∀e∈P.ins x,e∈P.ru (i+1))∧(P.st (i+1)).B=P.outs x++B∧(P.st i).B=P.sh i::B
 |0,_,hm=>by
  have:x∈ [P.src]:=hm
  simp at this;exact absurd this hx
 |j+1,hj,hm=>by
  by_cases hp:x∈(P.st j).D
  ·obtain ⟨i,B,h1,h2⟩:=xT hx (by omega) hp
   exact ⟨i,B,by omega,h2⟩
  ·obtain ⟨B,hB,hc⟩:=j5 h (show j<P.m by omega)
   rcases hc with ⟨A',h1,h2,h3⟩|⟨h1,h3⟩
   ·rw [h3] at hm
    rcases List.mem_append.1 hm with hm|hm
    ·exact absurd hm hp
    ·rw [List.mem_singleton] at hm
     subst hm
     refine ⟨j,B,by omega,hp,rfl, ?_,fun e he=> ?_,by rw [h3],hB⟩
     ·obtain ⟨u,a,hu⟩:=gn h2
      rw [hu, ← List.append_assoc] at h1
      have:=(List.append_inj' h1 rfl).2
      simp only [List.cons.injEq,and_true] at this
      exact ⟨u,by rw [hu,this]⟩
     ·refine ((P.inv h (j+1) hj).sh e).2 ⟨((h.de _ _).1 he).1, .inr ?_⟩
      rw [h3,((h.de _ _).1 he).2];simp
   ·rw [h3] at hm;exact absurd hm hp
theorem vt {x a:Int} {i k:Nat} (hk:k<P.m) (hik:i<k) {v B:List Int} (hB:(P.st (i+1)).B=v++a::B) (hv:∀e∈v,P.tl e=x) (ha:P.tl a=x) (hka:P.sh k=a):
 ∀ {t:Nat},i+1≤t→t≤k→∃Z,(P.st t).B=Z++a::B∧∀z∈Z,P.kJ x (P.tl z)
 |0,h1,_=>by omega
 |t+1,h1,h2=>by
  by_cases mL:t=i
  ·subst mL
   exact ⟨v,hB,fun z hz=>by rw [hv z hz];exact .refl⟩
  ·obtain ⟨Z,hZ,hr⟩:=vt hk hik hB hv ha hka (t:=t) (by omega) (by omega)
   obtain ⟨B2,xz,hc⟩:=j5 h (show t<P.m by omega)
   cases Z with
   |nil=>
    rw [hZ] at xz
    simp only [List.nil_append,List.cons.injEq] at xz
    have:=zw h hk (show t<P.m by omega) (hka.trans xz.1)
    omega
   |cons z Z=>
    rw [hZ] at xz
    simp only [List.cons_append,List.cons.injEq] at xz
    rcases hc with ⟨A',g1,g2,g3⟩|⟨g1,g3⟩
    ·refine ⟨P.outs (P.hd (P.sh t))++Z,by rw [g3, ← xz.2];simp,fun y hy=> ?_⟩
     rcases List.mem_append.1 hy with hy|hy
     ·rw [((h.bW _ _).1 hy).2]
      have:=hr z (List.mem_cons_self ..)
      rw [xz.1] at this
      exact .step this (zv h (by omega))
     ·exact hr y (List.mem_cons_of_mem _ hy)
    ·exact ⟨Z,by rw [g3, ← xz.2],fun y hy=>hr y (List.mem_cons_of_mem _ hy)⟩
theorem pg:∀ {d i j:Nat},j - i≤d→i<j→j<P.m→P.kJ (P.hd (P.sh i)) (P.tl (P.sh j))∨P.Lp L R (R (P.sh i)) (L (P.sh j))
 |0,i,j,hd,hij,_=>by omega
 |d+1,i,j,hd,hij,hj=>by
  have hi:=P.inv h j (by omega)
  have SD:=zv h (show i<P.m by omega)
  obtain ⟨B,hB⟩:=gq h hj
  obtain ⟨k,hr⟩:=hi.row
  have hin:=(qp h (show i<P.m by omega) (show j≤P.m by omega)).2 hij
  rcases ((hi.sh _).1 hin).2 with hA|hD
  ·right
   obtain ⟨u,w,hA⟩:=List.append_of_mem hA
   have hlk:=(nc h F hj).lk
   rw [hB,hA,show u++P.sh i::w++P.sh j::B=(u++ [P.sh i])++(w++P.sh j::B) by simp,cy,dJ] at hlk
   have Cd:=cy.1 hlk.2
   have h1:=zy (P:=P) (A:=w) (fun b hb=>((h.dy hr b).1 (by rw [hA];simp [hb])).1) Cd.1
   rw [← Cd.2.1] at h1
   exact h1
  ·generalize hx:P.hd (P.sh i)=x at hD
   have hxs:x≠P.src:=fun e=>by
    have:=(h.de x (P.sh i)).2 ⟨SD,hx⟩
    rw [e,h.vp] at this;cases this
   obtain ⟨i',B',q1,q2,q3,⟨u,q4⟩,q5,q6,q7⟩:=xT h F hxs (by omega) hD
   have JH:=(h.de x (P.sh i)).2 ⟨SD,hx⟩
   have hii:i<i'+1:=(qp h (show i<P.m by omega) (by omega)).1 (q5 _ JH)
   have hI:P.ins x≠ []:=fun h0=>by rw [h0] at JH;cases JH
   have hO:P.outs x≠ []:=fun h0=>by
    have:=(h.qm x hI).1 h0
    exact Dz h hj (this ▸ hD)
   obtain ⟨v,a,hv⟩:=gn hO
   have ha:=(h.bW x a).1 (by rw [hv];simp)
   obtain ⟨k2,hk2,hka⟩:=iq h ha.1
   have hik:i'<k2:=by
    refine Decidable.byContradiction fun hlt=> ?_
    have h1:a∈P.ru (i'+1):=hka ▸ (qp h hk2 (by omega)).2 (by omega)
    have hi':=P.inv h (i'+1) (by omega)
    obtain ⟨k3,SE⟩:=hi'.row
    have SF:a∈(P.st (i'+1)).B:=by rw [q6,hv];simp
    have MZ:=(h.dy SE a).1 (List.mem_append.2 (.inr SF))
    have bN:=h.mZ SE
    rw [List.nodup_append] at bN
    rcases ((hi'.sh a).1 h1).2 with h2|h2
    ·exact bN.2.2 a h2 a SF rfl
    ·exact MZ.2.2 h2
   have hlp:P.Lp L R (R (P.sh i)) (R a):=by
    obtain ⟨s,w,hs⟩:=List.append_of_mem JH
    have h1:=L0 h F hs q4
    rw [F.F5 q4 hv] at h1
    exact h1
   by_cases hjk:j≤k2
   ·left
    obtain ⟨Z,hZ,Ud⟩:=vt h F hk2 hik (x:=x) (a:=a) (v:=v) (B:=B') (by rw [q6,hv];simp) (fun e he=>((h.bW x e).1 (by rw [hv];simp [he])).2) ha.2 hka (t:=j) (by omega) hjk
    rw [hB] at hZ
    cases Z with
    |nil=>
     simp only [List.nil_append,List.cons.injEq] at hZ
     rw [hZ.1,ha.2];exact .refl
    |cons z Z=>
     simp only [List.cons_append,List.cons.injEq] at hZ
     rw [hZ.1];exact Ud z (List.mem_cons_self ..)
   ·rcases pg (d:=d) (i:=k2) (j:=j) (by omega) (by omega) hj with h1|h1
    ·left
     rw [hka] at h1
     have:P.kJ x (P.hd a):= .step (ha.2 ▸ .refl) ha.1
     exact this.trans h1
    ·right
     rw [hka] at h1
     exact hlp.trans h1
end
section
variable (h:P.Ok) {L R:Int→Int} {f0 f1:Int} {low:Int→Int} (F:P.fk L R f0 f1 low) {e f:Int} (he:P.E e) (hf:P.E f)
include h F he hf
theorem rS (hu:P.Lp L R (R e) (L f)):∃i j,i<j∧j<P.m∧P.sh i=e∧P.sh j=f:=by
 obtain ⟨i,hi,rfl⟩:=iq h he
 obtain ⟨j,hj,rfl⟩:=iq h hf
 exact ⟨i,j,E6 h F hi hj hu,hj,rfl,rfl⟩
end
theorem xU (h:P.Ok) {L R:Int→Int} {f0 f1:Int} {low:Int→Int} (F:P.fk L R f0 f1 low) {e f:Int} (he:P.E e) (hf:P.E f) (hne:e≠f):
 P.kJ (P.hd e) (P.tl f)∨P.kJ (P.hd f) (P.tl e)∨P.Lp L R (R e) (L f)∨P.Lp L R (R f) (L e):=by
 obtain ⟨i,hi,rfl⟩:=iq h he
 obtain ⟨j,hj,rfl⟩:=iq h hf
 rcases Nat.lt_trichotomy i j with h1|h1|h1
 ·rcases pg h F (d:=j - i) (Nat.le_refl _) h1 hj with h2|h2
  ·exact .inl h2
  ·exact .inr (.inr (.inl h2))
 ·exact absurd (by rw [h1]) hne
 ·rcases pg h F (d:=i - j) (Nat.le_refl _) h1 hi with h2|h2
  ·exact .inr (.inl h2)
  ·exact .inr (.inr (.inr h2))
section
variable (h:P.Ok) {L R:Int→Int} {f0 f1:Int} {low:Int→Int} (F:P.fk L R f0 f1 low) {e f:Int} (he:P.E e) (hf:P.E f)
include h F he hf
end
end Go.Ab
end
section
namespace Go.Ab
open Go.Proofs
attribute [local congr] ACall.congr gd.congr Nx.congr
set_option maxRecDepth 10000
set_option maxHeartbeats 8000000
def fO (f:Edge→Int) (es:List Edge) (k:Nat) (x:Nat):List Int:=((List.range k).filter fun i=>decide (f (es.getD i (0,0))=(x:Int))).map Int.ofNat
def oK (f:Edge→Int) (es:List Edge) (n k:Nat):List (List (List D)):=(List.range n).map fun x=>(fO f es k x).map rI
def sL (ls:List (List Int)):D:= .sl 1 (ls.map fun l=> [sI l])
def dw (f:Edge→Int) (g:Gr):List (List Int):=(List.range g.n.toNat).map (fO f g.es g.es.length)
def vw (g:Gr):D:= .pt [.sc (.int .i64 g.n),sE g.es,sL (dw (·.1) g),sL (dw (·.2) g)]
theorem aA {g:Gr} (h:aG g=true):0<g.n∧g.n≤64∧g.es.length≤128:=by
 simp [aG] at h;omega
theorem cM {g:Gr} (h:aG g=true) {k:Nat} (hk:k<g.es.length):(0≤(g.es.getD k (0,0)).1∧(g.es.getD k (0,0)).1<g.n)∧(0≤(g.es.getD k (0,0)).2∧(g.es.getD k (0,0)).2<g.n):=by
 have h2:=A1 (g:=g) hk
 rw [h] at h2
 have h3:¬oZ g (g.es.getD k (0,0))=true:=fun e=>by simpa using h2 e
 simp only [oZ,vk,Bool.or_eq_true,decide_eq_true_eq] at h3
 omega
theorem cj {f:Edge→Int} {es:List Edge} {n k:Nat} :(oK f es n k).length=n:=by simp [oK]
theorem kK {f:Edge→Int} {es:List Edge} {n k x:Nat} (hx:x<n):(oK f es n k)[x]? =some ((fO f es k x).map rI):=by
 simp [oK,List.getElem?_range hx]
theorem jh {f:Edge→Int} {es:List Edge} {k x:Nat} :(fO f es k x).length≤k:=by
 simpa [fO] using List.length_filter_le (fun i=>decide (f (es.getD i (0,0))=(x:Int))) (List.range k)
theorem CB {f:Edge→Int} {es:List Edge} {k x:Nat} :fO f es (k+1) x=fO f es k x++if f (es.getD k (0,0))=(x:Int) then [(k:Int)] else []:=by
 simp only [fO,List.range_succ,List.filter_append,List.map_append,List.filter_cons,List.filter_nil]
 split<;>simp_all
theorem vu {f:Edge→Int} {es:List Edge} {n k:Nat} (h0:0≤f (es.getD k (0,0))):
 (oK f es n k).set (f (es.getD k (0,0))).toNat ((fO f es k (f (es.getD k (0,0))).toNat).map rI++ [[.sc (.int .i64 k)]])=oK f es n (k+1):=by
 refine List.ext_getElem? fun i=> ?_
 rw [List.getElem?_set,cj]
 by_cases hi:i<n
 ·rw [kK hi,kK hi,CB]
  generalize f (es.getD k (0,0))=e at*
  by_cases hq:e=(i:Int)
  ·subst hq;simp [hi,rI]
  ·have:¬e.toNat=i:=by omega
   simp [hq,this]
 ·rw [List.getElem?_eq_none (by rw [cj];omega),List.getElem?_eq_none (by rw [cj];omega)]
  generalize f (es.getD k (0,0))=e at*
  split
  ·rename_i hq;rw [if_neg (by omega)]
  ·rfl
theorem vv {f:Edge→Int} {es:List Edge} {n:Nat} :List.replicate n []=oK f es n 0:=by
 refine List.ext_getElem? fun i=> ?_
 by_cases hi:i<n
 ·rw [kK hi];simp [hi,fO]
 ·rw [List.getElem?_eq_none (by simp;omega),List.getElem?_eq_none (by rw [cj];omega)]
theorem iT (g:Gr) (hm:aG g=true):Spec Tryz.prog 44 (Args [eG g]) [] (.d (vw g)) []:=by
 have hn:=aA hm
 have hl:g.es.length≤9223372036854775807:=by omega
 have hl':g.es.length≤1000000:=by omega
 (refine Spec.hd (C:=T.cfg [] [13,16]) (rs:= [.t 2]) (T.aj _ _) Tryz.func44 rfl rfl Tryz.ntmps44 Tryz.results44 (by simp [AObj.isNest]) (by simp [AObj.isNest]) (by kernel_rfl) T.mixed fun X hX hP hC aP bV=> ?_)
 repeat' (first|refine Rn.p ?_|(with_reducible apply And.intro)|((first|(refine hK _ ?_;clear hK K)|with_reducible intro K hK|refine Rs.p ?_|((with_reducible first|apply oP|apply oQ);exact rfl)|refine aa hX hC hP (gm g hl) rfl rfl rfl (by simp only [go_sem,simprocAttr,hm]) rfl ?_|refine aa hX hC hP (mX g.es hl') rfl rfl rfl (by simp only [go_sem,simprocAttr,hm]) rfl ?_);try simp only [go_sem,simprocAttr,hm])|((with_reducible refine oD ?_ ?_);kernel_rfl)|((with_reducible intro h);try simp only [go_sem,simprocAttr,hm] at h)|omega|intro h)
 refine AT hX 13 (by simp [go_sem,simprocAttr,hm];exact ⟨rfl,rfl,rfl,rfl⟩) (by decide) (by simp [go_sem,simprocAttr,hm]) (by simp [go_sem,simprocAttr,hm]) ?_
 refine AT hX 16 (by simp [go_sem,simprocAttr,hm];exact ⟨rfl,rfl,rfl,rfl⟩) (by decide) (by simp [go_sem,simprocAttr,hm]) (by simp [go_sem,simprocAttr,hm]) ?_
 simp only [go_sem,simprocAttr,hm]
 refine ai (fun k:Nat=>k≤g.es.length) (fun k=>⟨[(29,eN k),(28,eN g.es.length),(27, .d (sE g.es)),(3, .ptr 18 0)], [(18, .box [eN g.n, .d (sE g.es), .ref 13, .ref 16]),(16, .nest 31 3 1 (oK (·.2) g.es g.n.toNat k) none),(13, .nest 31 3 1 (oK (·.1) g.es g.n.toNat k) none)]⟩) (fun k=>g.es.length - k) 0 (by simp) ?_ ?_
 ·refine Le.of ?_ ?_<;>simp [go_sem,simprocAttr,hm]
  exact ⟨vv,vv⟩
 rintro k hk
 rcases Nat.lt_or_ge k g.es.length with hlt|hge
 ·have hb:decide ((k:Int)<(g.es.length:Int))=true:=decide_eq_true (by omega)
  obtain ⟨xJ,Ca⟩:=cM hm hlt
  have M0:=kK (f:=(·.1)) (es:=g.es) (k:=k) (show (g.es.getD k (0,0)).1.toNat<g.n.toNat by omega)
  have Jg:=kK (f:=(·.2)) (es:=g.es) (k:=k) (show (g.es.getD k (0,0)).2.toNat<g.n.toNat by omega)
  have Jh:=jh (f:=(·.1)) (es:=g.es) (k:=k) (x:=(g.es.getD k (0,0)).1.toNat)
  have Cd:=jh (f:=(·.2)) (es:=g.es) (k:=k) (x:=(g.es.getD k (0,0)).2.toNat)
  repeat' (first|refine Rn.p ?_|(with_reducible apply And.intro)|((first|(refine hK _ ?_;clear hK K)|with_reducible intro K hK|refine Rs.p ?_|((with_reducible first|apply oP|apply oQ);exact rfl)|refine aa hX hC hP (gm g hl) rfl rfl rfl (by simp only [go_sem,simprocAttr,hm,hb,M0,Jg,cj]) rfl ?_|refine aa hX hC hP (mX g.es hl') rfl rfl rfl (by simp only [go_sem,simprocAttr,hm,hb,M0,Jg,cj]) rfl ?_);try simp only [go_sem,simprocAttr,hm,hb,M0,Jg,cj])|((with_reducible refine oD ?_ ?_);first|(focus (simp only [Ax,nS,iN,meets,uZ,oX,EI,dO,qg,oI,Rec.rs,Rec.q9,Rec.KP,gh,Rec.dH,Rec.names,KV.ids,GZ,G0,G1,G2,G3,G4,List.zip_cons_cons,List.zip_nil_right,List.zipIdx_cons,List.zipIdx_nil,List.all_cons,List.all_nil,List.contains_cons,List.contains_nil,List.any_cons,List.any_nil,List.flatMap_nil,List.reverse_cons,List.reverse_nil,kj,EH,Region.binds,go_sem,simprocAttr,hm,hb,M0,Jg,cj];done))|kernel_rfl)|((with_reducible intro h);try simp only [go_sem,simprocAttr,hm,hb,M0,Jg,cj] at h)|omega|intro h)
  refine ⟨k+1,by omega, ?_,by omega⟩
  refine Le.of ?_ ?_<;>simp [go_sem,simprocAttr,hm,hb,M0,Jg,cj]
  exact ⟨vu (f:=(·.2)) Ca.1,vu (f:=(·.1)) xJ.1⟩
 ·repeat' (first|refine Rn.p ?_|(with_reducible apply And.intro)|((first|(refine hK _ ?_;clear hK K)|with_reducible intro K hK|refine Rs.p ?_|((with_reducible first|apply oP|apply oQ);exact rfl)|refine aa hX hC hP (gm g hl) rfl rfl rfl (by simp only [go_sem,simprocAttr]) rfl ?_|refine aa hX hC hP (mX g.es hl') rfl rfl rfl (by simp only [go_sem,simprocAttr]) rfl ?_);try simp only [go_sem,simprocAttr])|((with_reducible refine oD ?_ ?_);first|(focus (simp only [Ax,nS,iN,meets,uZ,oX,EI,dO,qg,oI,Rec.rs,Rec.q9,Rec.KP,gh,Rec.dH,Rec.names,KV.ids,GZ,G0,G1,G2,G3,G4,List.zip_cons_cons,List.zip_nil_right,List.zipIdx_cons,List.zipIdx_nil,List.all_cons,List.all_nil,List.contains_cons,List.contains_nil,List.any_cons,List.any_nil,List.flatMap_nil,List.reverse_cons,List.reverse_nil,kj,EH,Region.binds,go_sem,simprocAttr];done))|kernel_rfl)|((with_reducible intro h);try simp only [go_sem,simprocAttr] at h)|omega|intro h)
  have:k=g.es.length:=by omega
  subst this
  simp only [vw,sE,sL,dw,oK,List.map_map]
  rfl
end Go.Ab
end
section
namespace Go.Ab
open Go.Proofs
attribute [local congr] ACall.congr gd.congr Nx.congr
set_option maxRecDepth 10000
def tl (g:Gr) (i:Nat):Int:=(g.es.getD i (0,0)).1
def hd (g:Gr) (i:Nat):Int:=(g.es.getD i (0,0)).2
def wt (g:Gr) (out:List Int) (y:Nat):Int:=
 if (y:Int)∈out then -1 else (((List.range g.es.length).countP fun i=>decide (hd g i=(y:Int))&& !decide (tl g i∈out):Nat):Int)
def cI (g:Gr) (out:List Int):List Int:=(List.range g.n.toNat).map (wt g out)
def xA (g:Gr):Nat→List Int→List Int
 |0,out=>out
 |f+1,out=>if fY (cI g out) 0<0 then out else xA g f (out++ [fY (cI g out) 0])
def aR (g:Gr):List Int:=xA g g.n.toNat []
structure ff (g:Gr) (out:List Int):Prop where
 lo:∀x∈out,0≤x∧x<g.n
 back:∀i,i<g.es.length→hd g i∈out→tl g i∈out
 fuel:out.length+(List.range g.n.toNat).countP (fun y:Nat=> !decide ((y:Int)∈out))=g.n.toNat
theorem gN {α:Type} {f:α→Bool} {l:List α} (d:α):bQ f l= -1∧(∀x∈l,f x=false)∨∃k:Nat,bQ f l=k∧k<l.length∧f (l.getD k d)=true∧∀j,j<k→f (l.getD j d)=false:=by
 cases h:l.findIdx? f with
 |none=>
  rw [List.findIdx?_eq_none_iff] at h
  exact .inl ⟨by simp [bQ,List.findIdx?_eq_none_iff.2 h],h⟩
 |some i=>
  obtain ⟨hi,hg,hb⟩:=List.findIdx?_eq_some_iff_getElem.1 h
  refine .inr ⟨i,by simp [bQ,h],hi,by simpa [List.getD_eq_getElem?_getD,List.getElem?_eq_getElem hi] using hg,fun j hj=> ?_⟩
  have hjl:j<l.length:=by omega
  have:=hb j hj
  simpa [List.getD_eq_getElem?_getD,List.getElem?_eq_getElem hjl] using this
theorem wts_length {g:Gr} {out:List Int} :(cI g out).length=g.n.toNat:=by simp [cI]
theorem ng {g:Gr} {out:List Int} {y:Nat} (h:y<g.n.toNat) (d:Int):(cI g out).getD y d=wt g out y:=by
 simp [cI,List.getD_eq_getElem?_getD,List.getElem?_range h]
theorem nh {p:Nat→Bool} {x:Nat} (hx:p x=true):∀ {n:Nat},x<n→(List.range n).countP (fun y=>p y&& !decide (y=x))+1=(List.range n).countP p
 |0,h=>by omega
 |n+1,h=>by
  rw [List.range_succ,List.countP_append,List.countP_append]
  by_cases DA:x=n
  ·subst DA
   have:(List.range x).countP (fun y=>p y&& !decide (y=x))=(List.range x).countP p:=by
    refine List.countP_congr fun y hy=> ?_
    have:y≠x:=by have:=List.mem_range.1 hy;omega
    simp [this]
   rw [this]
   simp [List.countP_cons,hx]
  ·have:=nh hx (n:=n) (by omega)
   have hn:n≠x:=fun e=>DA e.symm
   simp only [List.countP_cons,List.countP_nil,hn,decide_false,Bool.not_false,Bool.and_true]
   omega
theorem ff.nil (g:Gr):ff g []:=⟨by simp,by simp,by rw [List.countP_eq_length_filter,List.filter_eq_self.2 (by simp)];simp⟩
theorem ff.next {g:Gr} (hm:aG g=true) {out:List Int} (h:ff g out) {x:Nat} (hx:x<g.n.toNat) (hw:wt g out x=0):ff g (out++ [(x:Int)])∧(x:Int)∉out∧(∀i,i<g.es.length→hd g i=x→tl g i∈out):=by
 have mJ:(x:Int)∉out:=fun hi=>by simp [wt,hi] at hw
 have hb:∀i,i<g.es.length→hd g i=x→tl g i∈out:=by
  intro i hi he
  simp only [wt,mJ,if_false] at hw
  have:=List.countP_eq_zero.1 (Int.ofNat.inj hw) i (List.mem_range.2 hi)
  simpa [he] using this
 refine ⟨⟨?_, ?_, ?_⟩,mJ,hb⟩
 ·intro y hy
  rcases List.mem_append.1 hy with hy|hy
  ·exact h.lo y hy
  ·simp at hy;omega
 ·intro i hi hh
  rcases List.mem_append.1 hh with hh|hh
  ·exact List.mem_append_left _ (h.back i hi hh)
  ·simp at hh
   exact List.mem_append_left _ (hb i hi hh)
 ·have h1:=h.fuel
  have h2:=nh (p:=fun y:Nat=> !decide ((y:Int)∈out)) (x:=x) (by simp [mJ]) hx
  have h3:(List.range g.n.toNat).countP (fun y:Nat=> !decide ((y:Int)∈out++ [(x:Int)]))=(List.range g.n.toNat).countP (fun y:Nat=>(!decide ((y:Int)∈out))&& !decide (y=x)):=by
   refine List.countP_congr fun y _=> ?_
   simp;omega
  rw [h3,List.length_append,List.length_singleton]
  omega
def jQ (g:Gr) (x:Nat):List Int:=fO (·.1) g.es g.es.length x
def rV (g:Gr) (x:Nat):List Int:=fO (·.2) g.es g.es.length x
theorem Hy {g:Gr} {x:Nat} {e:Int} (h:e∈jQ g x):∃i:Nat,e=i∧i<g.es.length∧tl g i=x:=by
 simp only [jQ,fO,List.mem_map,List.mem_filter,List.mem_range,decide_eq_true_eq] at h
 obtain ⟨i,⟨h1,h2⟩,rfl⟩:=h
 exact ⟨i,rfl,h1,h2⟩
def F6 (g:Gr) (out:List Int) (x j y:Nat):Int:=
 if (y:Int)∈out++ [(x:Int)] then -1 else (((List.range g.es.length).countP fun i=>decide (hd g i=(y:Int))&& !decide (tl g i∈out):Nat):Int) - (((jQ g x).take j).countP fun e=>decide (hd g e.toNat=(y:Int)):Nat)
def xB (g:Gr) (out:List Int) (x j:Nat):List Int:=(List.range g.n.toNat).map (F6 g out x j)
theorem wtps_length {g:Gr} {out:List Int} {x j:Nat} :(xB g out x j).length=g.n.toNat:=by simp [xB]
theorem qt {g:Gr} {out:List Int} {x j y:Nat} (h:y<g.n.toNat):(xB g out x j)[y]? =some (F6 g out x j y):=by
 simp [xB,List.getElem?_range h]
theorem lV {g:Gr} {out:List Int} {y:Nat} (h:y<g.n.toNat):(cI g out)[y]? =some (wt g out y):=by
 simp [cI,List.getElem?_range h]
theorem E7 {g:Gr} {out:List Int} {x:Nat} :(cI g out).set x (-1)=xB g out x 0:=by
 refine List.ext_getElem? fun i=> ?_
 rw [List.getElem?_set,wts_length]
 by_cases hi:i<g.n.toNat
 ·rw [lV hi,qt hi]
  by_cases hx:x=i
  ·subst hx;simp [hi,F6]
  ·have:¬i=x:=fun e=>hx e.symm
   simp only [hx,if_false,F6,wt,List.mem_append,List.mem_singleton,List.take_zero,List.countP_nil]
   have h2:¬(i:Int)=(x:Int):=by omega
   simp [h2]
 ·rw [List.getElem?_eq_none (by rw [wts_length];omega),List.getElem?_eq_none (by rw [wtps_length];omega)]
  split
  ·rw [if_neg (by omega)]
  ·rfl
theorem lW {α:Type} {p q r:α→Bool} :∀ {l:List α},(∀a∈l,p a=(q a||r a)∧(q a&&r a)=false)→l.countP p=l.countP q+l.countP r
 | [],_=>rfl
 |a::l,h=>by
  obtain ⟨h1,h2⟩:=h a List.mem_cons_self
  have:=lW (l:=l) fun b hb=>h b (List.mem_cons_of_mem _ hb)
  simp only [List.countP_cons,this,h1]
  cases hq:q a<;>cases hr:r a<;>simp [hq,hr] at h2 ⊢ <;>omega
theorem Hz {g:Gr} {out:List Int} {x j:Nat} (hx:(x:Int)∉out) (hj:(jQ g x).length≤j):xB g out x j=cI g (out++ [(x:Int)]):=by
 refine List.map_congr_left fun y _=> ?_
 simp only [F6,wt]
 split
 ·rfl
 ·rw [List.take_of_length_le hj]
  have h1:(jQ g x).countP (fun e=>decide (hd g e.toNat=(y:Int)))=(List.range g.es.length).countP (fun i=>decide (hd g i=(y:Int))&&decide (tl g i=(x:Int))):=by
   simp only [jQ,fO,List.countP_map,List.countP_filter]
   exact List.countP_congr fun i _=>by simp [tl]
  have h2:=lW (p:=fun i=>decide (hd g i=(y:Int))&& !decide (tl g i∈out)) (q:=fun i=>decide (hd g i=(y:Int))&& !decide (tl g i∈out++ [(x:Int)])) (r:=fun i=>decide (hd g i=(y:Int))&&decide (tl g i=(x:Int))) (l:=List.range g.es.length) (fun i _=>by
   by_cases h3:tl g i=x
   ·simp [h3,hx]
   ·simp [h3])
  rw [h1,h2];omega
theorem L3 {g:Gr} {out:List Int} {x:Nat} (hP:ff g out) (mJ:(x:Int)∉out) (hb:∀i,i<g.es.length→hd g i=x→tl g i∈out) {i:Nat} (hi:i<g.es.length) (ht:tl g i=x):hd g i∉out++ [(x:Int)]:=by
 intro h
 rcases List.mem_append.1 h with h|h
 ·exact mJ (ht ▸ hP.back i hi h)
 ·simp at h
  exact mJ (ht ▸ hb i hi h)
theorem E8 {g:Gr} {out:List Int} {x j i:Nat} (hj:(jQ g x)[j]? =some (i:Int)) (h0:0≤hd g i) (hn:hd g i∉out++ [(x:Int)]):
 (xB g out x j).set (hd g i).toNat (F6 g out x j (hd g i).toNat - 1)=xB g out x (j+1):=by
 refine List.ext_getElem? fun y=> ?_
 rw [List.getElem?_set,wtps_length]
 by_cases hy:y<g.n.toNat
 ·rw [qt hy,qt hy]
  have ht:((jQ g x).take (j+1)).countP (fun e=>decide (hd g e.toNat=(y:Int)))=((jQ g x).take j).countP (fun e=>decide (hd g e.toNat=(y:Int)))+if hd g i=(y:Int) then 1 else 0:=by
   rw [List.take_add_one,List.countP_append,hj]
   simp [List.countP_cons]
  by_cases hq:(hd g i).toNat=y
  ·subst hq
   have he:((hd g i).toNat:Int)=hd g i:=by omega
   rw [if_pos rfl,if_pos (by assumption)]
   rw [he,if_pos rfl] at ht
   simp only [F6,he,hn,if_false,ht]
   congr 1;omega
  ·rw [if_neg hq]
   have nN:¬hd g i=(y:Int):=by omega
   simp only [F6,ht,nN,if_false,Nat.add_zero]
 ·rw [List.getElem?_eq_none (by rw [wtps_length];omega),List.getElem?_eq_none (by rw [wtps_length];omega)]
  split
  ·rw [if_neg (by omega)]
  ·rfl
def J0 (f:Edge→Int) (g:Gr):List (List D):=(dw f g).map fun l=> [sI l]
theorem qu {f:Edge→Int} {g:Gr} {x:Nat} (h:x<g.n.toNat) (d:List D):(J0 f g).getD x d= [sI (fO f g.es g.es.length x)]:=by
 simp [J0,dw,List.getD_eq_getElem?_getD,List.getElem?_range h]
theorem vwl_length {f:Edge→Int} {g:Gr} :(J0 f g).length=g.n.toNat:=by simp [J0,dw]
def M1 (g:Gr):D:= .pt [.sc (.int .i64 g.n),sE g.es, .sl 1 (J0 (·.1) g), .sl 1 (J0 (·.2) g)]
theorem aB (g:Gr):vw g=M1 g:=rfl
attribute [go_sem] M1 wtps_length wts_length vwl_length
theorem HA {g:Gr} {k:Nat} (h:k<g.n.toNat):(cI g []).take (k+1)=(cI g []).take k++ [((rV g k).length:Int)]:=by
 rw [List.take_add_one,lV h]
 simp [wt,rV,fO,hd,List.countP_eq_length_filter]
theorem E9 {g:Gr} (hm:aG g=true) {out:List Int} {x j y:Nat} : -1000≤F6 g out x j y∧F6 g out x j y≤1000:=by
 have hn:=aA hm
 have h1:=List.countP_le_length (p:=fun i=>decide (hd g i=(y:Int))&& !decide (tl g i∈out)) (l:=List.range g.es.length)
 have h2:=List.countP_le_length (p:=fun e:Int=>decide (hd g e.toNat=(y:Int))) (l:=(jQ g x).take j)
 have h3:((jQ g x).take j).length≤g.es.length:=Nat.le_trans (List.length_take_le' _ _) jh
 simp only [List.length_range] at h1
 unfold F6
 split<;>omega
theorem Bb {g:Gr} {out:List Int} (h:fY (cI g out) 0<0):∀f,xA g f out=out
 |0=>rfl
 |f+1=>by simp [xA,h]
def left (g:Gr) (out:List Int):Nat:=(List.range g.n.toNat).countP (fun y:Nat=> !decide ((y:Int)∈out))
theorem xV {g:Gr} {out:List Int} {x:Nat} (h:ff g out) (h':ff g (out++ [(x:Int)])):left g out=left g (out++ [(x:Int)])+1:=by
 have h1:=h.fuel
 have h2:=h'.fuel
 rw [List.length_append,List.length_singleton] at h2
 unfold left;omega
theorem Oz {g:Gr} (out:List Int):fY (cI g out) 0= -1∨∃x:Nat,fY (cI g out) 0=x∧x<g.n.toNat∧wt g out x=0:=by
 rcases gN (f:=fun y:Int=>decide (0=y)) (l:=cI g out) 0 with ⟨h,_⟩|⟨k,h1,h2,h3,_⟩
 ·exact .inl h
 ·rw [wts_length] at h2
  rw [ng h2] at h3
  exact .inr ⟨k,h1,h2,by simpa using (of_decide_eq_true h3).symm⟩
theorem kL (g:Gr) (hm:aG g=true):Spec Tryz.prog 176 (Args [.d (vw g)]) [] (.tup [.d (sI (aR g)), .d (sI (cI g (aR g)))]) []:=by
 rw [aB]
 have hn:=aA hm
 (refine Spec.hd (C:=T.cfg [22] []) (rs:= [.t 2, .t 3]) (T.aj _ _) Tryz.func176 rfl rfl Tryz.ntmps176 Tryz.results176 (by simp [AObj.isNest]) (by simp [AObj.isNest]) (by kernel_rfl) T.mixed fun X hX hP hC aP bV=> ?_)
 repeat' (first|refine Rn.p ?_|(with_reducible apply And.intro)|((first|(refine hK _ ?_;clear hK K)|with_reducible intro K hK|refine Rs.p ?_|((with_reducible first|apply oP|apply oQ);exact rfl)|(refine ah hX hC hP (aW (cI g out) 0 DB) rfl rfl rfl ?_ ?_ ?_ ?_;iterate 3 (focus (simp only [go_sem,simprocAttr];done))));try simp only [go_sem,simprocAttr])|((with_reducible refine oD ?_ ?_);kernel_rfl)|((with_reducible intro h);try simp only [go_sem,simprocAttr] at h)|omega|intro h)
 (refine dU hX 3 22 (.own 3 1 []) (by simp only [go_sem,simprocAttr]) (by simp only [go_sem,simprocAttr]) (by decide) ⟨3,1,by decide, .inl rfl⟩ ?_;simp only [go_sem,simprocAttr])
 refine ai (fun k:Nat=>k≤g.n.toNat) (fun k=>⟨[(14,eN k),(13,eN g.n.toNat),(12, .d (.sl 1 (J0 (·.2) g))),(3, .ref 22),(2, .nil 3),(0, .d (M1 g))], [(22, .own 3 1 (((cI g []).take k).map rI))]⟩) (fun k=>g.n.toNat - k) 0 (by simp) ?_ ?_
 ·(refine Le.of ?_ ?_<;>simp [go_sem,simprocAttr])
 ·rintro k hk
  rcases Nat.lt_or_ge k g.n.toNat with hlt|hge
  ·have hb:decide ((k:Int)<(g.n.toNat:Int))=true:=decide_eq_true (by omega)
   have hv:=qu (f:=(·.2)) hlt
   have Jh:(rV g k).length≤g.es.length:=jh
   have hlt':((cI g []).take k).length≤64:=by rw [List.length_take,wts_length];omega
   repeat' (first|refine Rn.p ?_|(with_reducible apply And.intro)|((first|(refine hK _ ?_;clear hK K)|with_reducible intro K hK|refine Rs.p ?_|((with_reducible first|apply oP|apply oQ);exact rfl)|(refine ah hX hC hP (aW (cI g out) 0 DB) rfl rfl rfl ?_ ?_ ?_ ?_;iterate 3 (focus (simp only [go_sem,simprocAttr,hb,hv];done))));try simp only [go_sem,simprocAttr,hb,hv])|((with_reducible refine oD ?_ ?_);kernel_rfl)|((with_reducible intro h);try simp only [go_sem,simprocAttr,hb,hv] at h)|omega|intro h)
   refine ⟨k+1,by omega, ?_,by omega⟩
   refine Le.of ?_ ?_<;>simp [go_sem,simprocAttr,hb,hv,HA hlt]
   rfl
  ·obtain rfl:k=g.n.toNat:=by omega
   have hb:decide ((g.n.toNat:Int)<(g.n.toNat:Int))=false:=decide_eq_false (by omega)
   have ht:(cI g []).take g.n.toNat=cI g []:=List.take_of_length_le (by rw [wts_length];omega)
   repeat' (first|refine Rn.p ?_|(with_reducible apply And.intro)|((first|(refine hK _ ?_;clear hK K)|with_reducible intro K hK|refine Rs.p ?_|((with_reducible first|apply oP|apply oQ);exact rfl)|(refine ah hX hC hP (aW (cI g out) 0 DB) rfl rfl rfl ?_ ?_ ?_ ?_;iterate 3 (focus (simp only [go_sem,simprocAttr,hb,ht];done))));try simp only [go_sem,simprocAttr,hb,ht])|((with_reducible refine oD ?_ ?_);kernel_rfl)|((with_reducible intro h);try simp only [go_sem,simprocAttr,hb,ht] at h)|omega|intro h)
   (refine dU hX 2 33 (.tip 3 1 []) (by simp only [go_sem,simprocAttr,hb,ht]) (by simp only [go_sem,simprocAttr,hb,ht]) (by decide) ⟨3,1,by decide, .inr rfl⟩ ?_;simp only [go_sem,simprocAttr,hb,ht])
   refine ai (fun out:List Int=>ff g out∧xA g (left g out) out=aR g) (fun out=>⟨[(3, .ref 22),(2, .ref 33),(0, .d (M1 g))], [(22, .own 3 1 ((cI g out).map rI)),(33, .tip 3 1 (out.map rI))]⟩) (left g) [] ⟨ff.nil g, ?_⟩ ?_ ?_
   ·have:=(ff.nil g).fuel
    simp only [List.length_nil,Nat.zero_add] at this
    unfold left aR
    rw [this]
   ·(refine Le.of ?_ ?_<;>simp [go_sem,simprocAttr,hb,ht])
   rintro out ⟨bZ,hrun⟩
   have DB:(cI g out).length≤9223372036854775807:=by rw [wts_length];omega
   have hout:out.length≤64:=by have:=bZ.fuel;omega
   rcases Oz (g:=g) out with hx|⟨x,hx,DA,hw0⟩
   ·have hr:=Bb (g:=g) (out:=out) (by omega) (left g out)
    rw [hrun] at hr
    repeat' (first|refine Rn.p ?_|(with_reducible apply And.intro)|((first|(refine hK _ ?_;clear hK K)|with_reducible intro K hK|refine Rs.p ?_|((with_reducible first|apply oP|apply oQ);exact rfl)|(refine ah hX hC hP (aW (cI g out) 0 DB) rfl rfl rfl ?_ ?_ ?_ ?_;iterate 3 (focus (simp only [go_sem,simprocAttr,hx];done))));try simp only [go_sem,simprocAttr,hx])|((with_reducible refine oD ?_ ?_);kernel_rfl)|((with_reducible intro h);try simp only [go_sem,simprocAttr,hx] at h)|omega|intro h)
    ·rw [hr]
    ·rw [hr]
   ·obtain ⟨rK,mJ,CC⟩:=bZ.next hm DA hw0
    have hb1:decide ((x:Int)<0)=false:=decide_eq_false (by omega)
    have hv:=qu (f:=(·.1)) DA
    have Jh:(jQ g x).length≤g.es.length:=jh
    repeat' (first|refine Rn.p ?_|(with_reducible apply And.intro)|((first|(refine hK _ ?_;clear hK K)|with_reducible intro K hK|refine Rs.p ?_|((with_reducible first|apply oP|apply oQ);exact rfl)|(refine ah hX hC hP (aW (cI g out) 0 DB) rfl rfl rfl ?_ ?_ ?_ ?_;iterate 3 (focus (simp only [go_sem,simprocAttr,hx,hb1,hv];done))));try simp only [go_sem,simprocAttr,hx,hb1,hv])|((with_reducible refine oD ?_ ?_);kernel_rfl)|((with_reducible intro h);try simp only [go_sem,simprocAttr,hx,hb1,hv] at h)|omega|intro h)
    refine ai (fun j:Nat=>j≤(jQ g x).length) (fun j=>⟨[(45,eN j),(44,eN (jQ g x).length),(43, .d (sI (jQ g x))),(3, .ref 22),(2, .ref 33),(0, .d (M1 g))], [(22, .own 3 1 ((xB g out x j).map rI)),(33, .tip 3 1 ((out++ [(x:Int)]).map rI))]⟩) (fun j=>(jQ g x).length - j) 0 (by simp) ?_ ?_
    ·refine Le.of ?_ ?_<;>simp [go_sem,simprocAttr,hx,hb1,hv,jQ,rI]
     rw [← E7,List.map_set];rfl
    rintro j hj
    rcases Nat.lt_or_ge j (jQ g x).length with hlt|hge
    ·have hb2:decide ((j:Int)<((jQ g x).length:Int))=true:=decide_eq_true (by omega)
     obtain ⟨i,hi,hil,hit⟩:=Hy (List.getElem_mem hlt)
     have hi1:(jQ g x)[j]? =some (i:Int):=by rw [List.getElem?_eq_getElem hlt,hi]
     have hi2:(jQ g x).getD j 0=(i:Int):=by rw [List.getD_eq_getElem?_getD,hi1];rfl
     have hnew:=L3 bZ mJ CC hil hit
     obtain ⟨_,L4,xJ⟩:=cM hm hil
     have hnext:=E8 hi1 L4 hnew
     have hw:(xB g out x j).getD (g.es.getD i (0,0)).2.toNat 0=F6 g out x j (hd g i).toNat:=by
      rw [List.getD_eq_getElem?_getD,qt (by omega)];rfl
     have hbd:=E9 hm (out:=out) (x:=x) (j:=j) (y:=(hd g i).toNat)
     repeat' (first|refine Rn.p ?_|(with_reducible apply And.intro)|((first|(refine hK _ ?_;clear hK K)|with_reducible intro K hK|refine Rs.p ?_|((with_reducible first|apply oP|apply oQ);exact rfl)|(refine ah hX hC hP (aW (cI g out) 0 DB) rfl rfl rfl ?_ ?_ ?_ ?_;iterate 3 (focus (simp only [go_sem,simprocAttr,hb2,hi2,hw];done))));try simp only [go_sem,simprocAttr,hb2,hi2,hw])|((with_reducible refine oD ?_ ?_);kernel_rfl)|((with_reducible intro h);try simp only [go_sem,simprocAttr,hb2,hi2,hw] at h)|omega|intro h)
     refine ⟨j+1,by omega, ?_,by omega⟩
     refine Le.of ?_ ?_<;>simp [go_sem,simprocAttr,hb2,hi2,hw]
     rw [← hnext,List.map_set];rfl
    ·have hb2:decide ((j:Int)<((jQ g x).length:Int))=false:=decide_eq_false (by omega)
     repeat' (first|refine Rn.p ?_|(with_reducible apply And.intro)|((first|(refine hK _ ?_;clear hK K)|with_reducible intro K hK|refine Rs.p ?_|((with_reducible first|apply oP|apply oQ);exact rfl)|(refine ah hX hC hP (aW (cI g out) 0 DB) rfl rfl rfl ?_ ?_ ?_ ?_;iterate 3 (focus (simp only [go_sem,simprocAttr,hb2];done))));try simp only [go_sem,simprocAttr,hb2])|((with_reducible refine oD ?_ ?_);kernel_rfl)|((with_reducible intro h);try simp only [go_sem,simprocAttr,hb2] at h)|omega|intro h)
     have HB:=xV bZ rK
     refine ⟨out++ [(x:Int)],⟨rK, ?_⟩, ?_,by omega⟩
     ·rw [← hrun,HB]
      simp only [xA,hx]
      rw [if_neg (by omega)]
     ·refine Le.of ?_ ?_<;>simp [go_sem,simprocAttr,hb2,Hz mJ hge]
end Go.Ab
end
section
namespace Go.Ab
open Go.Proofs
attribute [local congr] ACall.congr gd.congr Nx.congr
set_option maxRecDepth 10000
def mB (l:List Int) (k:Nat):List Int:=(List.range l.length).map fun p=>if p<k∨l.length - 1<p+k then l.getD (l.length - 1 - p) 0 else l.getD p 0
theorem dg {l:List Int} {k:Nat} :(mB l k).length=l.length:=by simp [mB]
theorem kM {l:List Int} {k p:Nat} (h:p<l.length):(mB l k)[p]? =some (if p<k∨l.length - 1<p+k then l.getD (l.length - 1 - p) 0 else l.getD p 0):=by
 simp [mB,List.getElem?_range h]
theorem vA {l:List Int} {k p:Nat} (h:p<l.length) (d:Int):(mB l k).getD p d=if p<k∨l.length - 1<p+k then l.getD (l.length - 1 - p) 0 else l.getD p 0:=by
 rw [List.getD_eq_getElem?_getD,kM h];rfl
theorem CD {l:List Int} :mB l 0=l:=by
 refine List.ext_getElem? fun i=> ?_
 by_cases hi:i<l.length
 ·rw [kM hi,if_neg (by omega),List.getD_eq_getElem?_getD,List.getElem?_eq_getElem hi];rfl
 ·rw [List.getElem?_eq_none (by rw [dg];omega),List.getElem?_eq_none (by omega)]
theorem Fa {l:List Int} {k:Nat} (h:l.length≤2*k+1):mB l k=l.reverse:=by
 refine List.ext_getElem? fun i=> ?_
 by_cases hi:i<l.length
 ·rw [kM hi,List.getElem?_reverse hi]
  split
  ·rw [List.getD_eq_getElem?_getD,List.getElem?_eq_getElem (by omega)];rfl
  ·have:i=l.length - 1 - i:=by omega
   rw [← this,List.getD_eq_getElem?_getD,List.getElem?_eq_getElem hi];rfl
 ·rw [List.getElem?_eq_none (by rw [dg];omega),List.getElem?_eq_none (by rw [List.length_reverse];omega)]
theorem CE {l:List Int} {k:Nat} (h:k<l.length - 1 - k):((mB l k).set k ((mB l k).getD (l.length - 1 - k) 0)).set (l.length - 1 - k) ((mB l k).getD k 0)=mB l (k+1):=by
 refine List.ext_getElem? fun i=> ?_
 rw [List.getElem?_set,List.length_set,dg,List.getElem?_set,dg]
 by_cases hi:i<l.length
 ·rw [kM hi,kM hi,vA (by omega),vA (by omega)]
  by_cases h1:l.length - 1 - k=i
  ·rw [if_pos h1,if_pos (by omega),if_neg (by omega),if_pos (by omega)]
   congr 2;omega
  ·rw [if_neg h1]
   by_cases h2:k=i
   ·rw [if_pos h2,if_pos (by omega),if_neg (by omega),if_pos (by omega)]
    congr 2;omega
   ·rw [if_neg h2]
    congr 1
    by_cases h3:i<k∨l.length - 1<i+k
    ·rw [if_pos h3,if_pos (by omega)]
    ·rw [if_neg h3,if_neg (by omega)]
 ·rw [List.getElem?_eq_none (by rw [dg];omega),List.getElem?_eq_none (by rw [dg];omega),if_neg (by omega),if_neg (by omega)]
theorem eO (l:List Int) (hl:l.length≤1000000):Spec Tryz.prog 86 (Args [.ref 10000]) [(10000, .part 3 1 (l.map rI))] (.tup []) [(10000, .part 3 1 (l.reverse.map rI))]:=by
 (refine Spec.hd (C:=T.cfg [] []) (rs:= []) (T.aj _ _) Tryz.func86 rfl rfl Tryz.ntmps86 Tryz.results86 (by simp [AObj.isNest]) (by simp [AObj.isNest]) (by kernel_rfl) T.mixed fun X hX hP hC aP bV=> ?_)
 repeat' (first|refine Rn.p ?_|(with_reducible apply And.intro)|((first|(refine hK _ ?_;clear hK K)|with_reducible intro K hK|refine Rs.p ?_|((with_reducible first|apply oP|apply oQ);exact rfl));try simp only [go_sem,simprocAttr])|((with_reducible refine oD ?_ ?_);kernel_rfl)|((with_reducible intro h);try simp only [go_sem,simprocAttr] at h)|omega|intro h)
 refine ai (fun k:Nat=>2*k≤l.length+1) (fun k=>⟨[(0, .ref 10000),(2,eN k),(3,eN ((l.length:Int) - 1 - k))], [(10000, .part 3 1 ((mB l k).map rI))]⟩) (fun k=>l.length+1 - k) 0 (by omega) ?_ ?_
 ·refine Le.of ?_ ?_<;>simp [go_sem,simprocAttr,CD]
 rintro k hk
 rcases Nat.lt_or_ge (2*k+1) l.length with hlt|hge
 ·have hb:decide ((k:Int)<(l.length:Int) - 1 - (k:Int))=true:=decide_eq_true (by omega)
  have ht:((l.length:Int) - 1 - (k:Int)).toNat=l.length - 1 - k:=by omega
  repeat' (first|refine Rn.p ?_|(with_reducible apply And.intro)|((first|(refine hK _ ?_;clear hK K)|with_reducible intro K hK|refine Rs.p ?_|((with_reducible first|apply oP|apply oQ);exact rfl));try simp only [go_sem,simprocAttr,hb,ht,dg,G7])|((with_reducible refine oD ?_ ?_);kernel_rfl)|((with_reducible intro h);try simp only [go_sem,simprocAttr,hb,ht,dg,G7] at h)|omega|intro h)
  refine ⟨k+1,by omega, ?_,by omega⟩
  refine Le.of ?_ ?_<;>simp [go_sem,simprocAttr]
  ·omega
  ·rw [← CE (by omega),List.map_set,List.map_set]
   simp only [List.getD_eq_getElem?_getD]
 ·have hb:decide ((k:Int)<(l.length:Int) - 1 - (k:Int))=false:=decide_eq_false (by omega)
  repeat' (first|refine Rn.p ?_|(with_reducible apply And.intro)|((first|(refine hK _ ?_;clear hK K)|with_reducible intro K hK|refine Rs.p ?_|((with_reducible first|apply oP|apply oQ);exact rfl));try simp only [go_sem,simprocAttr,hb])|((with_reducible refine oD ?_ ?_);kernel_rfl)|((with_reducible intro h);try simp only [go_sem,simprocAttr,hb] at h)|omega|intro h)
  simp only [go_sem,simprocAttr,hb,Fa hge]
def iU:List Int→Int
 | []=>0
 |a::r=>r.foldl min a
theorem Fb {l:List Int} {k:Nat} (h0:0<k) (h:k<l.length):iU (l.take (k+1))=min (iU (l.take k)) (l.getD k 0):=by
 cases l with
 |nil=>simp at h
 |cons a r=>
  obtain ⟨k,rfl⟩:∃j,k=j+1:=⟨k - 1,by omega⟩
  simp only [List.length_cons] at h
  simp only [List.take_succ_cons,iU,List.getD_cons_succ]
  rw [List.take_add_one,List.foldl_append,List.getElem?_eq_getElem (by omega),List.getD_eq_getElem?_getD,List.getElem?_eq_getElem (by omega)]
  rfl
theorem HC {l:List Int} (h:0<l.length):iU (l.take 1)=l.getD 0 0:=by
 cases l with
 |nil=>simp at h
 |cons a r=>simp [iU]
theorem kN (l:List Int) (h0:0<l.length) (hl:l.length≤1000000):Spec Tryz.prog 179 (Args [.d (sI l)]) [] (eN (iU l)) []:=by
 (refine Spec.hd (C:=T.cfg [] []) (rs:= [.t 2]) (T.aj _ _) Tryz.func179 rfl rfl Tryz.ntmps179 Tryz.results179 (by simp [AObj.isNest]) (by simp [AObj.isNest]) (by kernel_rfl) T.mixed fun X hX hP hC aP bV=> ?_)
 repeat' (first|refine Rn.p ?_|(with_reducible apply And.intro)|((first|(refine hK _ ?_;clear hK K)|with_reducible intro K hK|refine Rs.p ?_|((with_reducible first|apply oP|apply oQ);exact rfl));try simp only [go_sem,simprocAttr])|((with_reducible refine oD ?_ ?_);kernel_rfl)|((with_reducible intro h);try simp only [go_sem,simprocAttr] at h)|omega|intro h)
 refine ai (fun k:Nat=>0<k∧k≤l.length) (fun k=>⟨[(0, .d (sI l)),(3,eN (iU (l.take k))),(4,eN k)], []⟩) (fun k=>l.length - k) 1 (by omega) ?_ ?_
 ·refine Le.of ?_ ?_<;>simp [go_sem,simprocAttr,HC h0]
 rintro k ⟨xo,hk⟩
 repeat' (first|refine Rn.p ?_|(with_reducible apply And.intro)|((first|(refine hK _ ?_;clear hK K)|with_reducible intro K hK|refine Rs.p ?_|((with_reducible first|apply oP|apply oQ);exact rfl));try simp only [go_sem,simprocAttr])|((with_reducible refine oD ?_ ?_);kernel_rfl)|((with_reducible intro h);try simp only [go_sem,simprocAttr] at h)|omega|intro h)
 ·refine ⟨k+1,by omega, ?_,by omega⟩
  refine Le.of ?_ ?_<;>simp [go_sem,simprocAttr]
  rw [Fb xo (by omega),List.getD_eq_getElem?_getD]
 ·rw [List.take_of_length_le (by omega)]
theorem fP (n:Int) (h0:0<n) (hl:n≤1000000):Spec Tryz.prog 116 (Args [.nil 3,eN n]) [] (.ref 10000) [(10000, .own 3 1 [])]:=by
 (refine Spec.vf (C:=T.cfg [] []) (rs:= [.t 4]) [(10000,25)] (T.aj _ _) Tryz.func116 rfl rfl Tryz.ntmps116 Tryz.results116 (by simp [AObj.isNest]) (by simp [AObj.isNest]) (by first|(simp [look];done)|(simp [asN];done)|(intro l hl;simp only [asN];repeat (rw [if_neg (fun e=>by subst e;simp [look] at hl)]))) (by first|(simp [look];done)|(simp [asN];done)|(intro l hl;simp only [asN];repeat (rw [if_neg (fun e=>by subst e;simp [look] at hl)]))) (by kernel_rfl) T.mixed fun X hX hP hC aP bV=> ?_)
 repeat' (first|refine Rn.p ?_|(with_reducible apply And.intro)|((first|(refine hK _ ?_;clear hK K)|with_reducible intro K hK|refine Rs.p ?_|((with_reducible first|apply oP|apply oQ);exact rfl));try simp only [go_sem,simprocAttr])|((with_reducible refine oD ?_ ?_);kernel_rfl)|((with_reducible intro h);try simp only [go_sem,simprocAttr] at h)|omega|intro h)
end Go.Ab
end
section
namespace Go.Ab
open Go.Proofs
attribute [local congr] ACall.congr gd.congr Nx.congr
set_option maxRecDepth 10000
def vL (ls:List (List Int)):List (List D):=ls.map fun l=> [sI l]
theorem vL_length {ls:List (List Int)} :(vL ls).length=ls.length:=by simp [vL]
theorem zA {ls:List (List Int)} {k:Nat} (h:k<ls.length) (d:List D):(vL ls).getD k d= [sI (ls.getD k [])]:=by
 simp [vL,List.getD_eq_getElem?_getD,List.getElem?_eq_getElem h]
attribute [go_sem] vL_length
theorem xW {ls:List (List Int)} {k:Nat} (h:k<ls.length):(ls.take (k+1)).flatten=(ls.take k).flatten++ls.getD k []:=by
 rw [List.take_add_one,List.flatten_append,List.getElem?_eq_getElem h,List.getD_eq_getElem?_getD,List.getElem?_eq_getElem h]
 simp
theorem uc {ls:List (List Int)} {k:Nat} :(ls.take k).flatten.length≤ls.flatten.length:=by
 have:=congrArg (fun x=>x.flatten.length) (List.take_append_drop k ls)
 simp only [List.flatten_append,List.length_append] at this
 omega
theorem fQ (ls:List (List Int)) (hn:ls.length≤1000) (h0:0<ls.flatten.length) (hl:ls.flatten.length≤1000000):Spec Tryz.prog 72 (Args [.d (.sl 1 (vL ls))]) [] (.d (sI ls.flatten)) []:=by
 (refine Spec.hd (C:=T.cfg [] []) (rs:= [.t 2]) (T.aj _ _) Tryz.func72 rfl rfl Tryz.ntmps72 Tryz.results72 (by simp [AObj.isNest]) (by simp [AObj.isNest]) (by kernel_rfl) T.mixed fun X hX hP hC aP bV=> ?_)
 repeat' (first|refine Rn.p ?_|(with_reducible apply And.intro)|((first|(refine hK _ ?_;clear hK K)|with_reducible intro K hK|refine Rs.p ?_|((with_reducible first|apply oP|apply oQ);exact rfl)|(refine au hX hC hP [(10000,33)] (fP (ls.flatten.length:Int) (by omega) (by omega)) rfl rfl rfl ?_ ?_ ?_ ?_ ?_ ?_ ?_ ?_ ?_ ?_ ?_ ?_ ?_ ?_;(focus (simp only [go_sem,simprocAttr];done));(iterate 12 (focus (simp [go_sem,simprocAttr];done)));try simp only [List.map_cons,List.map_nil]));try simp only [go_sem,simprocAttr])|((with_reducible refine oD ?_ ?_);kernel_rfl)|((with_reducible intro h);try simp only [go_sem,simprocAttr] at h)|omega|intro h)
 refine ai (fun k:Nat=>k≤ls.length) (fun k=>⟨[(0, .d (.sl 1 (vL ls))),(9, .d (.sl 1 (vL ls))),(10,eN ls.length),(11,eN k),(3,eN ((ls.take k).flatten.length))], []⟩) (fun k=>ls.length - k) 0 (by omega) ?_ ?_
 ·(refine Le.of ?_ ?_<;>simp [go_sem,simprocAttr])
 ·rintro k hk
  rcases Nat.lt_or_ge k ls.length with hlt|hge
  ·have hb:decide ((k:Int)<(ls.length:Int))=true:=decide_eq_true (by omega)
   have hv:=zA hlt
   have hf:=xW hlt
   have PD:=uc (ls:=ls) (k:=k)
   have L5:=uc (ls:=ls) (k:=k+1)
   rw [hf,List.length_append] at L5
   have hneg:decide (((ls.take k).flatten.length:Int)+((ls.getD k []).length:Int)<0)=false:=decide_eq_false (by omega)
   repeat' (first|refine Rn.p ?_|(with_reducible apply And.intro)|((first|(refine hK _ ?_;clear hK K)|with_reducible intro K hK|refine Rs.p ?_|((with_reducible first|apply oP|apply oQ);exact rfl)|(refine au hX hC hP [(10000,33)] (fP (ls.flatten.length:Int) (by omega) (by omega)) rfl rfl rfl ?_ ?_ ?_ ?_ ?_ ?_ ?_ ?_ ?_ ?_ ?_ ?_ ?_ ?_;(focus (simp only [go_sem,simprocAttr,hb,hv,hneg];done));(iterate 12 (focus (simp [go_sem,simprocAttr,hb,hv,hneg];done)));try simp only [List.map_cons,List.map_nil]));try simp only [go_sem,simprocAttr,hb,hv,hneg])|((with_reducible refine oD ?_ ?_);kernel_rfl)|((with_reducible intro h);try simp only [go_sem,simprocAttr,hb,hv,hneg] at h)|omega|intro h)
   refine ⟨k+1,by omega, ?_,by omega⟩
   simp only [hf]
   refine Le.of ?_ ?_<;>simp [go_sem,simprocAttr,hb,hv,hneg]
  ·have hb:decide ((k:Int)<(ls.length:Int))=false:=decide_eq_false (by omega)
   have ht:ls.take k=ls:=List.take_of_length_le (by omega)
   repeat' (first|refine Rn.p ?_|(with_reducible apply And.intro)|((first|(refine hK _ ?_;clear hK K)|with_reducible intro K hK|refine Rs.p ?_|((with_reducible first|apply oP|apply oQ);exact rfl)|(refine au hX hC hP [(10000,33)] (fP (ls.flatten.length:Int) (by omega) (by omega)) rfl rfl rfl ?_ ?_ ?_ ?_ ?_ ?_ ?_ ?_ ?_ ?_ ?_ ?_ ?_ ?_;(focus (simp only [go_sem,simprocAttr,hb,ht];done));(iterate 12 (focus (simp [go_sem,simprocAttr,hb,ht];done)));try simp only [List.map_cons,List.map_nil]));try simp only [go_sem,simprocAttr,hb,ht])|((with_reducible refine oD ?_ ?_);kernel_rfl)|((with_reducible intro h);try simp only [go_sem,simprocAttr,hb,ht] at h)|omega|intro h)
   refine ai (fun k:Nat=>k≤ls.length) (fun k=>⟨[(25, .d (.sl 1 (vL ls))),(26,eN ls.length),(27,eN k),(6, .ref 33)], [(33, .own 3 1 ((ls.take k).flatten.map rI))]⟩) (fun k=>ls.length - k) 0 (by omega) ?_ ?_
   ·(refine Le.of ?_ ?_<;>simp [go_sem,simprocAttr,hb,ht])
   ·clear hb ht hk hge
    rintro k hk
    rcases Nat.lt_or_ge k ls.length with hlt|hge
    ·have hb:decide ((k:Int)<(ls.length:Int))=true:=decide_eq_true (by omega)
     have hv:=zA hlt
     have hf:=xW hlt
     have PD:=uc (ls:=ls) (k:=k)
     have L5:=uc (ls:=ls) (k:=k+1)
     rw [hf,List.length_append] at L5
     repeat' (first|refine Rn.p ?_|(with_reducible apply And.intro)|((first|(refine hK _ ?_;clear hK K)|with_reducible intro K hK|refine Rs.p ?_|((with_reducible first|apply oP|apply oQ);exact rfl)|(refine au hX hC hP [(10000,33)] (fP (ls.flatten.length:Int) (by omega) (by omega)) rfl rfl rfl ?_ ?_ ?_ ?_ ?_ ?_ ?_ ?_ ?_ ?_ ?_ ?_ ?_ ?_;(focus (simp only [go_sem,simprocAttr,hb,hv];done));(iterate 12 (focus (simp [go_sem,simprocAttr,hb,hv];done)));try simp only [List.map_cons,List.map_nil]));try simp only [go_sem,simprocAttr,hb,hv])|((with_reducible refine oD ?_ ?_);kernel_rfl)|((with_reducible intro h);try simp only [go_sem,simprocAttr,hb,hv] at h)|omega|intro h)
     refine ⟨k+1,by omega, ?_,by omega⟩
     simp only [hf]
     refine Le.of ?_ ?_<;>simp [go_sem,simprocAttr,hb,hv]
    ·have hb:decide ((k:Int)<(ls.length:Int))=false:=decide_eq_false (by omega)
     have ht:ls.take k=ls:=List.take_of_length_le (by omega)
     repeat' (first|refine Rn.p ?_|(with_reducible apply And.intro)|((first|(refine hK _ ?_;clear hK K)|with_reducible intro K hK|refine Rs.p ?_|((with_reducible first|apply oP|apply oQ);exact rfl)|(refine au hX hC hP [(10000,33)] (fP (ls.flatten.length:Int) (by omega) (by omega)) rfl rfl rfl ?_ ?_ ?_ ?_ ?_ ?_ ?_ ?_ ?_ ?_ ?_ ?_ ?_ ?_;(focus (simp only [go_sem,simprocAttr,hb,ht];done));(iterate 12 (focus (simp [go_sem,simprocAttr,hb,ht];done)));try simp only [List.map_cons,List.map_nil]));try simp only [go_sem,simprocAttr,hb,ht])|((with_reducible refine oD ?_ ?_);kernel_rfl)|((with_reducible intro h);try simp only [go_sem,simprocAttr,hb,ht] at h)|omega|intro h)
def jz (ls:List (List Int)) (k:Nat):List Int:=((List.range k).filter fun x=>decide ((ls.getD x []).length=0)).map Int.ofNat
theorem pn {ls:List (List Int)} {k:Nat} :jz ls (k+1)=jz ls k++if (ls.getD k []).length=0 then [(k:Int)] else []:=by
 simp only [jz,List.range_succ,List.filter_append,List.map_append,List.filter_cons,List.filter_nil]
 split<;>simp_all
theorem xX {ls:List (List Int)} {k:Nat} :(jz ls k).length≤k:=by
 simpa [jz] using List.length_filter_le (fun x=>decide ((ls.getD x []).length=0)) (List.range k)
theorem xY (ls:List (List Int)) (hn:ls.length≤1000):Spec Tryz.prog 115 (Args [.d (.sl 1 (vL ls))]) [] (.d (sI (jz ls ls.length))) []:=by
 (refine Spec.hd (C:=T.cfg [] []) (rs:= [.t 2]) (T.aj _ _) Tryz.func115 rfl rfl Tryz.ntmps115 Tryz.results115 (by simp [AObj.isNest]) (by simp [AObj.isNest]) (by kernel_rfl) T.mixed fun X hX hP hC aP bV=> ?_)
 repeat' (first|refine Rn.p ?_|(with_reducible apply And.intro)|((first|(refine hK _ ?_;clear hK K)|with_reducible intro K hK|refine Rs.p ?_|((with_reducible first|apply oP|apply oQ);exact rfl)|(refine au hX hC hP [(10000,33)] (fP (ls.flatten.length:Int) (by omega) (by omega)) rfl rfl rfl ?_ ?_ ?_ ?_ ?_ ?_ ?_ ?_ ?_ ?_ ?_ ?_ ?_ ?_;(focus (simp only [go_sem,simprocAttr];done));(iterate 12 (focus (simp [go_sem,simprocAttr];done)));try simp only [List.map_cons,List.map_nil]));try simp only [go_sem,simprocAttr])|((with_reducible refine oD ?_ ?_);kernel_rfl)|((with_reducible intro h);try simp only [go_sem,simprocAttr] at h)|omega|intro h)
 (refine dU hX 2 18 (.tip 3 1 []) (by simp only [go_sem,simprocAttr]) (by simp only [go_sem,simprocAttr]) (by decide) ⟨3,1,by decide, .inr rfl⟩ ?_;simp only [go_sem,simprocAttr])
 refine ai (fun k:Nat=>k≤ls.length) (fun k=>⟨[(5, .d (.sl 1 (vL ls))),(6,eN ls.length),(7,eN k),(2, .ref 18)], [(18, .tip 3 1 ((jz ls k).map rI))]⟩) (fun k=>ls.length - k) 0 (by omega) ?_ ?_
 ·refine Le.of ?_ ?_<;>simp [go_sem,simprocAttr,jz]
 ·rintro k hk
  rcases Nat.lt_or_ge k ls.length with hlt|hge
  ·have hb:decide ((k:Int)<(ls.length:Int))=true:=decide_eq_true (by omega)
   have hv:=zA hlt
   have hlen:=xX (ls:=ls) (k:=k)
   repeat' (first|refine Rn.p ?_|(with_reducible apply And.intro)|((first|(refine hK _ ?_;clear hK K)|with_reducible intro K hK|refine Rs.p ?_|((with_reducible first|apply oP|apply oQ);exact rfl)|(refine au hX hC hP [(10000,33)] (fP (ls.flatten.length:Int) (by omega) (by omega)) rfl rfl rfl ?_ ?_ ?_ ?_ ?_ ?_ ?_ ?_ ?_ ?_ ?_ ?_ ?_ ?_;(focus (simp only [go_sem,simprocAttr,hb,hv];done));(iterate 12 (focus (simp [go_sem,simprocAttr,hb,hv];done)));try simp only [List.map_cons,List.map_nil]));try simp only [go_sem,simprocAttr,hb,hv])|((with_reducible refine oD ?_ ?_);kernel_rfl)|((with_reducible intro h);try simp only [go_sem,simprocAttr,hb,hv] at h)|omega|intro h)
   ·refine ⟨k+1,by omega, ?_,by omega⟩
    rw [pn,if_pos (by omega)]
    refine Le.of ?_ ?_<;>simp [go_sem,simprocAttr,hb,hv]
    rfl
   ·refine ⟨k+1,by omega, ?_,by omega⟩
    rw [pn,if_neg (by omega),List.append_nil]
    refine Le.of ?_ ?_<;>simp [go_sem,simprocAttr,hb,hv]
  ·have hb:decide ((k:Int)<(ls.length:Int))=false:=decide_eq_false (by omega)
   obtain rfl:k=ls.length:=by omega
   repeat' (first|refine Rn.p ?_|(with_reducible apply And.intro)|((first|(refine hK _ ?_;clear hK K)|with_reducible intro K hK|refine Rs.p ?_|((with_reducible first|apply oP|apply oQ);exact rfl)|(refine au hX hC hP [(10000,33)] (fP (ls.flatten.length:Int) (by omega) (by omega)) rfl rfl rfl ?_ ?_ ?_ ?_ ?_ ?_ ?_ ?_ ?_ ?_ ?_ ?_ ?_ ?_;(focus (simp only [go_sem,simprocAttr,hb];done));(iterate 12 (focus (simp [go_sem,simprocAttr,hb];done)));try simp only [List.map_cons,List.map_nil]));try simp only [go_sem,simprocAttr,hb])|((with_reducible refine oD ?_ ?_);kernel_rfl)|((with_reducible intro h);try simp only [go_sem,simprocAttr,hb] at h)|omega|intro h)
theorem HD {f:Edge→Int} {g:Gr} :J0 f g=vL (dw f g):=rfl
theorem iW {f:Edge→Int} {g:Gr} :(dw f g).length=g.n.toNat:=by simp [dw]
def bF (f:Edge→Int) (g:Gr):List Int:=jz (dw f g) g.n.toNat
theorem gr (g:Gr) (hm:aG g=true):Spec Tryz.prog 68 (Args [.d (vw g)]) [] (.d (sI (bF (·.2) g))) []:=by
 rw [aB]
 have hn:=aA hm
 have hle:(dw (·.2) g).length≤1000:=by rw [iW];omega
 (refine Spec.hd (C:=T.cfg [] []) (rs:= [.t 2]) (T.aj _ _) Tryz.func68 rfl rfl Tryz.ntmps68 Tryz.results68 (by simp [AObj.isNest]) (by simp [AObj.isNest]) (by kernel_rfl) T.mixed fun X hX hP hC aP bV=> ?_)
 repeat' (first|refine Rn.p ?_|(with_reducible apply And.intro)|((first|(refine hK _ ?_;clear hK K)|with_reducible intro K hK|refine Rs.p ?_|((with_reducible first|apply oP|apply oQ);exact rfl)|(rw [HD];refine aa hX hC hP (xY (dw (·.2) g) hle) rfl rfl rfl (by simp only [go_sem,simprocAttr]) rfl ?_));try simp only [go_sem,simprocAttr])|((with_reducible refine oD ?_ ?_);kernel_rfl)|((with_reducible intro h);try simp only [go_sem,simprocAttr] at h)|omega|intro h)
 rw [iW];rfl
theorem CF (g:Gr) (hm:aG g=true):Spec Tryz.prog 69 (Args [.d (vw g)]) [] (.d (sI (bF (·.1) g))) []:=by
 rw [aB]
 have hn:=aA hm
 have hle:(dw (·.1) g).length≤1000:=by rw [iW];omega
 (refine Spec.hd (C:=T.cfg [] []) (rs:= [.t 2]) (T.aj _ _) Tryz.func69 rfl rfl Tryz.ntmps69 Tryz.results69 (by simp [AObj.isNest]) (by simp [AObj.isNest]) (by kernel_rfl) T.mixed fun X hX hP hC aP bV=> ?_)
 repeat' (first|refine Rn.p ?_|(with_reducible apply And.intro)|((first|(refine hK _ ?_;clear hK K)|with_reducible intro K hK|refine Rs.p ?_|((with_reducible first|apply oP|apply oQ);exact rfl)|(rw [HD];refine aa hX hC hP (xY (dw (·.1) g) hle) rfl rfl rfl (by simp only [go_sem,simprocAttr]) rfl ?_));try simp only [go_sem,simprocAttr])|((with_reducible refine oD ?_ ?_);kernel_rfl)|((with_reducible intro h);try simp only [go_sem,simprocAttr] at h)|omega|intro h)
 rw [iW];rfl
end Go.Ab
end
section
namespace Go.Ab
open Go.Proofs
attribute [local congr] ACall.congr gd.congr Nx.congr
set_option maxRecDepth 10000
def fR (g:Gr) (ws:List Int) (b:Int) (e:Int):Int:=if 0<ws.getD (tl g e.toNat).toNat 0∧(b<0∨tl g e.toNat<b) then tl g e.toNat else b
theorem HE (g:Gr) (ws:List Int) (b:Int) (i:Nat):fR g ws b (i:Int)=if 0<ws.getD (g.es.getD i (0,0)).1.toNat 0∧(b<0∨(g.es.getD i (0,0)).1<b) then (g.es.getD i (0,0)).1 else b:=rfl
def xZ (g:Gr) (ws:List Int) (es:List Int):Int:=es.foldl (fR g ws) (-1)
def j6 (g:Gr) (ws:List Int) (at_:Int):Int:=xZ g ws (rV g at_.toNat)
def lX (g:Gr) (ws:List Int):Nat→List Int→Int→List Int × Int
 |0,way,at_=>(way,at_)
 |f+1,way,at_=>if at_<0∨at_∈way then (way,at_) else lX g ws f (way++ [at_]) (j6 g ws at_)
def kO (g:Gr):List Int × Int:=lX g (cI g (aR g)) g.n.toNat [] (bQ (fun n=>decide (0<n)) (cI g (aR g)))
def mC (l:List Int):List Int:=l.drop (fY l (iU l)).toNat++l.take (fY l (iU l)).toNat
def kP (g:Gr):List Int:=if (kO g).2<0 then [] else mC ((kO g).1.drop (fY (kO g).1 (kO g).2).toNat).reverse
theorem ji (n:Int):Spec Tryz.prog 178 (Args [eN n]) [] (eB (decide (0<n))) []:=by
 (refine Spec.hd (C:=T.cfg [] []) (rs:= [.t 2]) (T.aj _ _) Tryz.func178 rfl rfl Tryz.ntmps178 Tryz.results178 (by simp [AObj.isNest]) (by simp [AObj.isNest]) (by kernel_rfl) T.mixed fun X hX hP hC aP bV=> ?_)
 repeat' (first|refine Rn.p ?_|(with_reducible apply And.intro)|((first|(refine hK _ ?_;clear hK K)|with_reducible intro K hK|refine Rs.p ?_|((with_reducible first|apply oP|apply oQ);exact rfl));try simp only [go_sem,simprocAttr])|((with_reducible refine oD ?_ ?_);kernel_rfl)|((with_reducible intro h);try simp only [go_sem,simprocAttr] at h)|omega|intro h)
structure Way (g:Gr) (way:List Int):Prop where
 lo:∀x∈way,0≤x∧x<g.n
 fuel:way.length+left g way=g.n.toNat
theorem qv {g:Gr} :left g []=g.n.toNat:=by
 have:=(ff.nil g).fuel
 rw [List.length_nil,Nat.zero_add] at this
 exact this
theorem jA {g:Gr} {way:List Int} {a:Nat} (ha:a<g.n.toNat) (hn:(a:Int)∉way):left g way=left g (way++ [(a:Int)])+1:=by
 unfold left
 rw [← nh (p:=fun y:Nat=> !decide ((y:Int)∈way)) (x:=a) (by simp [hn]) ha]
 congr 1
 refine List.countP_congr fun y _=> ?_
 simp;omega
theorem Way.nil (g:Gr):Way g []:=⟨by simp,by rw [qv];simp⟩
theorem Way.next {g:Gr} {way:List Int} {a:Nat} (h:Way g way) (ha:a<g.n.toNat) (hn:(a:Int)∉way):Way g (way++ [(a:Int)]):=by
 refine ⟨fun x hx=> ?_, ?_⟩
 ·rcases List.mem_append.1 hx with hx|hx
  ·exact h.lo x hx
  ·simp at hx;omega
 ·have h1:=h.fuel
  have h2:=jA ha hn
  rw [List.length_append,List.length_singleton];omega
theorem zB {g:Gr} {x:Nat} {e:Int} (h:e∈rV g x):∃i:Nat,e=i∧i<g.es.length∧hd g i=x:=by
 simp only [rV,fO,List.mem_map,List.mem_filter,List.mem_range,decide_eq_true_eq] at h
 obtain ⟨i,⟨h1,h2⟩,rfl⟩:=h
 exact ⟨i,rfl,h1,h2⟩
theorem Fe {α β:Type} {f:β→α→β} {b:β} {l:List α} {j:Nat} {x:α} (h:l[j]? =some x):(l.take (j+1)).foldl f b=f ((l.take j).foldl f b) x:=by
 rw [List.take_add_one,List.foldl_append,h];rfl
theorem sW {g:Gr} (hm:aG g=true) (ws:List Int):∀(l:List Int) (b:Int),(b= -1∨(0≤b∧b<g.n))→(∀e∈l,∃i:Nat,e=i∧i<g.es.length)→l.foldl (fR g ws) b= -1∨(0≤l.foldl (fR g ws) b∧l.foldl (fR g ws) b<g.n)
 | [],b,hb,_=>hb
 |e::l,b,hb,h=>by
  refine sW hm ws l _ ?_ fun e he=>h e (List.mem_cons_of_mem _ he)
  obtain ⟨i,rfl,hi⟩:=h e List.mem_cons_self
  obtain ⟨⟨h1,h2⟩,_⟩:=cM hm hi
  unfold fR
  split
  ·exact .inr ⟨h1,h2⟩
  ·exact hb
theorem HF {g:Gr} {x:Nat} :∀e∈rV g x,∃i:Nat,e=i∧i<g.es.length:=fun e he=>by
 obtain ⟨i,h1,h2,_⟩:=zB he;exact ⟨i,h1,h2⟩
theorem kQ {g:Gr} {ws way:List Int} {a:Int} (h:a<0∨a∈way):∀f,lX g ws f way a=(way,a)
 |0=>rfl
 |f+1=>by simp only [lX];rw [if_pos h]
theorem eA {l:List Int} {x:Int} (h:x∈l):∃k:Nat,fY l x=k∧k<l.length∧l.getD k 0=x:=by
 rcases gN (f:=fun y:Int=>decide (x=y)) (l:=l) 0 with ⟨h1,h2⟩|⟨k,h1,h2,h3,_⟩
 ·exact absurd (h2 x h) (by simp)
 ·exact ⟨k,h1,h2,(of_decide_eq_true h3).symm⟩
theorem jB:∀ {l:List Int},0<l.length→iU l∈l
 |a::r,_=>by
  have:∀(r:List Int) (a:Int),r.foldl min a=a∨r.foldl min a∈r:=by
   intro r
   induction r with
   |nil=>intro a;exact .inl rfl
   |cons b r ih=>
    intro a
    simp only [List.foldl_cons]
    rcases ih (min a b) with h|h
    ·by_cases hab:a≤b
     ·left;rw [h];omega
     ·right;rw [h];simp;omega
    ·right;simp [h]
  rcases this r a with h|h
  ·simp [iU,h]
  ·simp [iU,h]
theorem jC (g:Gr) (hm:aG g=true):Spec Tryz.prog 133 (Args [.d (vw g)]) [] (.d (sI (kP g))) []:=by
 have hn:=aA hm
 have DB:(cI g (aR g)).length≤9223372036854775807:=by rw [wts_length];omega
 (refine Spec.hd (C:=T.cfg [30] []) (rs:= [.t 2]) (T.aj _ _) Tryz.func133 rfl rfl Tryz.ntmps133 Tryz.results133 (by simp [AObj.isNest]) (by simp [AObj.isNest]) (by kernel_rfl) T.mixed fun X hX hP hC aP bV=> ?_)
 repeat' (first|refine Rn.p ?_|(with_reducible apply And.intro)|((first|(refine hK _ ?_;clear hK K)|with_reducible intro K hK|refine Rs.p ?_|((with_reducible first|apply oP|apply oQ);exact rfl)|refine aa hX hC hP (kL g hm) rfl rfl rfl (by simp only [go_sem,simprocAttr]) rfl ?_|refine aa hX hC hP (cU bH.nil _ [] _ ji (cI g (aR g)) DB) rfl rfl rfl (by simp only [go_sem,simprocAttr]) rfl ?_|(refine ah hX hC hP (bn way a bX) rfl rfl rfl ?_ ?_ ?_ ?_;iterate 3 (focus (simp only [go_sem,simprocAttr];done)))|(refine ah hX hC hP (aW way a bX) rfl rfl rfl ?_ ?_ ?_ ?_;iterate 3 (focus (simp only [go_sem,simprocAttr];done)))|(refine au hX hC hP [(10000,75)] (eO (way.drop k) hlr) rfl rfl rfl ?_ ?_ ?_ ?_ ?_ ?_ ?_ ?_ ?_ ?_ ?_ ?_ ?_ ?_;(focus (simp only [go_sem,simprocAttr];done));(iterate 12 (focus (simp [go_sem,simprocAttr];done)));try simp only [List.map_cons,List.map_nil])|(refine ah hX hC hP (kN rev vB hrev) rfl rfl rfl ?_ ?_ ?_ ?_;iterate 3 (focus (simp only [go_sem,simprocAttr];done)))|(refine ah hX hC hP (aW rev (iU rev) x3) rfl rfl rfl ?_ ?_ ?_ ?_;iterate 3 (focus (simp only [go_sem,simprocAttr];done)))|(refine cJ hX hC hP (fQ [rev.drop k2,rev.take k2] hc1 Ce Hw) rfl rfl rfl ?_ ?_ rfl ?_;iterate 2 (focus (simp only [go_sem,simprocAttr];done))));try simp only [go_sem,simprocAttr])|((with_reducible refine oD ?_ ?_);kernel_rfl)|((with_reducible intro h);try simp only [go_sem,simprocAttr] at h)|omega|intro h)
 (refine dU hX 6 30 (.own 3 1 []) (by simp only [go_sem,simprocAttr]) (by simp only [go_sem,simprocAttr]) (by decide) ⟨3,1,by decide, .inl rfl⟩ ?_;simp only [go_sem,simprocAttr])
 refine ai (fun i:List Int × Int=>Way g i.1∧(i.2= -1∨(0≤i.2∧i.2<g.n))∧lX g (cI g (aR g)) (left g i.1) i.1 i.2=kO g) (fun i=>⟨[(0, .d (vw g)),(4, .d (sI (cI g (aR g)))),(5,eN i.2),(6, .ref 30)], [(30, .own 3 1 (i.1.map rI))]⟩) (fun i=>left g i.1) ([],bQ (fun n=>decide (0<n)) (cI g (aR g))) ⟨Way.nil g, ?_, ?_⟩ ?_ ?_
 ·rcases AY (fun n:Int=>decide (0<n)) (cI g (aR g)) with h|h
  ·exact .inl h
  ·rw [wts_length] at h;exact .inr (by simp only;omega)
 ·rw [qv];rfl
 ·(refine Le.of ?_ ?_<;>simp [go_sem,simprocAttr])
 rintro ⟨way,at_⟩ ⟨Bc,lZ,hrun⟩
 simp only at Bc lZ hrun ⊢
 have Ue:way.length≤64:=by have:=Bc.fuel;omega
 have bX:way.length≤9223372036854775807:=by omega
 by_cases h0:at_<0
 ·have hb1:decide (0≤at_)=false:=decide_eq_false (by omega)
  have hb3:decide (at_<0)=true:=decide_eq_true h0
  have he:kP g= []:=by
   have:=kQ (g:=g) (ws:=cI g (aR g)) (way:=way) (.inl h0) (left g way)
   rw [hrun] at this
   simp only [kP,this];rw [if_pos h0]
  repeat' (first|refine Rn.p ?_|(with_reducible apply And.intro)|((first|(refine hK _ ?_;clear hK K)|with_reducible intro K hK|refine Rs.p ?_|((with_reducible first|apply oP|apply oQ);exact rfl)|refine aa hX hC hP (kL g hm) rfl rfl rfl (by simp only [go_sem,simprocAttr,hb1,hb3]) rfl ?_|refine aa hX hC hP (cU bH.nil _ [] _ ji (cI g (aR g)) DB) rfl rfl rfl (by simp only [go_sem,simprocAttr,hb1,hb3]) rfl ?_|(refine ah hX hC hP (bn way a bX) rfl rfl rfl ?_ ?_ ?_ ?_;iterate 3 (focus (simp only [go_sem,simprocAttr,hb1,hb3];done)))|(refine ah hX hC hP (aW way a bX) rfl rfl rfl ?_ ?_ ?_ ?_;iterate 3 (focus (simp only [go_sem,simprocAttr,hb1,hb3];done)))|(refine au hX hC hP [(10000,75)] (eO (way.drop k) hlr) rfl rfl rfl ?_ ?_ ?_ ?_ ?_ ?_ ?_ ?_ ?_ ?_ ?_ ?_ ?_ ?_;(focus (simp only [go_sem,simprocAttr,hb1,hb3];done));(iterate 12 (focus (simp [go_sem,simprocAttr,hb1,hb3];done)));try simp only [List.map_cons,List.map_nil])|(refine ah hX hC hP (kN rev vB hrev) rfl rfl rfl ?_ ?_ ?_ ?_;iterate 3 (focus (simp only [go_sem,simprocAttr,hb1,hb3];done)))|(refine ah hX hC hP (aW rev (iU rev) x3) rfl rfl rfl ?_ ?_ ?_ ?_;iterate 3 (focus (simp only [go_sem,simprocAttr,hb1,hb3];done)))|(refine cJ hX hC hP (fQ [rev.drop k2,rev.take k2] hc1 Ce Hw) rfl rfl rfl ?_ ?_ rfl ?_;iterate 2 (focus (simp only [go_sem,simprocAttr,hb1,hb3];done))));try simp only [go_sem,simprocAttr,hb1,hb3])|((with_reducible refine oD ?_ ?_);kernel_rfl)|((with_reducible intro h);try simp only [go_sem,simprocAttr,hb1,hb3] at h)|omega|intro h)
  rw [he];rfl
 obtain ⟨a,rfl⟩:∃a:Nat,at_=a:=⟨at_.toNat,by omega⟩
 have KX:a<g.n.toNat:=by omega
 have hb1:decide (0≤(a:Int))=true:=decide_eq_true (by omega)
 by_cases hmem:(a:Int)∈way
 ·have hb2:decide ((a:Int)∈way)=true:=decide_eq_true hmem
  have hb3:decide ((a:Int)<0)=false:=decide_eq_false h0
  have hend:=kQ (g:=g) (ws:=cI g (aR g)) (.inr hmem) (left g way)
  rw [hrun] at hend
  obtain ⟨k,hk,cB,_⟩:=eA hmem
  obtain ⟨rev,j7⟩:∃rev,rev=(way.drop k).reverse:=⟨_,rfl⟩
  have hrl:rev.length=way.length - k:=by rw [j7];simp
  have vB:0<rev.length:=by omega
  have hrev:rev.length≤1000000:=by omega
  have x3:rev.length≤9223372036854775807:=by omega
  have hlr:(way.drop k).length≤1000000:=by simp;omega
  obtain ⟨k2,hk2,Uf,_⟩:=eA (jB vB)
  have hc1: [rev.drop k2,rev.take k2].length≤1000:=by simp
  have Ce:0< [rev.drop k2,rev.take k2].flatten.length:=by simp;omega
  have Hw: [rev.drop k2,rev.take k2].flatten.length≤1000000:=by simp;omega
  have L6:kP g= [rev.drop k2,rev.take k2].flatten:=by
   simp only [kP,hend]
   rw [if_neg h0,hk]
   simp only [Int.toNat_natCast, ← j7,mC,hk2,List.flatten_cons,List.flatten_nil,List.append_nil]
  repeat' (first|(show bY _ (.seq (.region 20 _ _) _) _ _;(refine cP hX 75 rfl (.inr rfl) ?_;simp only [go_sem,simprocAttr,hb1,hb2,hb3,hk,hk2, ← List.map_take, ← List.map_drop,List.take_length, ← j7,vL]))|refine Rn.p ?_|(with_reducible apply And.intro)|((first|(refine hK _ ?_;clear hK K)|with_reducible intro K hK|refine Rs.p ?_|((with_reducible first|apply oP|apply oQ);exact rfl)|refine aa hX hC hP (kL g hm) rfl rfl rfl (by simp only [go_sem,simprocAttr,hb1,hb2,hb3,hk,hk2, ← List.map_take, ← List.map_drop,List.take_length, ← j7,vL]) rfl ?_|refine aa hX hC hP (cU bH.nil _ [] _ ji (cI g (aR g)) DB) rfl rfl rfl (by simp only [go_sem,simprocAttr,hb1,hb2,hb3,hk,hk2, ← List.map_take, ← List.map_drop,List.take_length, ← j7,vL]) rfl ?_|(refine ah hX hC hP (bn way a bX) rfl rfl rfl ?_ ?_ ?_ ?_;iterate 3 (focus (simp only [go_sem,simprocAttr,hb1,hb2,hb3,hk,hk2, ← List.map_take, ← List.map_drop,List.take_length, ← j7,vL];done)))|(refine ah hX hC hP (aW way a bX) rfl rfl rfl ?_ ?_ ?_ ?_;iterate 3 (focus (simp only [go_sem,simprocAttr,hb1,hb2,hb3,hk,hk2, ← List.map_take, ← List.map_drop,List.take_length, ← j7,vL];done)))|(refine au hX hC hP [(10000,75)] (eO (way.drop k) hlr) rfl rfl rfl ?_ ?_ ?_ ?_ ?_ ?_ ?_ ?_ ?_ ?_ ?_ ?_ ?_ ?_;(focus (simp only [go_sem,simprocAttr,hb1,hb2,hb3,hk,hk2, ← List.map_take, ← List.map_drop,List.take_length, ← j7,vL];done));(iterate 12 (focus (simp [go_sem,simprocAttr,hb1,hb2,hb3,hk,hk2, ← List.map_take, ← List.map_drop,List.take_length, ← j7,vL];done)));try simp only [List.map_cons,List.map_nil])|(refine ah hX hC hP (kN rev vB hrev) rfl rfl rfl ?_ ?_ ?_ ?_;iterate 3 (focus (simp only [go_sem,simprocAttr,hb1,hb2,hb3,hk,hk2, ← List.map_take, ← List.map_drop,List.take_length, ← j7,vL];done)))|(refine ah hX hC hP (aW rev (iU rev) x3) rfl rfl rfl ?_ ?_ ?_ ?_;iterate 3 (focus (simp only [go_sem,simprocAttr,hb1,hb2,hb3,hk,hk2, ← List.map_take, ← List.map_drop,List.take_length, ← j7,vL];done)))|(refine cJ hX hC hP (fQ [rev.drop k2,rev.take k2] hc1 Ce Hw) rfl rfl rfl ?_ ?_ rfl ?_;iterate 2 (focus (simp only [go_sem,simprocAttr,hb1,hb2,hb3,hk,hk2, ← List.map_take, ← List.map_drop,List.take_length, ← j7,vL];done))));try simp only [go_sem,simprocAttr,hb1,hb2,hb3,hk,hk2, ← List.map_take, ← List.map_drop,List.take_length, ← j7,vL])|((with_reducible refine oD ?_ ?_);kernel_rfl)|((with_reducible intro h);try simp only [go_sem,simprocAttr,hb1,hb2,hb3,hk,hk2, ← List.map_take, ← List.map_drop,List.take_length, ← j7,vL] at h)|omega|intro h)
  rw [L6]
 ·have hb2:decide ((a:Int)∈way)=false:=decide_eq_false hmem
  have hv:=qu (f:=(·.2)) KX
  have Jh:(rV g a).length≤g.es.length:=jh
  repeat' (first|refine Rn.p ?_|(with_reducible apply And.intro)|((first|(refine hK _ ?_;clear hK K)|with_reducible intro K hK|refine Rs.p ?_|((with_reducible first|apply oP|apply oQ);exact rfl)|refine aa hX hC hP (kL g hm) rfl rfl rfl (by simp only [go_sem,simprocAttr,hb1,hb2,hv,aB]) rfl ?_|refine aa hX hC hP (cU bH.nil _ [] _ ji (cI g (aR g)) DB) rfl rfl rfl (by simp only [go_sem,simprocAttr,hb1,hb2,hv,aB]) rfl ?_|(refine ah hX hC hP (bn way a bX) rfl rfl rfl ?_ ?_ ?_ ?_;iterate 3 (focus (simp only [go_sem,simprocAttr,hb1,hb2,hv,aB];done)))|(refine ah hX hC hP (aW way a bX) rfl rfl rfl ?_ ?_ ?_ ?_;iterate 3 (focus (simp only [go_sem,simprocAttr,hb1,hb2,hv,aB];done)))|(refine au hX hC hP [(10000,75)] (eO (way.drop k) hlr) rfl rfl rfl ?_ ?_ ?_ ?_ ?_ ?_ ?_ ?_ ?_ ?_ ?_ ?_ ?_ ?_;(focus (simp only [go_sem,simprocAttr,hb1,hb2,hv,aB];done));(iterate 12 (focus (simp [go_sem,simprocAttr,hb1,hb2,hv,aB];done)));try simp only [List.map_cons,List.map_nil])|(refine ah hX hC hP (kN rev vB hrev) rfl rfl rfl ?_ ?_ ?_ ?_;iterate 3 (focus (simp only [go_sem,simprocAttr,hb1,hb2,hv,aB];done)))|(refine ah hX hC hP (aW rev (iU rev) x3) rfl rfl rfl ?_ ?_ ?_ ?_;iterate 3 (focus (simp only [go_sem,simprocAttr,hb1,hb2,hv,aB];done)))|(refine cJ hX hC hP (fQ [rev.drop k2,rev.take k2] hc1 Ce Hw) rfl rfl rfl ?_ ?_ rfl ?_;iterate 2 (focus (simp only [go_sem,simprocAttr,hb1,hb2,hv,aB];done))));try simp only [go_sem,simprocAttr,hb1,hb2,hv,aB])|((with_reducible refine oD ?_ ?_);kernel_rfl)|((with_reducible intro h);try simp only [go_sem,simprocAttr,hb1,hb2,hv,aB] at h)|omega|intro h)
  refine ai (fun j:Nat=>j≤(rV g a).length) (fun j=>⟨[(39,eN j),(38,eN (rV g a).length),(37, .d (sI (rV g a))),(7,eN (xZ g (cI g (aR g)) ((rV g a).take j))),(0, .d (M1 g)),(4, .d (sI (cI g (aR g)))),(6, .ref 30)], [(30, .own 3 1 ((way++ [(a:Int)]).map rI))]⟩) (fun j=>(rV g a).length - j) 0 (by simp) ?_ ?_
  ·refine Le.of ?_ ?_<;>simp [go_sem,simprocAttr,hb1,hb2,hv,aB,rV,rI,xZ]
  rintro j hj
  rcases Nat.lt_or_ge j (rV g a).length with hlt|hge
  ·have hb4:decide ((j:Int)<((rV g a).length:Int))=true:=decide_eq_true (by omega)
   obtain ⟨i,hi,hil,hit⟩:=zB (List.getElem_mem hlt)
   have hi1:(rV g a)[j]? =some (i:Int):=by rw [List.getElem?_eq_getElem hlt,hi]
   have hi2:(rV g a).getD j 0=(i:Int):=by rw [List.getD_eq_getElem?_getD,hi1];rfl
   obtain ⟨⟨L4,xJ⟩,_⟩:=cM hm hil
   have hstep:xZ g (cI g (aR g)) ((rV g a).take (j+1))=fR g (cI g (aR g)) (xZ g (cI g (aR g)) ((rV g a).take j)) i:=Fe hi1
   rw [HE] at hstep
   repeat' (first|refine Rn.p ?_|(with_reducible apply And.intro)|((first|(refine hK _ ?_;clear hK K)|with_reducible intro K hK|refine Rs.p ?_|((with_reducible first|apply oP|apply oQ);exact rfl)|refine aa hX hC hP (kL g hm) rfl rfl rfl (by simp only [go_sem,simprocAttr,hb4,hi2,wts_length]) rfl ?_|refine aa hX hC hP (cU bH.nil _ [] _ ji (cI g (aR g)) DB) rfl rfl rfl (by simp only [go_sem,simprocAttr,hb4,hi2,wts_length]) rfl ?_|(refine ah hX hC hP (bn way a bX) rfl rfl rfl ?_ ?_ ?_ ?_;iterate 3 (focus (simp only [go_sem,simprocAttr,hb4,hi2,wts_length];done)))|(refine ah hX hC hP (aW way a bX) rfl rfl rfl ?_ ?_ ?_ ?_;iterate 3 (focus (simp only [go_sem,simprocAttr,hb4,hi2,wts_length];done)))|(refine au hX hC hP [(10000,75)] (eO (way.drop k) hlr) rfl rfl rfl ?_ ?_ ?_ ?_ ?_ ?_ ?_ ?_ ?_ ?_ ?_ ?_ ?_ ?_;(focus (simp only [go_sem,simprocAttr,hb4,hi2,wts_length];done));(iterate 12 (focus (simp [go_sem,simprocAttr,hb4,hi2,wts_length];done)));try simp only [List.map_cons,List.map_nil])|(refine ah hX hC hP (kN rev vB hrev) rfl rfl rfl ?_ ?_ ?_ ?_;iterate 3 (focus (simp only [go_sem,simprocAttr,hb4,hi2,wts_length];done)))|(refine ah hX hC hP (aW rev (iU rev) x3) rfl rfl rfl ?_ ?_ ?_ ?_;iterate 3 (focus (simp only [go_sem,simprocAttr,hb4,hi2,wts_length];done)))|(refine cJ hX hC hP (fQ [rev.drop k2,rev.take k2] hc1 Ce Hw) rfl rfl rfl ?_ ?_ rfl ?_;iterate 2 (focus (simp only [go_sem,simprocAttr,hb4,hi2,wts_length];done))));try simp only [go_sem,simprocAttr,hb4,hi2,wts_length])|((with_reducible refine oD ?_ ?_);kernel_rfl)|((with_reducible intro h);try simp only [go_sem,simprocAttr,hb4,hi2,wts_length] at h)|omega|intro h)
   all_goals (refine ⟨j+1,by omega, ?_,by omega⟩;first|rw [if_pos (by omega)] at hstep|rw [if_neg (by omega)] at hstep)
   all_goals (refine Le.of ?_ ?_<;>simp [go_sem,simprocAttr,hb4,hi2,wts_length,hstep])
  ·have hb4:decide ((j:Int)<((rV g a).length:Int))=false:=decide_eq_false (by omega)
   have ht:(rV g a).take j=rV g a:=List.take_of_length_le (by omega)
   repeat' (first|refine Rn.p ?_|(with_reducible apply And.intro)|((first|(refine hK _ ?_;clear hK K)|with_reducible intro K hK|refine Rs.p ?_|((with_reducible first|apply oP|apply oQ);exact rfl)|refine aa hX hC hP (kL g hm) rfl rfl rfl (by simp only [go_sem,simprocAttr,hb4,ht]) rfl ?_|refine aa hX hC hP (cU bH.nil _ [] _ ji (cI g (aR g)) DB) rfl rfl rfl (by simp only [go_sem,simprocAttr,hb4,ht]) rfl ?_|(refine ah hX hC hP (bn way a bX) rfl rfl rfl ?_ ?_ ?_ ?_;iterate 3 (focus (simp only [go_sem,simprocAttr,hb4,ht];done)))|(refine ah hX hC hP (aW way a bX) rfl rfl rfl ?_ ?_ ?_ ?_;iterate 3 (focus (simp only [go_sem,simprocAttr,hb4,ht];done)))|(refine au hX hC hP [(10000,75)] (eO (way.drop k) hlr) rfl rfl rfl ?_ ?_ ?_ ?_ ?_ ?_ ?_ ?_ ?_ ?_ ?_ ?_ ?_ ?_;(focus (simp only [go_sem,simprocAttr,hb4,ht];done));(iterate 12 (focus (simp [go_sem,simprocAttr,hb4,ht];done)));try simp only [List.map_cons,List.map_nil])|(refine ah hX hC hP (kN rev vB hrev) rfl rfl rfl ?_ ?_ ?_ ?_;iterate 3 (focus (simp only [go_sem,simprocAttr,hb4,ht];done)))|(refine ah hX hC hP (aW rev (iU rev) x3) rfl rfl rfl ?_ ?_ ?_ ?_;iterate 3 (focus (simp only [go_sem,simprocAttr,hb4,ht];done)))|(refine cJ hX hC hP (fQ [rev.drop k2,rev.take k2] hc1 Ce Hw) rfl rfl rfl ?_ ?_ rfl ?_;iterate 2 (focus (simp only [go_sem,simprocAttr,hb4,ht];done))));try simp only [go_sem,simprocAttr,hb4,ht])|((with_reducible refine oD ?_ ?_);kernel_rfl)|((with_reducible intro h);try simp only [go_sem,simprocAttr,hb4,ht] at h)|omega|intro h)
   refine ⟨(way++ [(a:Int)],j6 g (cI g (aR g)) a),⟨Bc.next KX hmem,sW hm _ _ _ (.inl rfl) HF, ?_⟩, ?_, ?_⟩
   ·simp only
    rw [← hrun,jA KX hmem]
    simp only [lX]
    rw [if_neg (by intro h;rcases h with h|h;omega;exact hmem h)]
   ·refine Le.of ?_ ?_<;>simp [go_sem,simprocAttr,hb4,ht,j6]
   ·have:=jA KX hmem;simp only;omega
end Go.Ab
end
section
namespace Go.Ab
open Go.Proofs
attribute [local congr] ACall.congr gd.congr Nx.congr
set_option maxRecDepth 10000
def eF (f:Int × Int × List Int):AV:= .agg [eN f.1,eN f.2.1, .d (sI f.2.2)]
attribute [go_sem] eF
def jD (g:Gr):Int:=bQ (fun e:Edge=>decide (e.1=e.2)) g.es
def pq (g:Gr) (i:Nat):Bool:=decide (g.es.getD i (0,0)∈g.es.take i)
def dV (g:Gr):Int:=bQ (pq g) (List.range g.es.length)
def fS (g:Gr) (SG bare:List Int):Int × Int × List Int:=
 if aG g=false then (1,0, []) else
 if 0≤jD g then (13,jD g, []) else
 if 0≤dV g then (14,dV g, []) else
 if 0<SG.length then (15,0,SG) else
 if 1<bare.length then (16,0,bare.take 2) else (0,0, [])
def bT (g:Gr):Int × Int × List Int:=fS g (kP g) (bF (·.2) g)
theorem kR (e:Edge):Spec Tryz.prog 131 (Args [eE e]) [] (eB (decide (e.1=e.2))) []:=by
 (refine Spec.hd (C:=T.cfg [] []) (rs:= [.t 2]) (T.aj _ _) Tryz.func131 rfl rfl Tryz.ntmps131 Tryz.results131 (by simp [AObj.isNest]) (by simp [AObj.isNest]) (by kernel_rfl) T.mixed fun X hX hP hC aP bV=> ?_)
 repeat' (first|refine Rn.p ?_|(with_reducible apply And.intro)|((first|(refine hK _ ?_;clear hK K)|with_reducible intro K hK|refine Rs.p ?_|((with_reducible first|apply oP|apply oQ);exact rfl));try simp only [go_sem,simprocAttr])|((with_reducible refine oD ?_ ?_);kernel_rfl)|((with_reducible intro h);try simp only [go_sem,simprocAttr] at h)|omega|intro h)
theorem gO {n k:Nat} (h:k<n) (d:Nat):(List.range n).getD k d=k:=by
 simp [List.getD_eq_getElem?_getD,List.getElem?_range h]
theorem l7 (g:Gr) (hl:g.es.length≤1000):Spec Tryz.prog 88 (Args [eG g]) [] (eF (bT g)) []:=by
 have hl:g.es.length≤9223372036854775807:=by omega
 (refine Spec.hd (C:=T.cfg [] []) (rs:= [.c 2 66]) (T.aj _ _) Tryz.func88 rfl rfl Tryz.ntmps88 Tryz.results88 (by simp [AObj.isNest]) (by simp [AObj.isNest]) (by kernel_rfl) T.mixed fun X hX hP hC aP bV=> ?_)
 cases hm:aG g with
 |false=>
  repeat' (first|refine Rn.p ?_|(with_reducible apply And.intro)|((first|(refine hK _ ?_;clear hK K)|with_reducible intro K hK|refine Rs.p ?_|((with_reducible first|apply oP|apply oQ);exact rfl)|refine aa hX hC hP (gm g hl) rfl rfl rfl (by simp only [go_sem,simprocAttr,hm]) rfl ?_|refine aa hX hC hP (bP bH.nil _ [] _ kR g.es hl) rfl rfl rfl (by simp only [go_sem,simprocAttr,hm]) rfl ?_|refine aa hX hC hP (iT g hm) rfl rfl rfl (by simp only [go_sem,simprocAttr,hm]) rfl ?_|refine aa hX hC hP (jC g hm) rfl rfl rfl (by simp only [go_sem,simprocAttr,hm]) rfl ?_|refine aa hX hC hP (gr g hm) rfl rfl rfl (by simp only [go_sem,simprocAttr,hm]) rfl ?_|refine aa hX hC hP (ez (g.es.take k) (g.es.getD k (0,0)) hlk) rfl rfl rfl (by simp only [go_sem,simprocAttr,hm]) rfl ?_);try simp only [go_sem,simprocAttr,hm])|((with_reducible refine oD ?_ ?_);kernel_rfl)|((with_reducible intro h);try simp only [go_sem,simprocAttr,hm] at h)|omega|intro h)
  all_goals simp [bT,fS,hm]
 |true=>
 have hn:=aA hm
 by_cases hlo:0≤jD g
 ·have hb1:decide (0≤bQ (fun p:Edge=>decide (p.1=p.2)) g.es)=true:=decide_eq_true hlo
  repeat' (first|refine Rn.p ?_|(with_reducible apply And.intro)|((first|(refine hK _ ?_;clear hK K)|with_reducible intro K hK|refine Rs.p ?_|((with_reducible first|apply oP|apply oQ);exact rfl)|refine aa hX hC hP (gm g hl) rfl rfl rfl (by simp only [go_sem,simprocAttr,hm,hb1]) rfl ?_|refine aa hX hC hP (bP bH.nil _ [] _ kR g.es hl) rfl rfl rfl (by simp only [go_sem,simprocAttr,hm,hb1]) rfl ?_|refine aa hX hC hP (iT g hm) rfl rfl rfl (by simp only [go_sem,simprocAttr,hm,hb1]) rfl ?_|refine aa hX hC hP (jC g hm) rfl rfl rfl (by simp only [go_sem,simprocAttr,hm,hb1]) rfl ?_|refine aa hX hC hP (gr g hm) rfl rfl rfl (by simp only [go_sem,simprocAttr,hm,hb1]) rfl ?_|refine aa hX hC hP (ez (g.es.take k) (g.es.getD k (0,0)) hlk) rfl rfl rfl (by simp only [go_sem,simprocAttr,hm,hb1]) rfl ?_);try simp only [go_sem,simprocAttr,hm,hb1])|((with_reducible refine oD ?_ ?_);kernel_rfl)|((with_reducible intro h);try simp only [go_sem,simprocAttr,hm,hb1] at h)|omega|intro h)
  all_goals (
   have hc:bT g=(13,jD g, []):=by
    simp only [bT,fS];rw [if_neg (by simp [hm]),if_pos hlo]
   rw [hc]<;>rfl)
 have hb1:decide (0≤bQ (fun p:Edge=>decide (p.1=p.2)) g.es)=false:=decide_eq_false hlo
 repeat' (first|refine Rn.p ?_|(with_reducible apply And.intro)|((first|(refine hK _ ?_;clear hK K)|with_reducible intro K hK|refine Rs.p ?_|((with_reducible first|apply oP|apply oQ);exact rfl)|refine aa hX hC hP (gm g hl) rfl rfl rfl (by simp only [go_sem,simprocAttr,hm,hb1]) rfl ?_|refine aa hX hC hP (bP bH.nil _ [] _ kR g.es hl) rfl rfl rfl (by simp only [go_sem,simprocAttr,hm,hb1]) rfl ?_|refine aa hX hC hP (iT g hm) rfl rfl rfl (by simp only [go_sem,simprocAttr,hm,hb1]) rfl ?_|refine aa hX hC hP (jC g hm) rfl rfl rfl (by simp only [go_sem,simprocAttr,hm,hb1]) rfl ?_|refine aa hX hC hP (gr g hm) rfl rfl rfl (by simp only [go_sem,simprocAttr,hm,hb1]) rfl ?_|refine aa hX hC hP (ez (g.es.take k) (g.es.getD k (0,0)) hlk) rfl rfl rfl (by simp only [go_sem,simprocAttr,hm,hb1]) rfl ?_);try simp only [go_sem,simprocAttr,hm,hb1])|((with_reducible refine oD ?_ ?_);kernel_rfl)|((with_reducible intro h);try simp only [go_sem,simprocAttr,hm,hb1] at h)|omega|intro h)
 refine ai (fun k:Nat=>k≤g.es.length∧∀j,j<k→pq g j=false) (fun k=>⟨[(23,eN k),(22,eN g.es.length),(21, .d (sE g.es)),(1, .ptr 1 0),(2, .ptr 2 0)], [(1, .box [eN g.n, .d (sE g.es)]),(2, .box [eN 0,eN 0, .nil 3])]⟩) (fun k=>g.es.length - k) 0 (by simp) ?_ ?_
 ·(refine Le.of ?_ ?_<;>simp [go_sem,simprocAttr,hm,hb1])
 rintro k ⟨hk,HG⟩
 rcases Nat.lt_or_ge k g.es.length with hlt|hge
 ·have hb2:decide ((k:Int)<(g.es.length:Int))=true:=decide_eq_true (by omega)
  have hlk:(g.es.take k).length≤9223372036854775807:=by rw [List.length_take];omega
  repeat' (first|refine Rn.p ?_|(with_reducible apply And.intro)|((first|(refine hK _ ?_;clear hK K)|with_reducible intro K hK|refine Rs.p ?_|((with_reducible first|apply oP|apply oQ);exact rfl)|refine aa hX hC hP (gm g hl) rfl rfl rfl (by simp only [go_sem,simprocAttr,hm,hb1,hb2, ← List.map_take]) rfl ?_|refine aa hX hC hP (bP bH.nil _ [] _ kR g.es hl) rfl rfl rfl (by simp only [go_sem,simprocAttr,hm,hb1,hb2, ← List.map_take]) rfl ?_|refine aa hX hC hP (iT g hm) rfl rfl rfl (by simp only [go_sem,simprocAttr,hm,hb1,hb2, ← List.map_take]) rfl ?_|refine aa hX hC hP (jC g hm) rfl rfl rfl (by simp only [go_sem,simprocAttr,hm,hb1,hb2, ← List.map_take]) rfl ?_|refine aa hX hC hP (gr g hm) rfl rfl rfl (by simp only [go_sem,simprocAttr,hm,hb1,hb2, ← List.map_take]) rfl ?_|refine aa hX hC hP (ez (g.es.take k) (g.es.getD k (0,0)) hlk) rfl rfl rfl (by simp only [go_sem,simprocAttr,hm,hb1,hb2, ← List.map_take]) rfl ?_);try simp only [go_sem,simprocAttr,hm,hb1,hb2, ← List.map_take])|((with_reducible refine oD ?_ ?_);kernel_rfl)|((with_reducible intro h);try simp only [go_sem,simprocAttr,hm,hb1,hb2, ← List.map_take] at h)|omega|intro h)
  any_goals (
   have Ru:dV g=(k:Int):=c8 (d:=0) (by simpa using hlt) (fun j hj=>by rw [gO (by omega)];exact HG j hj) (by rw [gO hlt];exact decide_eq_true h)
   have hc:bT g=(14,dV g, []):=by
    simp only [bT,fS];rw [if_neg (by simp [hm]),if_neg hlo,if_pos (by omega)]
   rw [hc]<;>first|rfl|exact Ru.symm)
  refine ⟨k+1,⟨by omega,fun j hj=> ?_⟩, ?_,by omega⟩
  ·by_cases hjk:j=k
   ·subst hjk;exact decide_eq_false h
   ·exact HG j (by omega)
  ·(refine Le.of ?_ ?_<;>simp [go_sem,simprocAttr,hm,hb1,hb2, ← List.map_take])
 ·have hb2:decide ((k:Int)<(g.es.length:Int))=false:=decide_eq_false (by omega)
  have HH:¬0≤dV g:=by
   have:dV g= -1:=cL 0 fun j hj=>by
    rw [List.length_range] at hj
    rw [gO hj];exact HG j (by omega)
   omega
  repeat' (first|refine Rn.p ?_|(with_reducible apply And.intro)|((first|(refine hK _ ?_;clear hK K)|with_reducible intro K hK|refine Rs.p ?_|((with_reducible first|apply oP|apply oQ);exact rfl)|refine aa hX hC hP (gm g hl) rfl rfl rfl (by simp only [go_sem,simprocAttr,hm,hb1,hb2]) rfl ?_|refine aa hX hC hP (bP bH.nil _ [] _ kR g.es hl) rfl rfl rfl (by simp only [go_sem,simprocAttr,hm,hb1,hb2]) rfl ?_|refine aa hX hC hP (iT g hm) rfl rfl rfl (by simp only [go_sem,simprocAttr,hm,hb1,hb2]) rfl ?_|refine aa hX hC hP (jC g hm) rfl rfl rfl (by simp only [go_sem,simprocAttr,hm,hb1,hb2]) rfl ?_|refine aa hX hC hP (gr g hm) rfl rfl rfl (by simp only [go_sem,simprocAttr,hm,hb1,hb2]) rfl ?_|refine aa hX hC hP (ez (g.es.take k) (g.es.getD k (0,0)) hlk) rfl rfl rfl (by simp only [go_sem,simprocAttr,hm,hb1,hb2]) rfl ?_);try simp only [go_sem,simprocAttr,hm,hb1,hb2])|((with_reducible refine oD ?_ ?_);kernel_rfl)|((with_reducible intro h);try simp only [go_sem,simprocAttr,hm,hb1,hb2] at h)|omega|intro h)
  all_goals (
   have hc:bT g=if 0<(kP g).length then (15,0,kP g) else if 1<(bF (·.2) g).length then (16,0,(bF (·.2) g).take 2) else (0,0, []):=by
    simp only [bT,fS];rw [if_neg (by simp [hm]),if_neg hlo,if_neg HH]
   first|rw [if_pos (by omega)] at hc|(rw [if_neg (by omega)] at hc;first|rw [if_pos (by omega)] at hc|rw [if_neg (by omega)] at hc)
   rw [hc]<;>first|rfl|simp only [List.map_take])
end Go.Ab
end
section
namespace Go.Ab
open Go.Proofs
attribute [local congr] ACall.congr gd.congr Nx.congr
set_option maxRecDepth 10000
theorem bD (ps:List Int) (x:Int) (hl:ps.length≤9223372036854775807):
 Spec Tryz.prog 192 (Args [.d (sI ps),eN x]) [] (eN (fY ps x)) []:=by
 (refine Spec.hd (C:=T.cfg [] []) (rs:= [.t 4]) (T.aj _ _) Tryz.func192 rfl rfl Tryz.ntmps192 Tryz.results192 (by simp [AObj.isNest]) (by simp [AObj.isNest]) (by kernel_rfl) T.mixed fun X hX hP hC aP bV=> ?_)
 repeat' (first|refine Rn.p ?_|(with_reducible apply And.intro)|((first|(refine hK _ ?_;clear hK K)|with_reducible intro K hK|refine Rs.p ?_|((with_reducible first|apply oP|apply oQ);exact rfl));try simp only [go_sem,simprocAttr])|((with_reducible refine oD ?_ ?_);kernel_rfl)|((with_reducible intro h);try simp only [go_sem,simprocAttr] at h)|omega|intro h)
 refine ai (fun k:Nat=>k≤ps.length∧∀j,j<k→decide (x=ps.getD j 0)=false) (fun k=>⟨[(0, .d (sI ps)),(1,eN x),(5,eN k)], []⟩) (fun k=>ps.length - k) 0 (by simp) ?_ ?_
 ·(refine ⟨c7 ?_,fun _ _ h=>h⟩;simp [go_sem,simprocAttr])
 rintro k ⟨hk,hg⟩
 repeat' (first|refine Rn.p ?_|(with_reducible apply And.intro)|((first|(refine hK _ ?_;clear hK K)|with_reducible intro K hK|refine Rs.p ?_|((with_reducible first|apply oP|apply oQ);exact rfl));try simp only [go_sem,simprocAttr])|((with_reducible refine oD ?_ ?_);kernel_rfl)|((with_reducible intro h);try simp only [go_sem,simprocAttr] at h)|omega|intro h)
 ·exact (c8 (by omega) hg (by simpa using h.symm)).symm
 ·refine ⟨k+1,⟨by omega,fun j hj=> ?_⟩, ?_,by omega⟩
  ·by_cases hjk:j=k
   ·subst hjk;exact fun e=>h (Eq.symm e)
   ·simpa using hg j (by omega)
  ·(refine ⟨c7 ?_,fun _ _ h=>h⟩;simp [go_sem,simprocAttr])
 ·exact (cL 0 fun j hj=>hg j (by omega)).symm
def aK (f:Edge→Int) (es:List Edge) (k:Nat) (x:Int):List Int:=((List.range k).filter fun i=>decide (f (es.getD i (0,0))=x)).map Int.ofNat
theorem ni (f:Edge→Int) (es:List Edge) (k x:Nat):fO f es k x=aK f es k (x:Int):=rfl
theorem jj {f:Edge→Int} {es:List Edge} {k:Nat} {x:Int} :(aK f es k x).length≤k:=by
 simpa [aK] using List.length_filter_le (fun i=>decide (f (es.getD i (0,0))=x)) (List.range k)
theorem vC {f:Edge→Int} {es:List Edge} {k:Nat} {x:Int} :aK f es (k+1) x=aK f es k x++if f (es.getD k (0,0))=x then [(k:Int)] else []:=by
 simp only [aK,List.range_succ,List.filter_append,List.map_append,List.filter_cons,List.filter_nil]
 split<;>simp_all
def nj (b:Bool) (e:Edge):Int:=if b then e.1 else e.2
theorem rW (g:Gr) (x:Int) (b:Bool) (hl:g.es.length≤1000):Spec Tryz.prog 56 (Args [eG g,eN x,eB b]) [] (.d (sI (aK (nj b) g.es g.es.length x))) []:=by
 (refine Spec.hd (C:=T.cfg [] []) (rs:= [.t 6]) (T.aj _ _) Tryz.func56 rfl rfl Tryz.ntmps56 Tryz.results56 (by simp [AObj.isNest]) (by simp [AObj.isNest]) (by kernel_rfl) T.mixed fun X hX hP hC aP bV=> ?_)
 repeat' (first|refine Rn.p ?_|(with_reducible apply And.intro)|((first|(refine hK _ ?_;clear hK K)|with_reducible intro K hK|refine Rs.p ?_|((with_reducible first|apply oP|apply oQ);exact rfl));try simp only [go_sem,simprocAttr])|((with_reducible refine oD ?_ ?_);kernel_rfl)|((with_reducible intro h);try simp only [go_sem,simprocAttr] at h)|omega|intro h)
 (refine rO hX 7 9 45 (by simp only [go_sem,simprocAttr]) rfl (by first|exact .inl rfl|exact .inr rfl) (by decide) ?_;simp only [go_sem,simprocAttr])
 refine ai (fun k:Nat=>k≤g.es.length) (fun k=>⟨[(1,eN x),(2,eB b),(3, .ptr 3 0),(8,eN k),(7, .ref 45)], [(3, .box [eN g.n, .d (sE g.es)]),(45, .tip 3 1 ((aK (nj b) g.es k x).map rI))]⟩) (fun k=>g.es.length - k) 0 (by simp) ?_ ?_
 ·refine Le.of ?_ ?_<;>simp [go_sem,simprocAttr,aK]
 rintro k hk
 rcases Nat.lt_or_ge k g.es.length with hlt|hge
 ·have hb:decide ((k:Int)<(g.es.length:Int))=true:=decide_eq_true (by omega)
  have j0:=jj (f:=nj b) (es:=g.es) (k:=k) (x:=x)
  cases b
  ·have cE:aK (nj false) g.es (k+1) x=aK (nj false) g.es k x++if (g.es.getD k (0,0)).2=x then [(k:Int)] else []:=vC
   repeat' (first|refine Rn.p ?_|(with_reducible apply And.intro)|((first|(refine hK _ ?_;clear hK K)|with_reducible intro K hK|refine Rs.p ?_|((with_reducible first|apply oP|apply oQ);exact rfl));try simp only [go_sem,simprocAttr,hb])|((with_reducible refine oD ?_ ?_);kernel_rfl)|((with_reducible intro h);try simp only [go_sem,simprocAttr,hb] at h)|omega|intro h)
   all_goals (first|rw [if_pos (by assumption)] at cE|rw [if_neg (by assumption),List.append_nil] at cE)
   all_goals (refine ⟨k+1,by omega, ?_,by omega⟩;refine Le.of ?_ ?_<;>simp [go_sem,simprocAttr,hb,cE,rI])
  ·have cE:aK (nj true) g.es (k+1) x=aK (nj true) g.es k x++if (g.es.getD k (0,0)).1=x then [(k:Int)] else []:=vC
   repeat' (first|refine Rn.p ?_|(with_reducible apply And.intro)|((first|(refine hK _ ?_;clear hK K)|with_reducible intro K hK|refine Rs.p ?_|((with_reducible first|apply oP|apply oQ);exact rfl));try simp only [go_sem,simprocAttr,hb])|((with_reducible refine oD ?_ ?_);kernel_rfl)|((with_reducible intro h);try simp only [go_sem,simprocAttr,hb] at h)|omega|intro h)
   all_goals (first|rw [if_pos (by assumption)] at cE|rw [if_neg (by assumption),List.append_nil] at cE)
   all_goals (refine ⟨k+1,by omega, ?_,by omega⟩;refine Le.of ?_ ?_<;>simp [go_sem,simprocAttr,hb,cE,rI])
 ·have hb:decide ((k:Int)<(g.es.length:Int))=false:=decide_eq_false (by omega)
  obtain rfl:k=g.es.length:=by omega
  repeat' (first|refine Rn.p ?_|(with_reducible apply And.intro)|((first|(refine hK _ ?_;clear hK K)|with_reducible intro K hK|refine Rs.p ?_|((with_reducible first|apply oP|apply oQ);exact rfl));try simp only [go_sem,simprocAttr,hb])|((with_reducible refine oD ?_ ?_);kernel_rfl)|((with_reducible intro h);try simp only [go_sem,simprocAttr,hb] at h)|omega|intro h)
theorem cF (g:Gr) (b:Bool) (hl:g.es.length≤1000) (hn:0≤g.n∧g.n≤1000):Spec Tryz.prog 31 (Args [eG g,eB b]) [] (.d (sI (bF (nj (!b)) g))) []:=by
 (refine Spec.hd (C:=T.cfg [] []) (rs:= [.t 4]) (T.aj _ _) Tryz.func31 rfl rfl Tryz.ntmps31 Tryz.results31 (by simp [AObj.isNest]) (by simp [AObj.isNest]) (by kernel_rfl) T.mixed fun X hX hP hC aP bV=> ?_)
 repeat' (first|refine Rn.p ?_|(with_reducible apply And.intro)|((first|(refine hK _ ?_;clear hK K)|with_reducible intro K hK|refine Rs.p ?_|((with_reducible first|apply oP|apply oQ);exact rfl)|refine aa hX hC hP (rW g (k:Int) (!b) hl) rfl rfl rfl (by simp only [go_sem,simprocAttr]) rfl ?_);try simp only [go_sem,simprocAttr])|((with_reducible refine oD ?_ ?_);kernel_rfl)|((with_reducible intro h);try simp only [go_sem,simprocAttr] at h)|omega|intro h)
 (refine rO hX 5 7 24 (by simp only [go_sem,simprocAttr]) rfl (by first|exact .inl rfl|exact .inr rfl) (by decide) ?_;simp only [go_sem,simprocAttr])
 refine ai (fun k:Nat=>k≤g.n.toNat) (fun k=>⟨[(1,eB b),(2, .ptr 2 0),(6,eN k),(5, .ref 24)], [(2, .box [eN g.n, .d (sE g.es)]),(24, .tip 3 1 ((jz (dw (nj (!b)) g) k).map rI))]⟩) (fun k=>g.n.toNat - k) 0 (by simp) ?_ ?_
 ·refine Le.of ?_ ?_<;>simp [go_sem,simprocAttr,jz]
 rintro k hk
 rcases Nat.lt_or_ge k g.n.toNat with hlt|hge
 ·have hb:decide ((k:Int)<g.n)=true:=decide_eq_true (by omega)
  have j0:=xX (ls:=dw (nj (!b)) g) (k:=k)
  have he:(dw (nj (!b)) g).getD k []=aK (nj (!b)) g.es g.es.length (k:Int):=by
   simp [dw,List.getD_eq_getElem?_getD,List.getElem?_range hlt,ni]
  have cE:=pn (ls:=dw (nj (!b)) g) (k:=k)
  rw [he] at cE
  repeat' (first|refine Rn.p ?_|(with_reducible apply And.intro)|((first|(refine hK _ ?_;clear hK K)|with_reducible intro K hK|refine Rs.p ?_|((with_reducible first|apply oP|apply oQ);exact rfl)|refine aa hX hC hP (rW g (k:Int) (!b) hl) rfl rfl rfl (by simp only [go_sem,simprocAttr,hb]) rfl ?_);try simp only [go_sem,simprocAttr,hb])|((with_reducible refine oD ?_ ?_);kernel_rfl)|((with_reducible intro h);try simp only [go_sem,simprocAttr,hb] at h)|omega|intro h)
  all_goals (first|rw [if_pos (by omega)] at cE|rw [if_neg (by omega),List.append_nil] at cE)
  all_goals (refine ⟨k+1,by omega, ?_,by omega⟩;refine Le.of ?_ ?_<;>simp [go_sem,simprocAttr,hb,cE,rI])
 ·have hb:decide ((k:Int)<g.n)=false:=decide_eq_false (by omega)
  obtain rfl:k=g.n.toNat:=by omega
  repeat' (first|refine Rn.p ?_|(with_reducible apply And.intro)|((first|(refine hK _ ?_;clear hK K)|with_reducible intro K hK|refine Rs.p ?_|((with_reducible first|apply oP|apply oQ);exact rfl)|refine aa hX hC hP (rW g (k:Int) (!b) hl) rfl rfl rfl (by simp only [go_sem,simprocAttr,hb]) rfl ?_);try simp only [go_sem,simprocAttr,hb])|((with_reducible refine oD ?_ ?_);kernel_rfl)|((with_reducible intro h);try simp only [go_sem,simprocAttr,hb] at h)|omega|intro h)
  rfl
end Go.Ab
end
section
namespace Go.Ab
open Go.Proofs
attribute [local congr] ACall.congr gd.congr Nx.congr
set_option maxRecDepth 10000
def rB (b:Bool):List D:= [.sc (.bool b)]
def sB (l:List Bool):D:= .sl 1 (l.map rB)
theorem getD_rB (l:List Bool) (i:Nat):(l.map rB).getD i [.sc (.bool false)]= [.sc (.bool (l.getD i false))]:=by
 simp only [List.getD_eq_getElem?_getD,List.getElem?_map]
 cases l[i]? <;>rfl
attribute [go_sem] getD_rB sB
theorem nk (l:List Bool) (k:Nat) (v:Bool):(l.map rB).set k [.sc (.bool v)]=(l.set k v).map rB:=by
 rw [List.map_set];rfl
theorem x4 {α:Type} {n k:Nat} {f:Nat→α} {v:α} :((List.range n).map f).set k v=(List.range n).map fun y=>if y=k then v else f y:=by
 refine List.ext_getElem? fun i=> ?_
 rw [List.getElem?_set,List.length_map,List.length_range]
 by_cases hi:i<n
 ·rw [List.getElem?_map,List.getElem?_map,List.getElem?_range hi]
  by_cases h:k=i
  ·subst h;simp [hi]
  ·have:¬i=k:=fun e=>h e.symm
   simp [h,this]
 ·rw [List.getElem?_eq_none (by simp;omega),List.getElem?_eq_none (by simp;omega)]
  split
  ·rw [if_neg (by omega)]
  ·rfl
def kS (n k:Nat):List Bool:=(List.range n).map fun y=>decide (y<k)
def fm (g:Gr) (l:List Bool) (j:Nat):List Bool:=(List.range g.n.toNat).map fun y:Nat=>(List.range j).any fun i=>decide (hd g i=(y:Int))&&(l.getD (tl g i).toNat false&&l.getD (hd g i).toNat false)
def fT (g:Gr):Nat→List Bool
 |0=>kS g.n.toNat g.n.toNat
 |k+1=>fm g (fT g k) g.es.length
theorem trueK_length {n k:Nat} :(kS n k).length=n:=by simp [kS]
theorem nextK_length {g:Gr} {l:List Bool} {j:Nat} :(fm g l j).length=g.n.toNat:=by simp [fm]
theorem leftK_length {g:Gr} {k:Nat} :(fT g k).length=g.n.toNat:=by
 cases k
 ·exact trueK_length
 ·exact nextK_length
theorem CG {n:Nat} :List.replicate n [D.sc (.bool false)]=(kS n 0).map rB:=by
 refine List.ext_getElem? fun i=> ?_
 by_cases hi:i<n
 ·simp [kS,hi,rB,List.getElem?_range hi]
 ·rw [List.getElem?_eq_none (by simp;omega),List.getElem?_eq_none (by simp [kS];omega)]
theorem l8 {n k:Nat} :(kS n k).set k true=kS n (k+1):=by
 unfold kS;rw [x4]
 refine List.map_congr_left fun y _=> ?_
 split
 ·rename_i h;subst h;simp
 ·rename_i h
  rw [Bool.eq_iff_iff];simp;omega
theorem CH {g:Gr} {l:List Bool} :List.replicate g.n.toNat [D.sc (.bool false)]=(fm g l 0).map rB:=by
 refine List.ext_getElem? fun i=> ?_
 by_cases hi:i<g.n.toNat
 ·simp [fm,hi,rB,List.getElem?_range hi]
 ·rw [List.getElem?_eq_none (by simp;omega),List.getElem?_eq_none (by simp [fm];omega)]
theorem Ff {g:Gr} {l:List Bool} {j:Nat} (h0:0≤hd g j) (h:(l.getD (tl g j).toNat false&&l.getD (hd g j).toNat false)=true):(fm g l j).set (hd g j).toNat true=fm g l (j+1):=by
 unfold fm;rw [x4]
 refine List.map_congr_left fun y _=> ?_
 rw [List.range_succ,List.any_append]
 simp only [List.any_cons,List.any_nil,h,Bool.and_true,Bool.or_false]
 split
 ·rename_i e
  have:hd g j=(y:Int):=by omega
  simp [this]
 ·rename_i e
  have:¬hd g j=(y:Int):=by omega
  simp [this]
theorem HI {g:Gr} {l:List Bool} {j:Nat} (h:(l.getD (tl g j).toNat false&&l.getD (hd g j).toNat false)=false):fm g l j=fm g l (j+1):=by
 unfold fm
 refine List.map_congr_left fun y _=> ?_
 rw [List.range_succ,List.any_append]
 simp only [List.any_cons,List.any_nil,h,Bool.and_false,Bool.or_false]
attribute [go_sem] trueK_length nextK_length leftK_length
theorem cV (g:Gr) (hm:aG g=true):Spec Tryz.prog 191 (Args [eG g]) [] (.d (sB (fT g g.n.toNat))) []:=by
 have hn:=aA hm
 (refine Spec.hd (C:=T.cfg [] []) (rs:= [.t 2]) (T.aj _ _) Tryz.func191 rfl rfl Tryz.ntmps191 Tryz.results191 (by simp [AObj.isNest]) (by simp [AObj.isNest]) (by kernel_rfl) T.mixed fun X hX hP hC aP bV=> ?_)
 repeat' (first|(show bY _ (.seq (.region 6 _ _) _) _ _;(refine cP hX 11 rfl (.inl rfl) ?_;simp only [go_sem,simprocAttr]))|(show bY _ (.region 8 _ _) _ _;(refine cP hX 29 rfl (.inl rfl) ?_;simp only [go_sem,simprocAttr]))|refine Rn.p ?_|(with_reducible apply And.intro)|((first|(refine hK _ ?_;clear hK K)|with_reducible intro K hK|refine Rs.p ?_|((with_reducible first|apply oP|apply oQ);exact rfl));try simp only [go_sem,simprocAttr])|((with_reducible refine oD ?_ ?_);kernel_rfl)|((with_reducible intro h);try simp only [go_sem,simprocAttr] at h)|omega|intro h)
 refine ai (fun k:Nat=>k≤g.n.toNat) (fun k=>⟨[(1, .ptr 1 0),(4,eN k),(3, .ref 11)], [(1, .box [eN g.n, .d (sE g.es)]),(11, .own 4 1 ((kS g.n.toNat k).map rB))]⟩) (fun k=>g.n.toNat - k) 0 (by simp) ?_ ?_
 ·refine Le.of ?_ ?_<;>simp [go_sem,simprocAttr]
  exact CG
 rintro k hk
 rcases Nat.lt_or_ge k g.n.toNat with hlt|hge
 ·have hb:decide ((k:Int)<g.n)=true:=decide_eq_true (by omega)
  repeat' (first|(show bY _ (.seq (.region 6 _ _) _) _ _;(refine cP hX 11 rfl (.inl rfl) ?_;simp only [go_sem,simprocAttr,hb,nk,l8]))|(show bY _ (.region 8 _ _) _ _;(refine cP hX 29 rfl (.inl rfl) ?_;simp only [go_sem,simprocAttr,hb,nk,l8]))|refine Rn.p ?_|(with_reducible apply And.intro)|((first|(refine hK _ ?_;clear hK K)|with_reducible intro K hK|refine Rs.p ?_|((with_reducible first|apply oP|apply oQ);exact rfl));try simp only [go_sem,simprocAttr,hb,nk,l8])|((with_reducible refine oD ?_ ?_);kernel_rfl)|((with_reducible intro h);try simp only [go_sem,simprocAttr,hb,nk,l8] at h)|omega|intro h)
  refine ⟨k+1,by omega, ?_,by omega⟩
  (refine Le.of ?_ ?_<;>simp [go_sem,simprocAttr])
 ·have hb:decide ((k:Int)<g.n)=false:=decide_eq_false (by omega)
  obtain rfl:k=g.n.toNat:=by omega
  repeat' (first|(show bY _ (.seq (.region 6 _ _) _) _ _;(refine cP hX 11 rfl (.inl rfl) ?_;simp only [go_sem,simprocAttr,hb]))|(show bY _ (.region 8 _ _) _ _;(refine cP hX 29 rfl (.inl rfl) ?_;simp only [go_sem,simprocAttr,hb]))|refine Rn.p ?_|(with_reducible apply And.intro)|((first|(refine hK _ ?_;clear hK K)|with_reducible intro K hK|refine Rs.p ?_|((with_reducible first|apply oP|apply oQ);exact rfl));try simp only [go_sem,simprocAttr,hb])|((with_reducible refine oD ?_ ?_);kernel_rfl)|((with_reducible intro h);try simp only [go_sem,simprocAttr,hb] at h)|omega|intro h)
  clear hb hk hge
  refine ai (fun k:Nat=>k≤g.n.toNat) (fun k=>⟨[(1, .ptr 1 0),(5,eN k),(3, .d (sB (fT g k)))], [(1, .box [eN g.n, .d (sE g.es)])]⟩) (fun k=>g.n.toNat - k) 0 (by simp) ?_ ?_
  ·refine Le.of ?_ ?_<;>simp [go_sem,simprocAttr,fT]
  rintro k hk
  rcases Nat.lt_or_ge k g.n.toNat with hlt|hge
  ·have hb:decide ((k:Int)<g.n)=true:=decide_eq_true (by omega)
   repeat' (first|(show bY _ (.seq (.region 6 _ _) _) _ _;(refine cP hX 11 rfl (.inl rfl) ?_;simp only [go_sem,simprocAttr,hb]))|(show bY _ (.region 8 _ _) _ _;(refine cP hX 29 rfl (.inl rfl) ?_;simp only [go_sem,simprocAttr,hb]))|refine Rn.p ?_|(with_reducible apply And.intro)|((first|(refine hK _ ?_;clear hK K)|with_reducible intro K hK|refine Rs.p ?_|((with_reducible first|apply oP|apply oQ);exact rfl));try simp only [go_sem,simprocAttr,hb])|((with_reducible refine oD ?_ ?_);kernel_rfl)|((with_reducible intro h);try simp only [go_sem,simprocAttr,hb] at h)|omega|intro h)
   refine ai (fun j:Nat=>j≤g.es.length) (fun j=>⟨[(1, .ptr 1 0),(5,eN k),(3, .d (sB (fT g k))),(7,eN j),(6, .ref 29)], [(1, .box [eN g.n, .d (sE g.es)]),(29, .own 4 1 ((fm g (fT g k) j).map rB))]⟩) (fun j=>g.es.length - j) 0 (by simp) ?_ ?_
   ·refine Le.of ?_ ?_<;>simp [go_sem,simprocAttr]
    exact CH
   rintro j hj
   rcases Nat.lt_or_ge j g.es.length with hjl|SH
   ·have hb2:decide ((j:Int)<(g.es.length:Int))=true:=decide_eq_true (by omega)
    obtain ⟨⟨L4,xJ⟩,⟨Ca,yY⟩⟩:=cM hm hjl
    repeat' (first|(show bY _ (.seq (.region 6 _ _) _) _ _;(refine cP hX 11 rfl (.inl rfl) ?_;simp only [go_sem,simprocAttr,hb2,nk]))|(show bY _ (.region 8 _ _) _ _;(refine cP hX 29 rfl (.inl rfl) ?_;simp only [go_sem,simprocAttr,hb2,nk]))|refine Rn.p ?_|(with_reducible apply And.intro)|((first|(refine hK _ ?_;clear hK K)|with_reducible intro K hK|refine Rs.p ?_|((with_reducible first|apply oP|apply oQ);exact rfl));try simp only [go_sem,simprocAttr,hb2,nk])|((with_reducible refine oD ?_ ?_);kernel_rfl)|((with_reducible intro h);try simp only [go_sem,simprocAttr,hb2,nk] at h)|omega|intro h)
    ·have hy:(fm g (fT g k) j).set (g.es.getD j (0,0)).2.toNat true=fm g (fT g k) (j+1):=Ff Ca (by rw [Bool.and_eq_true];exact ⟨by assumption,by assumption⟩)
     refine ⟨j+1,by omega, ?_,by omega⟩
     refine Le.of ?_ ?_<;>simp [go_sem,simprocAttr]
     rw [← hy,List.map_set];rfl
    all_goals (
     have hy:fm g (fT g k) j=fm g (fT g k) (j+1):=HI (Bool.and_eq_false_iff.2 (by first|exact .inl (by assumption)|exact .inr (by assumption)))
     refine ⟨j+1,by omega, ?_,by omega⟩
     refine Le.of ?_ ?_<;>simp [go_sem,simprocAttr, ← hy])
   ·have hb2:decide ((j:Int)<(g.es.length:Int))=false:=decide_eq_false (by omega)
    obtain rfl:j=g.es.length:=by omega
    repeat' (first|(show bY _ (.seq (.region 6 _ _) _) _ _;(refine cP hX 11 rfl (.inl rfl) ?_;simp only [go_sem,simprocAttr,hb2]))|(show bY _ (.region 8 _ _) _ _;(refine cP hX 29 rfl (.inl rfl) ?_;simp only [go_sem,simprocAttr,hb2]))|refine Rn.p ?_|(with_reducible apply And.intro)|((first|(refine hK _ ?_;clear hK K)|with_reducible intro K hK|refine Rs.p ?_|((with_reducible first|apply oP|apply oQ);exact rfl));try simp only [go_sem,simprocAttr,hb2])|((with_reducible refine oD ?_ ?_);kernel_rfl)|((with_reducible intro h);try simp only [go_sem,simprocAttr,hb2] at h)|omega|intro h)
    refine ⟨k+1,by omega, ?_,by omega⟩
    refine Le.of ?_ ?_<;>simp [go_sem,simprocAttr,fT]
  ·have hb:decide ((k:Int)<g.n)=false:=decide_eq_false (by omega)
   obtain rfl:k=g.n.toNat:=by omega
   repeat' (first|(show bY _ (.seq (.region 6 _ _) _) _ _;(refine cP hX 11 rfl (.inl rfl) ?_;simp only [go_sem,simprocAttr,hb]))|(show bY _ (.region 8 _ _) _ _;(refine cP hX 29 rfl (.inl rfl) ?_;simp only [go_sem,simprocAttr,hb]))|refine Rn.p ?_|(with_reducible apply And.intro)|((first|(refine hK _ ?_;clear hK K)|with_reducible intro K hK|refine Rs.p ?_|((with_reducible first|apply oP|apply oQ);exact rfl));try simp only [go_sem,simprocAttr,hb])|((with_reducible refine oD ?_ ?_);kernel_rfl)|((with_reducible intro h);try simp only [go_sem,simprocAttr,hb] at h)|omega|intro h)
end Go.Ab
end
section
namespace Go.Ab
open Go.Proofs
attribute [local congr] ACall.congr gd.congr Nx.congr
set_option maxRecDepth 10000
def zC (g:Gr):List Bool:=fT g g.n.toNat
theorem vD {g:Gr} :fT g g.n.toNat=zC g:=rfl
def Ji (g:Gr):Int:=if bQ (fun b:Bool=>b) (zC g)<0 then g.n else bQ (fun b:Bool=>b) (zC g)
def zD (g:Gr) (x:Int) (b:Int) (i:Nat):Int:=if hd g i=x∧(zC g).getD (tl g i).toNat false=true then min b (tl g i) else b
def eC (g:Gr) (x:Int) (k:Nat):Int:=(List.range k).foldl (zD g x) g.n
def pE (g:Gr):Nat→List Int→Int→List Int × Int
 |0,way,x=>(way,x)
 |f+1,way,x=>if x∈way then (way,x) else pE g f (way++ [x]) (eC g x g.es.length)
def gx (g:Gr):Gr:=⟨g.n+1,g.es⟩
def qw (g:Gr):List Int × Int:=pE g (g.n.toNat+1) [] (Ji g)
def tD (l:List Int) (m k:Nat):List Int:=(List.range k).map fun i=>l.getD ((m+l.length - i) % l.length) 0
def x5 (l:List Int):List Int:=tD l (fY l (iU l)).toNat l.length
def nr (g:Gr):List Int:=if Ji g=g.n then [] else x5 ((qw g).1.drop (fY (qw g).1 (qw g).2).toNat)
theorem pF {g:Gr} {x:Int} {k:Nat} :eC g x (k+1)=zD g x (eC g x k) k:=by
 simp [eC,List.range_succ]
theorem sX {g:Gr} (hm:aG g=true) {x:Int} :∀ {k:Nat},k≤g.es.length→0≤eC g x k∧eC g x k≤g.n
 |0,_=>by have:=aA hm;simp [eC];omega
 |k+1,h=>by
  have ih:=sX hm (x:=x) (k:=k) (by omega)
  obtain ⟨⟨h1,h2⟩,_⟩:=cM hm (k:=k) (by omega)
  rw [pF];unfold zD tl
  split<;>omega
theorem Fg {l:List Int} {m k:Nat} :tD l m (k+1)=tD l m k++ [l.getD ((m+l.length - k) % l.length) 0]:=by
 simp [tD,List.range_succ]
theorem Bd {g:Gr} {way:List Int} {a:Int} (h:a∈way):∀f,pE g f way a=(way,a)
 |0=>rfl
 |f+1=>by simp only [pE];rw [if_pos h]
theorem zE:∀ {l:List Int} {x:Int},x∈l→iU l≤x
 |a::r,x,h=>by
  have:∀(r:List Int) (a:Int),r.foldl min a≤a∧∀x∈r,r.foldl min a≤x:=by
   intro r
   induction r with
   |nil=>intro a;exact ⟨Int.le_refl _,by simp⟩
   |cons b r ih=>
    intro a
    obtain ⟨h1,h2⟩:=ih (min a b)
    simp only [List.foldl_cons]
    refine ⟨by omega,fun x hx=> ?_⟩
    rcases List.mem_cons.1 hx with rfl|hx
    ·omega
    ·exact h2 x hx
  obtain ⟨h1,h2⟩:=this r a
  rcases List.mem_cons.1 h with rfl|h
  ·exact h1
  ·exact h2 x h
theorem jE {l:List Int} {m:Nat} (h:m<l.length):l.getD m 0∈l:=by
 rw [List.getD_eq_getElem?_getD,List.getElem?_eq_getElem h];exact List.getElem_mem h
theorem HJ {l:List Int} {m:Nat} (hm:m<l.length) (h1:∀j,j<l.length→l.getD m 0≤l.getD j 0) (h2:∀j,j<m→l.getD m 0<l.getD j 0):fY l (iU l)=m:=by
 have hmin:iU l=l.getD m 0:=by
  have g1:=zE (jE hm)
  obtain ⟨j,hj,e⟩:=List.getElem_of_mem (jB (l:=l) (by omega))
  have g2:=h1 j hj
  rw [List.getD_eq_getElem?_getD (l:=l) (i:=j),List.getElem?_eq_getElem hj,Option.getD_some,e] at g2
  omega
 refine c8 (d:=0) hm (fun j hj=> ?_) ?_
 ·have:=h2 j hj
  rw [hmin];simp only [decide_eq_false_iff_not];omega
 ·rw [hmin];simp
theorem dP (g:Gr) (hm:aG g=true):Spec Tryz.prog 161 (Args [eG g]) [] (.d (sI (nr g))) []:=by
 have hn:=aA hm
 have hlf:(zC g).length=g.n.toNat:=leftK_length
 (refine Spec.hd (C:=T.cfg [] []) (rs:= [.t 2]) (T.aj _ _) Tryz.func161 rfl rfl Tryz.ntmps161 Tryz.results161 (by simp [AObj.isNest]) (by simp [AObj.isNest]) (by kernel_rfl) T.mixed fun X hX hP hC aP bV=> ?_)
 repeat' (first|refine Rn.p ?_|(with_reducible apply And.intro)|((first|(refine hK _ ?_;clear hK K)|with_reducible intro K hK|refine Rs.p ?_|((with_reducible first|apply oP|apply oQ);exact rfl)|refine aa hX hC hP (cV g hm) rfl rfl rfl (by simp only [go_sem,simprocAttr,vD]) rfl ?_|(refine ah hX hC hP (bD way x bX) rfl rfl rfl ?_ ?_ ?_ ?_;iterate 3 (focus (simp only [go_sem,simprocAttr,vD];done)))|(refine ah hX hC hP (bD way (a:Int) bX) rfl rfl rfl ?_ ?_ ?_ ?_;iterate 3 (focus (simp only [go_sem,simprocAttr,vD];done))));try simp only [go_sem,simprocAttr,vD])|((with_reducible refine oD ?_ ?_);kernel_rfl)|((with_reducible intro h);try simp only [go_sem,simprocAttr,vD] at h)|omega|intro h)
 refine ai (fun k:Nat=>k≤g.n.toNat∧∀j,j<k→(zC g).getD j false=false) (fun k=>⟨[(1, .ptr 1 0),(4,eN k),(3, .d (sB (zC g)))], [(1, .box [eN g.n, .d (sE g.es)])]⟩) (fun k=>g.n.toNat - k) 0 (by simp) ?_ ?_
 ·refine Le.of ?_ ?_<;>simp [go_sem,simprocAttr,zC]
 rintro k ⟨hk,hno⟩
 rcases Nat.lt_or_ge k g.n.toNat with hlt|hge
 ·have hb:decide ((k:Int)<g.n)=true:=decide_eq_true (by omega)
  cases hkb:(zC g).getD k false with
  |false=>
   repeat' (first|refine Rn.p ?_|(with_reducible apply And.intro)|((first|(refine hK _ ?_;clear hK K)|with_reducible intro K hK|refine Rs.p ?_|((with_reducible first|apply oP|apply oQ);exact rfl)|refine aa hX hC hP (cV g hm) rfl rfl rfl (by simp only [go_sem,simprocAttr,hb,hkb,hlf]) rfl ?_|(refine ah hX hC hP (bD way x bX) rfl rfl rfl ?_ ?_ ?_ ?_;iterate 3 (focus (simp only [go_sem,simprocAttr,hb,hkb,hlf];done)))|(refine ah hX hC hP (bD way (a:Int) bX) rfl rfl rfl ?_ ?_ ?_ ?_;iterate 3 (focus (simp only [go_sem,simprocAttr,hb,hkb,hlf];done))));try simp only [go_sem,simprocAttr,hb,hkb,hlf])|((with_reducible refine oD ?_ ?_);kernel_rfl)|((with_reducible intro h);try simp only [go_sem,simprocAttr,hb,hkb,hlf] at h)|omega|intro h)
   refine ⟨k+1,⟨by omega,fun j hj=> ?_⟩, ?_,by omega⟩
   ·by_cases hjk:j=k
    ·subst hjk;exact hkb
    ·exact hno j (by omega)
   ·(refine Le.of ?_ ?_<;>simp [go_sem,simprocAttr,hb,hkb,hlf])
  |true=>
   have hst:Ji g=k:=by
    have:bQ (fun b:Bool=>b) (zC g)=k:=c8 (d:=false) (by omega) hno hkb
    unfold Ji;rw [this,if_neg (by omega)]
   have hne:decide ((k:Int)=g.n)=false:=decide_eq_false (by omega)
   repeat' (first|refine Rn.p ?_|(with_reducible apply And.intro)|((first|(refine hK _ ?_;clear hK K)|with_reducible intro K hK|refine Rs.p ?_|((with_reducible first|apply oP|apply oQ);exact rfl)|refine aa hX hC hP (cV g hm) rfl rfl rfl (by simp only [go_sem,simprocAttr,hb,hkb,hlf,hne]) rfl ?_|(refine ah hX hC hP (bD way x bX) rfl rfl rfl ?_ ?_ ?_ ?_;iterate 3 (focus (simp only [go_sem,simprocAttr,hb,hkb,hlf,hne];done)))|(refine ah hX hC hP (bD way (a:Int) bX) rfl rfl rfl ?_ ?_ ?_ ?_;iterate 3 (focus (simp only [go_sem,simprocAttr,hb,hkb,hlf,hne];done))));try simp only [go_sem,simprocAttr,hb,hkb,hlf,hne])|((with_reducible refine oD ?_ ?_);kernel_rfl)|((with_reducible intro h);try simp only [go_sem,simprocAttr,hb,hkb,hlf,hne] at h)|omega|intro h)
   clear hno hb hne hkb
   (refine rO hX 5 31 39 (by simp only [go_sem,simprocAttr]) rfl (by first|exact .inl rfl|exact .inr rfl) (by decide) ?_;simp only [go_sem,simprocAttr])
   refine ai (fun i:List Int × Int=>Way (gx g) i.1∧(0≤i.2∧i.2≤g.n)∧pE g (left (gx g) i.1) i.1 i.2=qw g) (fun i=>⟨[(1, .ptr 1 0),(4,eN i.2),(3, .d (sB (zC g))),(5, .ref 39)], [(1, .box [eN g.n, .d (sE g.es)]),(39, .tip 3 1 (i.1.map rI))]⟩) (fun i=>left (gx g) i.1) ([],(k:Int)) ⟨Way.nil _,by simp only;omega, ?_⟩ ?_ ?_
   ·simp only [qv,qw,gx,hst]
    rw [show (g.n+1).toNat=g.n.toNat+1 from by omega]
   ·refine Le.of ?_ ?_<;>simp [go_sem,simprocAttr]
   rintro ⟨way,x⟩ ⟨Bc,hx,hrun⟩
   simp only at Bc hx hrun ⊢
   have Ue:way.length≤65:=by have:=Bc.fuel;simp only [gx] at this;omega
   have bX:way.length≤9223372036854775807:=by omega
   by_cases hmem:x∈way
   ·have hend:=Bd (g:=g) hmem (left (gx g) way)
    rw [hrun] at hend
    obtain ⟨m,xu,hm2,_⟩:=eA hmem
    have hneg:decide ((m:Int)<0)=false:=decide_eq_false (by omega)
    obtain ⟨l,KY⟩:∃l,l=way.drop m:=⟨_,rfl⟩
    have j0:l.length=way.length - m:=by rw [KY];simp
    have L6:nr g=x5 l:=by
     simp only [nr,hend,xu,Int.toNat_natCast, ← KY]
     rw [if_neg (by omega)]
    repeat' (first|refine Rn.p ?_|(with_reducible apply And.intro)|((first|(refine hK _ ?_;clear hK K)|with_reducible intro K hK|refine Rs.p ?_|((with_reducible first|apply oP|apply oQ);exact rfl)|refine aa hX hC hP (cV g hm) rfl rfl rfl (by simp only [go_sem,simprocAttr,xu,hneg, ← List.map_take, ← List.map_drop,List.take_length, ← KY]) rfl ?_|(refine ah hX hC hP (bD way x bX) rfl rfl rfl ?_ ?_ ?_ ?_;iterate 3 (focus (simp only [go_sem,simprocAttr,xu,hneg, ← List.map_take, ← List.map_drop,List.take_length, ← KY];done)))|(refine ah hX hC hP (bD way (a:Int) bX) rfl rfl rfl ?_ ?_ ?_ ?_;iterate 3 (focus (simp only [go_sem,simprocAttr,xu,hneg, ← List.map_take, ← List.map_drop,List.take_length, ← KY];done))));try simp only [go_sem,simprocAttr,xu,hneg, ← List.map_take, ← List.map_drop,List.take_length, ← KY])|((with_reducible refine oD ?_ ?_);kernel_rfl)|((with_reducible intro h);try simp only [go_sem,simprocAttr,xu,hneg, ← List.map_take, ← List.map_drop,List.take_length, ← KY] at h)|omega|intro h)
    clear hrun Bc hend xu hneg KY
    have hl0:0<l.length:=by omega
    have hlm:l.length≤65:=by omega
    refine ai (fun i:Nat × Nat=>i.1≤l.length∧i.2<l.length∧(∀j,j<i.1→l.getD i.2 0≤l.getD j 0)∧(∀j,j<i.2→l.getD i.2 0<l.getD j 0)) (fun i=>⟨[(9,eN i.1),(8,eN i.2),(5, .d (sI l))], []⟩) (fun i=>l.length - i.1) (0,0) ⟨by simp,hl0,by simp,by simp⟩ ?_ ?_
    ·refine Le.of ?_ ?_<;>simp [go_sem,simprocAttr]
    rintro ⟨i,q⟩ ⟨hi,hq,hq1,Je⟩
    simp only at hi hq hq1 Je ⊢
    rcases Nat.lt_or_ge i l.length with hil|OA
    ·have hb:decide ((i:Int)<(l.length:Int))=true:=decide_eq_true (by omega)
     repeat' (first|refine Rn.p ?_|(with_reducible apply And.intro)|((first|(refine hK _ ?_;clear hK K)|with_reducible intro K hK|refine Rs.p ?_|((with_reducible first|apply oP|apply oQ);exact rfl)|refine aa hX hC hP (cV g hm) rfl rfl rfl (by simp only [go_sem,simprocAttr,hb]) rfl ?_|(refine ah hX hC hP (bD way x bX) rfl rfl rfl ?_ ?_ ?_ ?_;iterate 3 (focus (simp only [go_sem,simprocAttr,hb];done)))|(refine ah hX hC hP (bD way (a:Int) bX) rfl rfl rfl ?_ ?_ ?_ ?_;iterate 3 (focus (simp only [go_sem,simprocAttr,hb];done))));try simp only [go_sem,simprocAttr,hb])|((with_reducible refine oD ?_ ?_);kernel_rfl)|((with_reducible intro h);try simp only [go_sem,simprocAttr,hb] at h)|omega|intro h)
     ·refine ⟨(i+1,i),⟨by simp only;omega,hil,fun j hj=> ?_,fun j hj=> ?_⟩, ?_,by simp only;omega⟩
      ·simp only at hj ⊢
       by_cases hji:j=i
       ·subst hji;exact Int.le_refl _
       ·have:=hq1 j (by omega);omega
      ·simp only at hj ⊢
       have:=hq1 j hj;omega
      ·refine Le.of ?_ ?_<;>simp [go_sem,simprocAttr]
     ·refine ⟨(i+1,q),⟨by simp only;omega,hq,fun j hj=> ?_,Je⟩, ?_,by simp only;omega⟩
      ·simp only at hj ⊢
       by_cases hji:j=i
       ·subst hji;omega
       ·exact hq1 j (by omega)
      ·refine Le.of ?_ ?_<;>simp [go_sem,simprocAttr]
    ·have hb:decide ((i:Int)<(l.length:Int))=false:=decide_eq_false (by omega)
     obtain rfl:i=l.length:=by omega
     have hidx:=HJ hq hq1 Je
     repeat' (first|refine Rn.p ?_|(with_reducible apply And.intro)|((first|(refine hK _ ?_;clear hK K)|with_reducible intro K hK|refine Rs.p ?_|((with_reducible first|apply oP|apply oQ);exact rfl)|refine aa hX hC hP (cV g hm) rfl rfl rfl (by simp only [go_sem,simprocAttr,hb]) rfl ?_|(refine ah hX hC hP (bD way x bX) rfl rfl rfl ?_ ?_ ?_ ?_;iterate 3 (focus (simp only [go_sem,simprocAttr,hb];done)))|(refine ah hX hC hP (bD way (a:Int) bX) rfl rfl rfl ?_ ?_ ?_ ?_;iterate 3 (focus (simp only [go_sem,simprocAttr,hb];done))));try simp only [go_sem,simprocAttr,hb])|((with_reducible refine oD ?_ ?_);kernel_rfl)|((with_reducible intro h);try simp only [go_sem,simprocAttr,hb] at h)|omega|intro h)
     clear hi hb OA
     (refine rO hX 10 98 119 (by simp only [go_sem,simprocAttr]) rfl (by first|exact .inl rfl|exact .inr rfl) (by decide) ?_;simp only [go_sem,simprocAttr])
     refine ai (fun i:Nat=>i≤l.length) (fun i=>⟨[(5, .d (sI l)),(8,eN q),(11,eN i),(10, .ref 119)], [(119, .tip 3 1 ((tD l q i).map rI))]⟩) (fun i=>l.length - i) 0 (by simp) ?_ ?_
     ·refine Le.of ?_ ?_<;>simp [go_sem,simprocAttr,tD]
     rintro i hi
     have hrl:(tD l q i).length=i:=by simp [tD]
     rcases Nat.lt_or_ge i l.length with hil|OA
     ·have hb:decide ((i:Int)<(l.length:Int))=true:=decide_eq_true (by omega)
      have Hu:((q:Int)+(l.length:Int) - (i:Int)).tmod (l.length:Int)=(((q+l.length - i) % l.length:Nat):Int):=by
       rw [show (q:Int)+(l.length:Int) - (i:Int)=((q+l.length - i:Nat):Int) from by omega]
       rw [Int.tmod_eq_emod_of_nonneg (by omega)];rfl
      have hmod:(q+l.length - i) % l.length<l.length:=Nat.mod_lt _ hl0
      repeat' (first|refine Rn.p ?_|(with_reducible apply And.intro)|((first|(refine hK _ ?_;clear hK K)|with_reducible intro K hK|refine Rs.p ?_|((with_reducible first|apply oP|apply oQ);exact rfl)|refine aa hX hC hP (cV g hm) rfl rfl rfl (by simp only [go_sem,simprocAttr,hb,Hu]) rfl ?_|(refine ah hX hC hP (bD way x bX) rfl rfl rfl ?_ ?_ ?_ ?_;iterate 3 (focus (simp only [go_sem,simprocAttr,hb,Hu];done)))|(refine ah hX hC hP (bD way (a:Int) bX) rfl rfl rfl ?_ ?_ ?_ ?_;iterate 3 (focus (simp only [go_sem,simprocAttr,hb,Hu];done))));try simp only [go_sem,simprocAttr,hb,Hu])|((with_reducible refine oD ?_ ?_);kernel_rfl)|((with_reducible intro h);try simp only [go_sem,simprocAttr,hb,Hu] at h)|omega|intro h)
      refine ⟨i+1,by omega, ?_,by omega⟩
      rw [Fg]
      refine Le.of ?_ ?_<;>simp [go_sem,simprocAttr,rI]
     ·have hb:decide ((i:Int)<(l.length:Int))=false:=decide_eq_false (by omega)
      obtain rfl:i=l.length:=by omega
      repeat' (first|refine Rn.p ?_|(with_reducible apply And.intro)|((first|(refine hK _ ?_;clear hK K)|with_reducible intro K hK|refine Rs.p ?_|((with_reducible first|apply oP|apply oQ);exact rfl)|refine aa hX hC hP (cV g hm) rfl rfl rfl (by simp only [go_sem,simprocAttr,hb]) rfl ?_|(refine ah hX hC hP (bD way x bX) rfl rfl rfl ?_ ?_ ?_ ?_;iterate 3 (focus (simp only [go_sem,simprocAttr,hb];done)))|(refine ah hX hC hP (bD way (a:Int) bX) rfl rfl rfl ?_ ?_ ?_ ?_;iterate 3 (focus (simp only [go_sem,simprocAttr,hb];done))));try simp only [go_sem,simprocAttr,hb])|((with_reducible refine oD ?_ ?_);kernel_rfl)|((with_reducible intro h);try simp only [go_sem,simprocAttr,hb] at h)|omega|intro h)
      rw [L6,x5,hidx];rfl
   ·have hi:fY way x= -1:=by
     rcases gN (f:=fun y:Int=>decide (x=y)) (l:=way) 0 with ⟨h1,_⟩|⟨q,_,h2,h3,_⟩
     ·exact h1
     ·exact absurd (by rw [of_decide_eq_true h3,List.getD_eq_getElem?_getD,List.getElem?_eq_getElem h2];exact List.getElem_mem h2) hmem
    obtain ⟨a,rfl⟩:∃a:Nat,x=a:=⟨x.toNat,by omega⟩
    have KX:a<(gx g).n.toNat:=by simp only [gx];omega
    repeat' (first|refine Rn.p ?_|(with_reducible apply And.intro)|((first|(refine hK _ ?_;clear hK K)|with_reducible intro K hK|refine Rs.p ?_|((with_reducible first|apply oP|apply oQ);exact rfl)|refine aa hX hC hP (cV g hm) rfl rfl rfl (by simp only [go_sem,simprocAttr,hi]) rfl ?_|(refine ah hX hC hP (bD way x bX) rfl rfl rfl ?_ ?_ ?_ ?_;iterate 3 (focus (simp only [go_sem,simprocAttr,hi];done)))|(refine ah hX hC hP (bD way (a:Int) bX) rfl rfl rfl ?_ ?_ ?_ ?_;iterate 3 (focus (simp only [go_sem,simprocAttr,hi];done))));try simp only [go_sem,simprocAttr,hi])|((with_reducible refine oD ?_ ?_);kernel_rfl)|((with_reducible intro h);try simp only [go_sem,simprocAttr,hi] at h)|omega|intro h)
    refine ai (fun j:Nat=>j≤g.es.length) (fun j=>⟨[(1, .ptr 1 0),(4,eN a),(3, .d (sB (zC g))),(5, .ref 39),(6,eN (eC g a j)),(7,eN j)], [(1, .box [eN g.n, .d (sE g.es)]),(39, .tip 3 1 ((way++ [(a:Int)]).map rI))]⟩) (fun j=>g.es.length - j) 0 (by simp) ?_ ?_
    ·refine Le.of ?_ ?_<;>simp [go_sem,simprocAttr,rI,eC]
    rintro j hj
    rcases Nat.lt_or_ge j g.es.length with hjl|SH
    ·have hb2:decide ((j:Int)<(g.es.length:Int))=true:=decide_eq_true (by omega)
     obtain ⟨⟨L4,xJ⟩,_⟩:=cM hm hjl
     have cE:eC g a (j+1)=if (g.es.getD j (0,0)).2=(a:Int)∧(zC g).getD (g.es.getD j (0,0)).1.toNat false=true then min (eC g a j) (g.es.getD j (0,0)).1 else eC g a j:=pF
     repeat' (first|refine Rn.p ?_|(with_reducible apply And.intro)|((first|(refine hK _ ?_;clear hK K)|with_reducible intro K hK|refine Rs.p ?_|((with_reducible first|apply oP|apply oQ);exact rfl)|refine aa hX hC hP (cV g hm) rfl rfl rfl (by simp only [go_sem,simprocAttr,hb2,hlf]) rfl ?_|(refine ah hX hC hP (bD way x bX) rfl rfl rfl ?_ ?_ ?_ ?_;iterate 3 (focus (simp only [go_sem,simprocAttr,hb2,hlf];done)))|(refine ah hX hC hP (bD way (a:Int) bX) rfl rfl rfl ?_ ?_ ?_ ?_;iterate 3 (focus (simp only [go_sem,simprocAttr,hb2,hlf];done))));try simp only [go_sem,simprocAttr,hb2,hlf])|((with_reducible refine oD ?_ ?_);kernel_rfl)|((with_reducible intro h);try simp only [go_sem,simprocAttr,hb2,hlf] at h)|omega|intro h)
     all_goals (first|rw [if_pos ⟨by assumption,by assumption⟩] at cE|rw [if_neg (fun e=>by first|exact absurd e.1 (by assumption)|simp_all)] at cE)
     all_goals (refine ⟨j+1,by omega, ?_,by omega⟩;refine Le.of ?_ ?_<;>simp [go_sem,simprocAttr,cE])
    ·have hb2:decide ((j:Int)<(g.es.length:Int))=false:=decide_eq_false (by omega)
     obtain rfl:j=g.es.length:=by omega
     repeat' (first|refine Rn.p ?_|(with_reducible apply And.intro)|((first|(refine hK _ ?_;clear hK K)|with_reducible intro K hK|refine Rs.p ?_|((with_reducible first|apply oP|apply oQ);exact rfl)|refine aa hX hC hP (cV g hm) rfl rfl rfl (by simp only [go_sem,simprocAttr,hb2]) rfl ?_|(refine ah hX hC hP (bD way x bX) rfl rfl rfl ?_ ?_ ?_ ?_;iterate 3 (focus (simp only [go_sem,simprocAttr,hb2];done)))|(refine ah hX hC hP (bD way (a:Int) bX) rfl rfl rfl ?_ ?_ ?_ ?_;iterate 3 (focus (simp only [go_sem,simprocAttr,hb2];done))));try simp only [go_sem,simprocAttr,hb2])|((with_reducible refine oD ?_ ?_);kernel_rfl)|((with_reducible intro h);try simp only [go_sem,simprocAttr,hb2] at h)|omega|intro h)
     refine ⟨(way++ [(a:Int)],eC g a g.es.length),⟨Bc.next KX hmem,sX hm (Nat.le_refl _), ?_⟩, ?_, ?_⟩
     ·simp only
      rw [← hrun,jA KX hmem]
      simp only [pE]
      rw [if_neg hmem]
     ·refine Le.of ?_ ?_<;>simp [go_sem,simprocAttr]
     ·have:=jA KX hmem;simp only;omega
 ·have hb:decide ((k:Int)<g.n)=false:=decide_eq_false (by omega)
  have hst:Ji g=g.n:=by
   have:bQ (fun b:Bool=>b) (zC g)= -1:=cL false fun j hj=>hno j (by omega)
   unfold Ji;rw [this,if_pos (by omega)]
  have hne:decide ((k:Int)=g.n)=true:=decide_eq_true (by omega)
  repeat' (first|refine Rn.p ?_|(with_reducible apply And.intro)|((first|(refine hK _ ?_;clear hK K)|with_reducible intro K hK|refine Rs.p ?_|((with_reducible first|apply oP|apply oQ);exact rfl)|refine aa hX hC hP (cV g hm) rfl rfl rfl (by simp only [go_sem,simprocAttr,hb,hne]) rfl ?_|(refine ah hX hC hP (bD way x bX) rfl rfl rfl ?_ ?_ ?_ ?_;iterate 3 (focus (simp only [go_sem,simprocAttr,hb,hne];done)))|(refine ah hX hC hP (bD way (a:Int) bX) rfl rfl rfl ?_ ?_ ?_ ?_;iterate 3 (focus (simp only [go_sem,simprocAttr,hb,hne];done))));try simp only [go_sem,simprocAttr,hb,hne])|((with_reducible refine oD ?_ ?_);kernel_rfl)|((with_reducible intro h);try simp only [go_sem,simprocAttr,hb,hne] at h)|omega|intro h)
  simp only [nr];rw [if_pos hst];rfl
end Go.Ab
end
section
namespace Go.Ab
open Go.Proofs
attribute [local congr] ACall.congr gd.congr Nx.congr
set_option maxRecDepth 10000
def gF (g:Gr):Int × Int × List Int:=fS g (nr g) (bF (·.2) g)
theorem Be {l:List Edge} {k:Nat} {x:Edge} :x∈l.take k↔∃j,j<k∧j<l.length∧l.getD j (0,0)=x:=by
 rw [List.mem_iff_getElem?]
 constructor
 ·rintro ⟨j,hj⟩
  rw [List.getElem?_take] at hj
  split at hj
  ·exact ⟨j,by assumption,(List.getElem?_eq_some_iff.1 hj).1,by rw [List.getD_eq_getElem?_getD,hj];rfl⟩
  ·cases hj
 ·rintro ⟨j,h1,h2,h3⟩
  refine ⟨j, ?_⟩
  rw [List.getElem?_take,if_pos h1,List.getElem?_eq_getElem h2]
  rw [List.getD_eq_getElem?_getD,List.getElem?_eq_getElem h2] at h3
  exact congrArg some h3
theorem xC (g:Gr) (hl0:g.es.length≤1000):Spec Tryz.prog 104 (Args [eG g]) [] (.tup [eN (gF g).1,eN (gF g).2.1, .d (sI (gF g).2.2)]) []:=by
 have hl:g.es.length≤9223372036854775807:=by omega
 (refine Spec.hd (C:=T.cfg [] []) (rs:= [.t 2, .t 3, .t 4]) (T.aj _ _) Tryz.func104 rfl rfl Tryz.ntmps104 Tryz.results104 (by simp [AObj.isNest]) (by simp [AObj.isNest]) (by kernel_rfl) T.mixed fun X hX hP hC aP bV=> ?_)
 cases hm:aG g with
 |false=>
  repeat' (first|refine Rn.p ?_|(with_reducible apply And.intro)|((first|(refine hK _ ?_;clear hK K)|with_reducible intro K hK|refine Rs.p ?_|((with_reducible first|apply oP|apply oQ);exact rfl)|refine aa hX hC hP (c9 g hl) rfl rfl rfl (by simp only [go_sem,simprocAttr,hm]) rfl ?_|refine aa hX hC hP (dP g hm) rfl rfl rfl (by simp only [go_sem,simprocAttr,hm]) rfl ?_|refine aa hX hC hP (cF g true hl0 hn0) rfl rfl rfl (by simp only [go_sem,simprocAttr,hm]) rfl ?_);try simp only [go_sem,simprocAttr,hm])|((with_reducible refine oD ?_ ?_);kernel_rfl)|((with_reducible intro h);try simp only [go_sem,simprocAttr,hm] at h)|omega|intro h)
  all_goals simp [gF,fS,hm]
 |true=>
 have hn:=aA hm
 have hn0:0≤g.n∧g.n≤1000:=by omega
 repeat' (first|refine Rn.p ?_|(with_reducible apply And.intro)|((first|(refine hK _ ?_;clear hK K)|with_reducible intro K hK|refine Rs.p ?_|((with_reducible first|apply oP|apply oQ);exact rfl)|refine aa hX hC hP (c9 g hl) rfl rfl rfl (by simp only [go_sem,simprocAttr,hm]) rfl ?_|refine aa hX hC hP (dP g hm) rfl rfl rfl (by simp only [go_sem,simprocAttr,hm]) rfl ?_|refine aa hX hC hP (cF g true hl0 hn0) rfl rfl rfl (by simp only [go_sem,simprocAttr,hm]) rfl ?_);try simp only [go_sem,simprocAttr,hm])|((with_reducible refine oD ?_ ?_);kernel_rfl)|((with_reducible intro h);try simp only [go_sem,simprocAttr,hm] at h)|omega|intro h)
 refine ai (fun k:Nat=>k≤g.es.length∧∀j,j<k→decide ((g.es.getD j (0,0)).1=(g.es.getD j (0,0)).2)=false) (fun k=>⟨[(5,eN k),(1, .ptr 1 0)], [(1, .box [eN g.n, .d (sE g.es)])]⟩) (fun k=>g.es.length - k) 0 (by simp) ?_ ?_
 ·(refine Le.of ?_ ?_<;>simp [go_sem,simprocAttr,hm])
 rintro k ⟨hk,hno⟩
 rcases Nat.lt_or_ge k g.es.length with hlt|hge
 ·have hb2:decide ((k:Int)<(g.es.length:Int))=true:=decide_eq_true (by omega)
  repeat' (first|refine Rn.p ?_|(with_reducible apply And.intro)|((first|(refine hK _ ?_;clear hK K)|with_reducible intro K hK|refine Rs.p ?_|((with_reducible first|apply oP|apply oQ);exact rfl)|refine aa hX hC hP (c9 g hl) rfl rfl rfl (by simp only [go_sem,simprocAttr,hm,hb2]) rfl ?_|refine aa hX hC hP (dP g hm) rfl rfl rfl (by simp only [go_sem,simprocAttr,hm,hb2]) rfl ?_|refine aa hX hC hP (cF g true hl0 hn0) rfl rfl rfl (by simp only [go_sem,simprocAttr,hm,hb2]) rfl ?_);try simp only [go_sem,simprocAttr,hm,hb2])|((with_reducible refine oD ?_ ?_);kernel_rfl)|((with_reducible intro h);try simp only [go_sem,simprocAttr,hm,hb2] at h)|omega|intro h)
  any_goals (
   have hlo:jD g=(k:Int):=c8 (d:=(0,0)) hlt hno (decide_eq_true h)
   have hc:gF g=(13,jD g, []):=by
    simp only [gF,fS];rw [if_neg (by simp [hm]),if_pos (by omega)]
   rw [hc]<;>first|rfl|exact hlo.symm)
  refine ⟨k+1,⟨by omega,fun j hj=> ?_⟩, ?_,by omega⟩
  ·by_cases hjk:j=k
   ·subst hjk;exact h
   ·simpa using hno j (by omega)
  ·(refine Le.of ?_ ?_<;>simp [go_sem,simprocAttr,hm,hb2])
 ·have hb2:decide ((k:Int)<(g.es.length:Int))=false:=decide_eq_false (by omega)
  have hlo:¬0≤jD g:=by
   have:jD g= -1:=cL (0,0) fun j hj=>hno j (by omega)
   omega
  repeat' (first|refine Rn.p ?_|(with_reducible apply And.intro)|((first|(refine hK _ ?_;clear hK K)|with_reducible intro K hK|refine Rs.p ?_|((with_reducible first|apply oP|apply oQ);exact rfl)|refine aa hX hC hP (c9 g hl) rfl rfl rfl (by simp only [go_sem,simprocAttr,hm,hb2]) rfl ?_|refine aa hX hC hP (dP g hm) rfl rfl rfl (by simp only [go_sem,simprocAttr,hm,hb2]) rfl ?_|refine aa hX hC hP (cF g true hl0 hn0) rfl rfl rfl (by simp only [go_sem,simprocAttr,hm,hb2]) rfl ?_);try simp only [go_sem,simprocAttr,hm,hb2])|((with_reducible refine oD ?_ ?_);kernel_rfl)|((with_reducible intro h);try simp only [go_sem,simprocAttr,hm,hb2] at h)|omega|intro h)
  clear hno hb2 hk hge
  refine ai (fun k:Nat=>k≤g.es.length∧∀j,j<k→pq g j=false) (fun k=>⟨[(6,eN k),(1, .ptr 1 0)], [(1, .box [eN g.n, .d (sE g.es)])]⟩) (fun k=>g.es.length - k) 0 (by simp) ?_ ?_
  ·(refine Le.of ?_ ?_<;>simp [go_sem,simprocAttr])
  rintro k ⟨hk,HG⟩
  rcases Nat.lt_or_ge k g.es.length with hlt|hge
  ·have hb2:decide ((k:Int)<(g.es.length:Int))=true:=decide_eq_true (by omega)
   repeat' (first|refine Rn.p ?_|(with_reducible apply And.intro)|((first|(refine hK _ ?_;clear hK K)|with_reducible intro K hK|refine Rs.p ?_|((with_reducible first|apply oP|apply oQ);exact rfl)|refine aa hX hC hP (c9 g hl) rfl rfl rfl (by simp only [go_sem,simprocAttr,hm,hb2]) rfl ?_|refine aa hX hC hP (dP g hm) rfl rfl rfl (by simp only [go_sem,simprocAttr,hm,hb2]) rfl ?_|refine aa hX hC hP (cF g true hl0 hn0) rfl rfl rfl (by simp only [go_sem,simprocAttr,hm,hb2]) rfl ?_);try simp only [go_sem,simprocAttr,hm,hb2])|((with_reducible refine oD ?_ ?_);kernel_rfl)|((with_reducible intro h);try simp only [go_sem,simprocAttr,hm,hb2] at h)|omega|intro h)
   refine ai (fun q:Nat=>q≤k∧∀j,j<q→¬g.es.getD j (0,0)=g.es.getD k (0,0)) (fun q=>⟨[(6,eN k),(7,eN q),(1, .ptr 1 0)], [(1, .box [eN g.n, .d (sE g.es)])]⟩) (fun q=>k - q) 0 (by simp) ?_ ?_
   ·(refine Le.of ?_ ?_<;>simp [go_sem,simprocAttr,hm,hb2])
   rintro q ⟨hq,hne⟩
   rcases Nat.lt_or_ge q k with SI|SI
   ·have hb3:decide ((q:Int)<(k:Int))=true:=decide_eq_true (by omega)
    repeat' (first|refine Rn.p ?_|(with_reducible apply And.intro)|((first|(refine hK _ ?_;clear hK K)|with_reducible intro K hK|refine Rs.p ?_|((with_reducible first|apply oP|apply oQ);exact rfl)|refine aa hX hC hP (c9 g hl) rfl rfl rfl (by simp only [go_sem,simprocAttr,hb3,vl]) rfl ?_|refine aa hX hC hP (dP g hm) rfl rfl rfl (by simp only [go_sem,simprocAttr,hb3,vl]) rfl ?_|refine aa hX hC hP (cF g true hl0 hn0) rfl rfl rfl (by simp only [go_sem,simprocAttr,hb3,vl]) rfl ?_);try simp only [go_sem,simprocAttr,hb3,vl])|((with_reducible refine oD ?_ ?_);kernel_rfl)|((with_reducible intro h);try simp only [go_sem,simprocAttr,hb3,vl] at h)|omega|intro h)
    any_goals (
     have HH:pq g k=true:=decide_eq_true (Be.2 ⟨q,SI,by omega,h⟩)
     have Ru:dV g=(k:Int):=c8 (d:=0) (by simpa using hlt) (fun j hj=>by rw [gO (by omega)];exact HG j hj) (by rw [gO hlt];exact HH)
     have hc:gF g=(14,dV g, []):=by
      simp only [gF,fS];rw [if_neg (by simp [hm]),if_neg hlo,if_pos (by omega)]
     rw [hc]<;>first|rfl|exact Ru.symm)
    refine ⟨q+1,⟨by omega,fun j hj=> ?_⟩, ?_,by omega⟩
    ·by_cases hjk:j=q
     ·subst hjk;exact h
     ·exact hne j (by omega)
    ·refine Le.of ?_ ?_<;>simp [go_sem,simprocAttr]
   ·have hb3:decide ((q:Int)<(k:Int))=false:=decide_eq_false (by omega)
    repeat' (first|refine Rn.p ?_|(with_reducible apply And.intro)|((first|(refine hK _ ?_;clear hK K)|with_reducible intro K hK|refine Rs.p ?_|((with_reducible first|apply oP|apply oQ);exact rfl)|refine aa hX hC hP (c9 g hl) rfl rfl rfl (by simp only [go_sem,simprocAttr,hb3]) rfl ?_|refine aa hX hC hP (dP g hm) rfl rfl rfl (by simp only [go_sem,simprocAttr,hb3]) rfl ?_|refine aa hX hC hP (cF g true hl0 hn0) rfl rfl rfl (by simp only [go_sem,simprocAttr,hb3]) rfl ?_);try simp only [go_sem,simprocAttr,hb3])|((with_reducible refine oD ?_ ?_);kernel_rfl)|((with_reducible intro h);try simp only [go_sem,simprocAttr,hb3] at h)|omega|intro h)
    refine ⟨k+1,⟨by omega,fun j hj=> ?_⟩, ?_,by omega⟩
    ·by_cases hjk:j=k
     ·subst hjk
      refine decide_eq_false fun h=> ?_
      obtain ⟨i,h1,_,h3⟩:=Be.1 h
      exact hne i (by omega) h3
     ·exact HG j (by omega)
    ·(refine Le.of ?_ ?_<;>simp [go_sem,simprocAttr,hb3])
  ·have hb2:decide ((k:Int)<(g.es.length:Int))=false:=decide_eq_false (by omega)
   have HH:¬0≤dV g:=by
    have:dV g= -1:=cL 0 fun j hj=>by
     rw [List.length_range] at hj
     rw [gO hj];exact HG j (by omega)
    omega
   repeat' (first|refine Rn.p ?_|(with_reducible apply And.intro)|((first|(refine hK _ ?_;clear hK K)|with_reducible intro K hK|refine Rs.p ?_|((with_reducible first|apply oP|apply oQ);exact rfl)|refine aa hX hC hP (c9 g hl) rfl rfl rfl (by simp only [go_sem,simprocAttr,hm,hb2]) rfl ?_|refine aa hX hC hP (dP g hm) rfl rfl rfl (by simp only [go_sem,simprocAttr,hm,hb2]) rfl ?_|refine aa hX hC hP (cF g true hl0 hn0) rfl rfl rfl (by simp only [go_sem,simprocAttr,hm,hb2]) rfl ?_);try simp only [go_sem,simprocAttr,hm,hb2])|((with_reducible refine oD ?_ ?_);kernel_rfl)|((with_reducible intro h);try simp only [go_sem,simprocAttr,hm,hb2] at h)|omega|intro h)
   all_goals (
    have hc:gF g=if 0<(nr g).length then (15,0,nr g) else if 1<(bF (nj false) g).length then (16,0,(bF (nj false) g).take 2) else (0,0, []):=by
     show fS g (nr g) (bF (nj false) g)=_
     simp only [fS];rw [if_neg (by simp [hm]),if_neg hlo,if_neg HH]
    first|rw [if_pos (by omega)] at hc|(rw [if_neg (by omega)] at hc;first|rw [if_pos (by omega)] at hc|rw [if_neg (by omega)] at hc)
    rw [hc]<;>first|rfl|simp only [List.map_take])
end Go.Ab
end
