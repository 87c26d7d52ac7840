/- A part of the proof. -/
import Derived.WalkKit
import Derived.Deep.QuietTactic
import Derived.Tactics2
import Derived.LoopN
import Derived.LoopTactic
import Derived.Laws.IdiomRangeMap
import Derived.Test.YtameldglfobjkaaGreatL2P17
set_option linter.unusedSimpArgs false
set_option linter.unusedVariables false
section
namespace Go.Ab
open Go.Proofs Go.RowKit
set_option maxRecDepth 10000
set_option maxHeartbeats 4000000
def IB:Value→Nat
 | .int _ k=>k.toNat
 |_=>0
def IC:Value→Int
 | .int _ v=>v
 |_=>0
def dY (T:Nat→Int) (x:Int) (e:Nat) (k:Nat) (v:Int):Bool:=decide (v=x)&&decide (k≠e)&&decide (T k=T e)
def iH {α:Type} (P:Program) (s:Sem α):Prop:=∀W v W',s.run P W= .ok v W'→W'.tape=W.tape
theorem iH.bind {α β:Type} {P:Program} {s:Sem α} {k:α→Sem β} (h:iH P s) (hk:∀a,iH P (k a)):iH P (s>>= k):=by
 intro W v W' e
 rw [Sem.run_bind] at e
 cases hs:s.run P W with
 |ok a W1=>
  rw [hs] at e
  exact (hk a W1 v W' e).trans (h W a W1 hs)
 |halt hh W1=>rw [hs] at e;cases e
theorem Ht {α:Type} {P:Program} (a:α):iH P (pure a:Sem α):=by
 intro W v W' e
 cases e;rfl
theorem Hu {α:Type} {P:Program} (h:Halt):iH P (.halt h:Sem α):=by
 intro W v W' e
 cases e
theorem Jy {P:Program} (r:Nat):iH P (getObj r):=by
 intro W v W' e
 simp only [getObj,Sem.run] at e
 split at e
 ·cases e
 ·cases e;rfl
 ·cases e
theorem Jz {P:Program} (r:Nat) (o:Obj):iH P (setObj r o):=by
 intro W v W' e
 simp only [setObj,Sem.run] at e
 split at e
 ·cases e
 ·cases e;rfl
 ·cases e
theorem CR {P:Program} (q:Question):iH P (choose q):=by
 intro W v W' e
 simp only [choose,Sem.run] at e
 split at e
 ·cases e;rfl
 ·cases e;rfl
theorem CS {P:Program} (it:Value) (b:Bool) (ty:TypeId):iH P (Instr.next it b ty):=by
 unfold Instr.next
 repeat' (first|exact Ht _|exact Hu _|exact Jy _|exact Jz _ _|exact CR _|(refine iH.bind ?_ fun _=> ?_)|split)
theorem Aq (B bm be ne ce:Nat) (es:Array MapEntry) (T:Nat→Int) (x:Int) (e:Nat) (w:World) (hB:B<w.heap.size) (qI:be<w.heap.size)
 (h1:w.cell? ⟨B,1,none⟩=some (.slice (some ⟨be,0,none⟩) ne ce)) (h4:w.cell? ⟨B,4,none⟩=some (.map (some bm)))
 (hb:w.heap[bm]? =some (.map es es.size)) (hT:∀i,i<ne→w.cell? ⟨be,i*2,none⟩=some (.int .i64 (T i))) (he:e<ne) (hne:ne≤1000)
 (hst:(∀y∈es.toList,y.born<es.size)∧(es.toList.map (·.born)).Nodup) (hE:∀y∈es.toList,∃(k:Nat) (v:Int),y.key= .int .i64 k∧y.val= .int .i64 v∧k<ne):
 Calls Tryz.prog 152 #[.pointer (some ⟨B,0,none⟩), .int .i64 x, .int .i64 e] w fun en w'=>en= .returned (.bool (es.toList.any fun y=>dY T x e (IB y.key) (IC y.val)))∧
  ∃(w1:World) (seen:Array Nat),(w1.Alike w∧w1.tape=w.tape)∧w'=w1.alloc (.mapIter (some bm) es.size seen es.size):=by
 have Lu:=run_range_map (P:=Tryz.prog) w 45 3 3 bm es es.size Tryz.underlying45 hb
 go_enter Tryz.func152,Tryz.ntmps152
 go_wp2
 go_loopw [] (fun w'=>∃(w1:World) (seen:Array Nat),(w1.Alike w∧w1.tape=w.tape)∧w'=w1.alloc (.mapIter (some bm) es.size seen es.size)∧∀y∈es.toList,seen.contains y.born=true→dY T x e (IB y.key) (IC y.val)=false) (fun w'=>(leftOf es (w'.iterSeen w.heap.size)).size)
 case atStart=>exact ⟨w, #[],⟨⟨rfl,rfl,rfl⟩,rfl⟩,rfl,fun y _ h=>by simp at h⟩
 case round=>
  obtain ⟨w1,seen,⟨yz,Nf⟩,rfl,hno⟩:=hrel
  have hsz:w1.heap.size=w.heap.size:=by rw [yz.1]
  have hb1:w1.heap[bm]? =some (.map es es.size):=by rw [yz.1];exact hb
  have law:=run_next_map (P:=Tryz.prog) w1 0 bm es.size es.size seen es es.size hb1 hst.1 (Nat.le_refl _)
  rw [hsz] at law
  rcases law with ⟨h0,hrun⟩|⟨y,hy,w2,Ff,hrun⟩
  ·have dS:∀ty,(Instr.next (.pointer (some ⟨w.heap.size,0,none⟩)) false ty).run Tryz.prog (w1.alloc (.mapIter (some bm) es.size seen es.size))=_:=fun _=>hrun
   go_wp2
   go_ret
   have hf:(es.toList.any fun y=>dY T x e (IB y.key) (IC y.val))=false:=by
    rw [List.any_eq_false]
    intro y hy
    rw [hno y hy (all_seen es seen h0 y hy)];decide
   rw [hf]
   exact ⟨rfl,w1,seen,⟨yz,Nf⟩,rfl⟩
  ·obtain ⟨k,v,hkey,hval,hk⟩:=hE y (mem_left hy).1
   rw [hkey,hval] at hrun
   have dS:∀ty,(Instr.next (.pointer (some ⟨w.heap.size,0,none⟩)) false ty).run Tryz.prog (w1.alloc (.mapIter (some bm) es.size seen es.size))=_:=fun _=>hrun
   have JA:w2.heap.size=w.heap.size:=by rw [Ff.1,yz.1]
   have hb2:w2.heap[bm]? =some (.map es es.size):=by rw [Ff.1];exact hb1
   have SI:=run_entry_map (P:=Tryz.prog) w2 bm es.size seen es es.size y hb2 (mem_left hy).1 hst.2
   rw [JA,hkey,hval] at SI
   have Hv:w2.tape=w.tape:=(CS _ _ _ _ _ _ hrun).trans Nf
   have Fg:w2.Alike w:=⟨Ff.1.trans yz.1,Ff.2.1.trans yz.2.1,Ff.2.2.trans yz.2.2⟩
   have hc:∀(o:Obj) (a:Addr),a.block<w.heap.size→(w2.alloc o).cell? a=w.cell? a:=fun o a ha=>by
    have:(w2.alloc o).heap[a.block]? =w.heap[a.block]? :=by rw [l7 _ _ (by rw [JA];exact ha),Fg.1]
    simp only [World.cell?,this]
   have g1:∀s,(w2.alloc (.mapIter (some bm) es.size s es.size)).cell? ⟨B,1,none⟩=some (.slice (some ⟨be,0,none⟩) ne ce):=fun s=>(hc _ _ hB).trans h1
   have g2:∀s,(w2.alloc (.mapIter (some bm) es.size s es.size)).cell? ⟨be,k*2,none⟩=some (.int .i64 (T k)):=fun s=>(hc _ _ qI).trans (hT k hk)
   have g3:∀s,(w2.alloc (.mapIter (some bm) es.size s es.size)).cell? ⟨be,e*2,none⟩=some (.int .i64 (T e)):=fun s=>(hc _ _ qI).trans (hT e he)
   have QJ:dY T x e (IB y.key) (IC y.val)=dY T x e k v:=by rw [hkey,hval];simp [IB,IC]
   have Ar:dY T x e k v=false→∀z∈es.toList,(seen.push y.born).contains z.born=true→dY T x e (IB z.key) (IC z.val)=false:=fun hm z hz QK=>by
    rw [contains_push] at QK
    rcases Bool.or_eq_true _ _ ▸ QK with h1|h1
    ·exact hno z hz h1
    ·have:z=y:=born_inj hst.2 hz (mem_left hy).1 (beq_iff_eq.1 h1)
     subst this
     rw [QJ];exact hm
   have hyes:dY T x e k v=true→(es.toList.any fun y=>dY T x e (IB y.key) (IC y.val))=true:=fun hm=>List.any_eq_true.2 ⟨y,(mem_left hy).1,by rw [QJ];exact hm⟩
   have hi2:∀n,((w2.alloc (.mapIter (some bm) es.size (seen.push y.born) es.size)).drewN n).iterSeen w.heap.size=seen.push y.born:=fun n=>by
    show (w2.alloc _).iterSeen _=_
    rw [← JA,World.iterSeen_alloc]
   have hi1:(w1.alloc (.mapIter (some bm) es.size seen es.size)).iterSeen w.heap.size=seen:=by rw [← hsz,World.iterSeen_alloc]
   clear hE hT hno hc h1 h4 hst
   by_cases c1:v=x
   ·by_cases c2:k=e
    ·have hm:dY T x e k v=false:=by simp [dY,c1,c2]
     subst c1 c2
     go_wp2
     go_quiet (fail)
     go_wp2
     go_roundw
     case rel=>exact ⟨w2.drewN nq,seen.push y.born,⟨Fg,Hv⟩,rfl,Ar hm⟩
     case measure=>
      rw [hi2,hi1]
      exact left_shrinks es seen y hy
    ·have UF:¬((k:Int)=(e:Int)):=by omega
     by_cases c3:T k=T e
     ·have hm:dY T x e k v=true:=by simp [dY,c1,c2,c3]
      go_wp2
      go_quiet (fail)
      go_wp2
      go_ret
      rw [hyes hm]
      exact ⟨rfl,w2.drewN nq,_,⟨Fg,Hv⟩,rfl⟩
     ·have hm:dY T x e k v=false:=by simp [dY,c3]
      have b3:(T k==T e)=false:=by simpa using c3
      go_wp2
      go_quiet (fail)
      go_wp2
      go_roundw
      case rel=>exact ⟨w2.drewN nq,seen.push y.born,⟨Fg,Hv⟩,rfl,Ar hm⟩
      case measure=>
       rw [hi2,hi1]
       exact left_shrinks es seen y hy
   ·have hm:dY T x e k v=false:=by simp [dY,c1]
    have b1:(v==x)=false:=by simpa using c1
    clear c1
    go_wp2
    go_quiet (fail)
    go_wp2
    go_roundw
    case rel=>exact ⟨w2.drewN nq,seen.push y.born,⟨Fg,Hv⟩,rfl,Ar hm⟩
    case measure=>
     rw [hi2,hi1]
     exact left_shrinks es seen y hy
end Go.Ab
end
section
namespace Go.Ab
set_option maxRecDepth 10000
structure PS where
 m:Nat
 src:Int
 L9:Int
 tl:Int→Int
 hd:Int→Int
 ins:Int→List Int
 outs:Int→List Int
 Pq:Int→Nat
 Row:Nat→List Int→List Int→Prop
 k0:Nat
def PS.E (P:PS) (e:Int):Prop:=0≤e∧e<P.m
structure PS.Ok (P:PS):Prop where
 yA:∀x e,e∈P.outs x↔P.E e∧P.tl e=x
 kz:∀x e,e∈P.ins x↔P.E e∧P.hd e=x
 qY:∀x,(P.outs x).Nodup
 Fh:∀x,(P.ins x).Nodup
 Fi:∀e,P.E e→P.Pq (P.tl e)<P.Pq (P.hd e)
 JB:P.Row P.k0 (P.outs P.src) [P.src]
 As:∀ {k W D},P.Row k W D→W.Nodup
 qZ:∀ {k W D},P.Row k W D→∀e,e∈W↔P.E e∧P.tl e∈D∧P.hd e∉D
 s4:∀ {k W D},P.Row (k+1) W D→∃x A C,W=A++P.ins x++C∧P.ins x≠ []
 row_step:∀ {k W D x A C},P.Row k W D→W=A++P.ins x++C→P.ins x≠ []→∃k',k=k'+1∧P.Row k' (A++P.outs x++C) (D++ [x])
 wY:∀ {W D},P.Row 0 W D→∀e,P.E e→P.hd e∈D
 BA:∀ {k W D},P.Row k W D→P.src∈D
 BB:∀ {k W D},P.Row k W D→P.L9∈D→k=0
 Au:P.ins P.src= []
 BC:∀x,P.ins x≠ []→(P.outs x= []↔x=P.L9)
theorem pM {l:List Int} :l.reverse.Nodup↔l.Nodup:=(List.reverse_perm l).nodup_iff
def PS.DN (P:PS):PS:= {P with ins:=fun x=>(P.ins x).reverse,outs:=fun x=>(P.outs x).reverse,Row:=fun k W D=>P.Row k W.reverse D}
theorem PS.Ok.DN {P:PS} (h:P.Ok):P.DN.Ok:=
 {yA:=fun x e=>by show e∈(P.outs x).reverse↔_;rw [List.mem_reverse];exact h.yA x e
  kz:=fun x e=>by show e∈(P.ins x).reverse↔_;rw [List.mem_reverse];exact h.kz x e
  qY:=fun x=>by show (P.outs x).reverse.Nodup;exact pM.2 (h.qY x)
  Fh:=fun x=>by show (P.ins x).reverse.Nodup;exact pM.2 (h.Fh x)
  Fi:=h.Fi
  JB:=by show P.Row _ (P.outs P.src).reverse.reverse _;rw [List.reverse_reverse];exact h.JB
  As:=fun {k W D} hr=>pM.1 (h.As (show P.Row k W.reverse D from hr))
  qZ:=fun {k W D} hr e=>by
   have:=h.qZ (show P.Row k W.reverse D from hr) e
   rw [List.mem_reverse] at this
   exact this
  s4:=fun {k W D} hr=>by
   obtain ⟨x,A,C,h1,h2⟩:=h.s4 (show P.Row (k+1) W.reverse D from hr)
   refine ⟨x,C.reverse,A.reverse, ?_,fun h3=>h2 (List.reverse_eq_nil_iff.1 h3)⟩
   show W=C.reverse++(P.ins x).reverse++A.reverse
   rw [← List.reverse_reverse W,h1]
   simp
  row_step:=fun {k W D x A C} hr h1 h2=>by
   have h1:W=A++(P.ins x).reverse++C:=h1
   obtain ⟨k',h3,h4⟩:=h.row_step (x:=x) (A:=C.reverse) (C:=A.reverse) (show P.Row k W.reverse D from hr) (by rw [h1];simp) (fun h3=>h2 (List.reverse_eq_nil_iff.2 h3))
   refine ⟨k',h3, ?_⟩
   show P.Row k' (A++(P.outs x).reverse++C).reverse (D++ [x])
   have e:(A++(P.outs x).reverse++C).reverse=C.reverse++P.outs x++A.reverse:=by simp
   rw [e];exact h4
  wY:=fun {W D} hr=>h.wY (show P.Row 0 W.reverse D from hr)
  BA:=fun {k W D} hr=>h.BA (show P.Row k W.reverse D from hr)
  BB:=fun {k W D} hr=>h.BB (show P.Row k W.reverse D from hr)
  Au:=by show (P.ins P.src).reverse= [];rw [h.Au];rfl
  BC:=fun x hx=>by
   have h2:P.ins x≠ []:=fun h3=>hx (by show (P.ins x).reverse= [];rw [h3];rfl)
   show (P.outs x).reverse= []↔_
   rw [List.reverse_eq_nil_iff];exact h.BC x h2}
structure MS where
 A:List Int
 B:List Int
 D:List Int
def PS.next (P:PS) (s:MS):MS:=
 match s.B with
 | []=>s
 |e::B=>if P.ins (P.hd e)<:+s.A++ [e] then ⟨(s.A++ [e]).take (s.A.length+1 - (P.ins (P.hd e)).length),P.outs (P.hd e)++B,s.D++ [P.hd e]⟩ else ⟨s.A++ [e],B,s.D⟩
def PS.st (P:PS):Nat→MS
 |0=>⟨[],P.outs P.src, [P.src]⟩
 |j+1=>P.next (P.st j)
def PS.sh (P:PS) (j:Nat):Int:=(P.st j).B.headD 0
def PS.DO (P:PS) (j:Nat):List Int:=(List.range j).map P.sh
variable {P:PS}
theorem PS.s6 {j:Nat} :P.DO (j+1)=P.DO j++ [P.sh j]:=by simp [PS.DO,List.range_succ]
theorem PS.Hw {j:Nat} :(P.DO j).length=j:=by simp [PS.DO]
structure PS.Inv (P:PS) (j:Nat) (s:MS):Prop where
 row:∃k,P.Row k (s.A++s.B) s.D
 no:∀h,P.ins h≠ []→¬P.ins h<:+:s.A
 nd:(P.DO j).Nodup
 sh:∀e,e∈P.DO j↔P.E e∧(e∈s.A∨P.hd e∈s.D)
 len:j≤P.m
theorem l8:∀ {l m:List Int},l.Nodup→(∀i∈l,i∈m)→l.length≤m.length
 | [],_,_,_=>Nat.zero_le _
 |a::l,m,hn,h=>by
  rw [List.nodup_cons] at hn
  have ha:=h a (List.mem_cons_self ..)
  have:=l8 (m:=m.erase a) hn.2 fun i hi=>(List.mem_erase_of_ne (show i≠a from fun e=>hn.1 (by rw [← e];exact hi))).2 (h i (List.mem_cons_of_mem _ hi))
  rw [List.length_erase_of_mem ha] at this
  have:=List.length_pos_of_mem ha
  rw [List.length_cons];omega
theorem CT {l:List Int} {m:Nat} (hall:∀e:Int,0≤e→e<m→e∈l):m≤l.length:=by
 have:=l8 (l:=(List.range m).map Int.ofNat) (m:=l) (List.pairwise_map.2 (List.nodup_range.imp fun hab e=>hab (Int.ofNat.inj e))) fun x hx=>by
  obtain ⟨a,ha,rfl⟩:=List.mem_map.1 hx
  have:=List.mem_range.1 ha
  exact hall _ (by simp) (by simp;omega)
 simpa using this
theorem yB {X Y:List Int} (h:X<:+Y):Y=Y.take (Y.length - X.length)++X:=by
 obtain ⟨t,rfl⟩:=h
 simp
theorem PS.Inv.more (h:P.Ok) {j:Nat} {s:MS} (hi:P.Inv j s) (hj:j<P.m):∃e B,s.B=e::B:=by
 cases hB:s.B with
 |cons e B=>exact ⟨e,B,rfl⟩
 |nil=>
  exfalso
  obtain ⟨k,hr⟩:=hi.row
  rw [hB,List.append_nil] at hr
  cases k with
  |succ k=>
   obtain ⟨x,A,C,h1,h2⟩:=h.s4 hr
   exact hi.no x h2 ⟨A,C,h1.symm⟩
  |zero=>
   have hall:∀e,P.E e→e∈P.DO j:=fun e he=>(hi.sh e).2 ⟨he, .inr (h.wY hr e he)⟩
   have:=CT (fun e h1 h2=>hall e ⟨h1,h2⟩)
   rw [PS.Hw] at this
   omega
theorem PS.CU {s:MS} {e:Int} {B:List Int} (hB:s.B=e::B):P.next s=if P.ins (P.hd e)<:+s.A++ [e] then ⟨(s.A++ [e]).take (s.A.length+1 - (P.ins (P.hd e)).length),P.outs (P.hd e)++B,s.D++ [P.hd e]⟩ else ⟨s.A++ [e],B,s.D⟩:=by
 unfold PS.next;rw [hB]
theorem PS.Av (h:P.Ok) {s:MS} {k:Nat} {e:Int} {B:List Int} (hr:P.Row k (s.A++s.B) s.D) (hB:s.B=e::B):
 P.E e∧((∃A',s.A++ [e]=A'++P.ins (P.hd e)∧P.ins (P.hd e)≠ []∧P.next s=⟨A',P.outs (P.hd e)++B,s.D++ [P.hd e]⟩)∨(¬P.ins (P.hd e)<:+s.A++ [e]∧P.next s=⟨s.A++ [e],B,s.D⟩)):=by
 have he:P.E e:=((h.qZ hr e).1 (by rw [hB];simp)).1
 refine ⟨he, ?_⟩
 rw [PS.CU hB]
 by_cases hs:P.ins (P.hd e)<:+s.A++ [e]
 ·rw [if_pos hs]
  refine .inl ⟨_, ?_,fun h0=> ?_,rfl⟩
  ·have:=yB hs
   simpa using this
  ·have:=(h.kz (P.hd e) e).2 ⟨he,rfl⟩
   rw [h0] at this;cases this
 ·rw [if_neg hs];exact .inr ⟨hs,rfl⟩
theorem Aw {X A:List Int} {e:Int} (h:X<:+:A++ [e]):X<:+:A∨X<:+A++ [e]:=by
 obtain ⟨s,t,ht⟩:=h
 rcases List.eq_nil_or_concat t with rfl|⟨t',a,rfl⟩
 ·rw [List.append_nil] at ht;exact .inr ⟨s,ht⟩
 ·left
  refine ⟨s,t', ?_⟩
  have:s++X++t'++ [a]=A++ [e]:=by rw [← ht];simp
  exact (List.append_inj' this rfl).1
theorem PS.inv (h:P.Ok):∀j,j≤P.m→P.Inv j (P.st j)
 |0,_=>⟨⟨_,h.JB⟩,fun x hx hs=>hx (by
    have:P.ins x<:+: []:=hs
    simpa using this),by simp [PS.DO],fun e=>(by
     simp only [PS.DO,List.range_zero,List.map_nil,List.not_mem_nil,false_iff]
     rintro ⟨he,h1|h1⟩
     ·cases h1
     ·have h1:P.hd e∈ [P.src]:=h1
      have h2:P.hd e=P.src:=by simpa using h1
      have:=(h.kz P.src e).2 ⟨he,h2⟩
      rw [h.Au] at this;cases this),Nat.zero_le _⟩
 |j+1,hj=>by
  have hi:=PS.inv h j (by omega)
  obtain ⟨e,B,hB⟩:=hi.more h (by omega)
  obtain ⟨k,hr⟩:=hi.row
  have hsh:P.sh j=e:=by unfold PS.sh;rw [hB];rfl
  have SJ:e∈(P.st j).A++(P.st j).B:=by rw [hB];simp
  have hm:=(h.qZ hr e).1 SJ
  have bV:=h.As hr
  have Pr:e∉(P.st j).A:=fun hA=>by
   rw [List.nodup_append] at bV
   exact bV.2.2 e hA e (by rw [hB];simp) rfl
  have hnew:e∉P.DO j:=fun h1=>by
   rcases ((hi.sh e).1 h1).2 with h2|h2
   ·exact Pr h2
   ·exact hm.2.2 h2
  have fk:(P.DO (j+1)).Nodup:=by
   rw [PS.s6,hsh,List.nodup_append]
   exact ⟨hi.nd,by simp,fun a ha b hb=>by
    rw [List.mem_singleton] at hb
    subst hb
    intro e2;exact hnew (e2 ▸ ha)⟩
  obtain ⟨he,hc⟩:=PS.Av h hr hB
  have hst:P.st (j+1)=P.next (P.st j):=rfl
  rw [hst]
  rcases hc with ⟨A',h1,h2,h3⟩|⟨h1,h3⟩
  ·rw [h3]
   have hrow:(P.st j).A++(P.st j).B=A'++P.ins (P.hd e)++B:=by rw [hB, ← h1];simp
   obtain ⟨k',rfl,hr'⟩:=h.row_step hr hrow h2
   refine ⟨⟨k',by simpa using hr'⟩,fun x hx hs=> ?_,fk,fun f=> ?_,hj⟩
   ·have hs:P.ins x<:+:A':=hs
    have hA:¬P.ins x<:+:(P.st j).A:=hi.no x hx
    obtain ⟨u,v,huv⟩:=hs
    rcases List.eq_nil_or_concat (P.ins (P.hd e)) with h0|⟨I',a,h0⟩
    ·exact h2 h0
    ·rw [h0, ← List.concat_eq_append,List.concat_eq_append] at h1
     have h4:(P.st j).A++ [e]=(A'++I')++ [a]:=by rw [h1];simp
     have h5:=(List.append_inj' h4 rfl).1
     exact hA ⟨u,v++I',by rw [h5, ← huv];simp⟩
   ·rw [PS.s6,hsh,List.mem_append,List.mem_singleton,hi.sh f]
    show _↔P.E f∧(f∈A'∨P.hd f∈(P.st j).D++ [P.hd e])
    constructor
    ·rintro (⟨h4,h5|h5⟩|rfl)
     ·have:f∈A'++P.ins (P.hd e):=by rw [← h1];exact List.mem_append.2 (.inl h5)
      rcases List.mem_append.1 this with h6|h6
      ·exact ⟨h4, .inl h6⟩
      ·exact ⟨h4, .inr (by rw [((h.kz _ _).1 h6).2];simp)⟩
     ·exact ⟨h4, .inr (List.mem_append.2 (.inl h5))⟩
     ·exact ⟨he, .inr (by simp)⟩
    ·rintro ⟨h4,h5|h5⟩
     ·have:f∈(P.st j).A++ [e]:=by rw [h1];exact List.mem_append.2 (.inl h5)
      rcases List.mem_append.1 this with h6|h6
      ·exact .inl ⟨h4, .inl h6⟩
      ·exact .inr (by simpa using h6)
     ·rcases List.mem_append.1 h5 with h6|h6
      ·exact .inl ⟨h4, .inr h6⟩
      ·have h6:P.hd f=P.hd e:=by simpa using h6
       have h7:f∈P.ins (P.hd e):=(h.kz _ _).2 ⟨h4,h6⟩
       have:f∈(P.st j).A++ [e]:=by rw [h1];exact List.mem_append.2 (.inr h7)
       rcases List.mem_append.1 this with h8|h8
       ·exact .inl ⟨h4, .inl h8⟩
       ·exact .inr (by simpa using h8)
  ·rw [h3]
   refine ⟨⟨k,by simpa [hB] using hr⟩,fun x hx hs=> ?_,fk,fun f=> ?_,hj⟩
   ·rcases Aw hs with h4|h4
    ·exact hi.no x hx h4
    ·have hne:e∈P.ins x:=by
      obtain ⟨t,ht⟩:=h4
      rcases List.eq_nil_or_concat (P.ins x) with h0|⟨I',a,h0⟩
      ·exact absurd h0 hx
      ·rw [h0] at ht
       have h5:(t++I')++ [a]=(P.st j).A++ [e]:=by rw [← ht];simp
       have:=(List.append_inj' h5 rfl).2
       rw [h0];simp at this ⊢;exact .inr this.symm
     rw [((h.kz _ _).1 hne).2] at h1
     exact h1 h4
   ·rw [PS.s6,hsh,List.mem_append,List.mem_singleton,hi.sh f]
    show _↔P.E f∧(f∈(P.st j).A++ [e]∨P.hd f∈(P.st j).D)
    rw [List.mem_append,List.mem_singleton]
    constructor
    ·rintro (⟨h4,h5|h5⟩|rfl)
     ·exact ⟨h4, .inl (.inl h5)⟩
     ·exact ⟨h4, .inr h5⟩
     ·exact ⟨he, .inl (.inr rfl)⟩
    ·rintro ⟨h4,(h5|h5)|h5⟩
     ·exact .inl ⟨h4, .inl h5⟩
     ·exact .inr h5
     ·exact .inl ⟨h4, .inr h5⟩
end Go.Ab
end
section
namespace Go.Ab
set_option maxRecDepth 10000
set_option linter.unusedSectionVars false
variable {P:PS}
structure PS.jA (P:PS) (L R:Int→Int) (f0 f1:Int) (low:Int→Int):Prop where
 ne:f0≠f1
 l9:∀ {x u a b v},P.outs x=u++a::b::v→R a=L b
 Ax:∀ {x u a b v},P.ins x=u++a::b::v→R a=L b
 fst:∀ {x a u b v},P.ins x=a::u→P.outs x=b::v→L a=L b
 JC:∀ {x a u b v},P.ins x=u++ [a]→P.outs x=v++ [b]→R a=R b
 s0:∀ {b v},P.outs P.src=b::v→L b=f0
 s1:∀ {b v},P.outs P.src=v++ [b]→R b=f1
 new:∀ {x u a b v},P.outs x=u++a::b::v→low (R a)=x∧R a≠f0∧R a≠f1
 new1:∀ {x u a b v u' a' b' v'},P.outs x=u++a::b::v→P.outs x=u'++a'::b'::v'→R a=R a'→a=a'
theorem Fj {l u v u' v':List Int} {a:Int} (hn:l.Nodup) (h1:l=u++a::v) (h2:l=u'++a::v'):u=u'∧v=v':=by
 induction u generalizing l u' with
 |nil=>
  cases u' with
  |nil=>rw [h1] at h2;simpa using h2
  |cons b u'=>
   rw [h1] at h2
   simp only [List.nil_append,List.cons_append,List.cons.injEq] at h2
   rw [h1,h2.2] at hn
   simp at hn
 |cons b u ih=>
  cases u' with
  |nil=>
   rw [h2] at h1
   simp only [List.nil_append,List.cons_append,List.cons.injEq] at h1
   rw [h2,h1.2] at hn
   simp at hn
  |cons b' u'=>
   have h3:=h1.symm.trans h2
   simp only [List.cons_append,List.cons.injEq] at h3
   rw [h1,List.cons_append,List.nodup_cons] at hn
   obtain ⟨h4,h5⟩:=ih hn.2 rfl h3.2
   exact ⟨by rw [h3.1,h4],h5⟩
theorem gZ {l u v:List Int} {a b:Int} (h:l.reverse=u++a::b::v):l=v.reverse++b::a::u.reverse:=by
 have:=congrArg List.reverse h
 simpa using this
theorem PS.jA.DN (h:P.Ok) {L R:Int→Int} {f0 f1:Int} {low:Int→Int} (F:P.jA L R f0 f1 low):P.DN.jA R L f1 f0 low:=
 {ne:=F.ne.symm
  l9:=fun {x u a b v} h=>(F.l9 (gZ (show (P.outs x).reverse=_ from h))).symm
  Ax:=fun {x u a b v} h=>(F.Ax (gZ (show (P.ins x).reverse=_ from h))).symm
  fst:=fun {x a u b v} h1 h2=>F.JC (x:=x) (u:=u.reverse) (v:=v.reverse) (by
     have:=congrArg List.reverse (show (P.ins x).reverse=_ from h1);simpa using this) (by
     have:=congrArg List.reverse (show (P.outs x).reverse=_ from h2);simpa using this)
  JC:=fun {x a u b v} h1 h2=>F.fst (x:=x) (u:=u.reverse) (v:=v.reverse) (by
    have:=congrArg List.reverse (show (P.ins x).reverse=_ from h1);simpa using this) (by
    have:=congrArg List.reverse (show (P.outs x).reverse=_ from h2);simpa using this)
  s0:=fun {b v} h1=>F.s1 (v:=v.reverse) (by
     have:=congrArg List.reverse (show (P.outs P.src).reverse=_ from h1);simpa using this)
  s1:=fun {b v} h1=>F.s0 (v:=v.reverse) (by
     have:=congrArg List.reverse (show (P.outs P.src).reverse=_ from h1);simpa using this)
  new:=fun {x u a b v} h1=>by
   have h2:=gZ (show (P.outs x).reverse=_ from h1)
   obtain ⟨h3,h4,h5⟩:=F.new h2
   have h6:=F.l9 h2
   rw [← h6];exact ⟨h3,h5,h4⟩
  new1:=fun {x u a b v u' a' b' v'} h1 h2 h3=>by
   have g1:=gZ (show (P.outs x).reverse=_ from h1)
   have g2:=gZ (show (P.outs x).reverse=_ from h2)
   rw [← F.l9 g1, ← F.l9 g2] at h3
   have h4:=F.new1 g1 g2 h3
   subst h4
   have:=(Fj (h.qY x) g1 g2).2
   simp only [List.cons.injEq] at this
   exact this.1}
def om (L R:Int→Int):Int→List Int→Prop
 |_, []=>True
 |f,a::W=>L a=f∧om L R (R a) W
def pN (R:Int→Int):Int→List Int→Int
 |f, []=>f
 |_,a::W=>pN R (R a) W
theorem jB {L R:Int→Int} :∀ {A B:List Int} {f:Int},om L R f (A++B)↔om L R f A∧om L R (pN R f A) B
 | [],B,f=>by simp [om,pN]
 |a::A,B,f=>by simp [om,pN,jB,and_assoc]
theorem gA {R:Int→Int} :∀ {A B:List Int} {f:Int},pN R f (A++B)=pN R (pN R f A) B
 | [],B,f=>rfl
 |a::A,B,f=>by simp [pN,gA]
theorem u6 {R:Int→Int} {A:List Int} {a f:Int} :pN R f (A++ [a])=R a:=by rw [gA];rfl
theorem yC {L R:Int→Int} :∀ {X:List Int} {f:Int},(∀u a b v,X=u++a::b::v→R a=L b)→(∀a u,X=a::u→L a=f)→om L R f X
 | [],f,_,_=>trivial
 |a::X,f,h,h1=>⟨h1 a X rfl,yC (fun u b c v e=>h (a::u) b c v (by rw [e];rfl)) fun b v e=>(h [] a b v (by rw [e];rfl)).symm⟩
theorem BD {l:List Int} (h:l≠ []):∃u a,l=u++ [a]:=by
 rcases List.eq_nil_or_concat l with h1|⟨u,a,h1⟩
 ·exact absurd h1 h
 ·exact ⟨u,a,by rw [h1,List.concat_eq_append]⟩
theorem wZ {l:List Int} (h:l≠ []):∃a u,l=a::u:=by
 cases l with
 |nil=>exact absurd rfl h
 |cons a u=>exact ⟨a,u,rfl⟩
structure JD (L R:Int→Int) (f0 f1:Int) (low:Int→Int) (W D:List Int):Prop where
 lk:om L R f0 W
 en:pN R f0 W=f1
 nd:(W.map R).Nodup
 lo:∀a∈W,R a≠f0∧(R a=f1∨(R a≠f1∧low (R a)∈D))
theorem CV {X U V Y:List Int} {r:Int} (h:(X++(U++ [r])++Y).Nodup) (hV:V.Nodup) (hd:∀z∈V,z∉X∧z≠r∧z∉Y):(X++(V++ [r])++Y).Nodup:=by
 have h1:(X++ [r]++Y).Nodup:=by
  refine List.Nodup.sublist ?_ h
  refine List.Sublist.append (List.Sublist.append (List.Sublist.refl _) ?_) (List.Sublist.refl _)
  exact List.sublist_append_right ..
 have h2:(V++(X++ [r]++Y)).Nodup:=by
  rw [List.nodup_append]
  refine ⟨hV,h1,fun a ha b hb e=> ?_⟩
  subst e
  obtain ⟨g1,g2,g3⟩:=hd a ha
  simp only [List.mem_append,List.mem_singleton] at hb
  rcases hb with (hb|hb)|hb
  ·exact g1 hb
  ·exact g2 hb
  ·exact g3 hb
 refine (List.Perm.nodup_iff ?_).1 h2
 have:X++(V++ [r])++Y=(X++V)++([r]++Y):=by simp
 rw [this]
 have:V++(X++ [r]++Y)=(V++X)++([r]++Y):=by simp
 rw [this]
 exact List.Perm.append_right _ List.perm_append_comm
theorem mK {R:Int→Int} :∀ {l:List Int},l.Nodup→(∀a∈l,∀b∈l,R a=R b→a=b)→(l.map R).Nodup
 | [],_,_=>by simp
 |a::l,hn,h=>by
  rw [List.nodup_cons] at hn
  rw [List.map_cons,List.nodup_cons]
  refine ⟨fun hm=> ?_,mK hn.2 fun x hx y hy=>h x (List.mem_cons_of_mem _ hx) y (List.mem_cons_of_mem _ hy)⟩
  obtain ⟨b,hb,e⟩:=List.mem_map.1 hm
  have:=h b (List.mem_cons_of_mem _ hb) a (List.mem_cons_self ..) e
  exact hn.1 (this ▸ hb)
section
variable (h:P.Ok) {L R:Int→Int} {f0 f1:Int} {low:Int→Int} (F:P.jA L R f0 f1 low)
include h F
theorem m9 {v:List Int} {b:Int} {x:Int} (hv:P.outs x=v++ [b]) {a:Int} (ha:a∈v):∃u c w,P.outs x=u++a::c::w:=by
 obtain ⟨s,t,rfl⟩:=List.append_of_mem ha
 cases t with
 |nil=>exact ⟨s,b, [],by rw [hv];simp⟩
 |cons c t=>exact ⟨s,c,t++ [b],by rw [hv];simp⟩
theorem CW {x f:Int} (hf:∀b v,P.outs x=b::v→L b=f):om L R f (P.outs x):=yC (fun u a b v e=>F.l9 e) fun a u e=>hf a u e
theorem Hy {x:Int} {v:List Int} {b:Int} (hv:P.outs x=v++ [b]):(v.map R).Nodup∧∀z∈v.map R,low z=x∧z≠f0∧z≠f1:=by
 have hn:=h.qY x
 rw [hv,List.nodup_append] at hn
 refine ⟨mK hn.1 fun a ha a' Ir e=> ?_,fun z hz=> ?_⟩
 ·obtain ⟨u,c,w,h1⟩:=m9 h F hv ha
  obtain ⟨u',c',w',h2⟩:=m9 h F hv Ir
  exact F.new1 h1 h2 e
 ·obtain ⟨a,ha,rfl⟩:=List.mem_map.1 hz
  obtain ⟨u,c,w,h1⟩:=m9 h F hv ha
  exact F.new h1
theorem JD.step {A C D:List Int} {x:Int} (hi:JD L R f0 f1 low (A++P.ins x++C) D) (hI:P.ins x≠ []) (hO:P.outs x≠ []) (hx:x∉D):JD L R f0 f1 low (A++P.outs x++C) (D++ [x]):=by
 obtain ⟨u,a,hu⟩:=BD hI
 obtain ⟨v,b,hv⟩:=BD hO
 obtain ⟨a0,u0,QL⟩:=wZ hI
 obtain ⟨b0,v0,KL⟩:=wZ hO
 have hab:=F.JC hu hv
 have h0:=F.fst QL KL
 obtain ⟨l1,l2⟩:=jB.1 hi.lk
 obtain ⟨l3,l4⟩:=jB.1 l1
 have Kq:∀f,pN R f (P.ins x)=R a:=fun f=>by rw [hu,u6]
 have QM:∀f,pN R f (P.outs x)=R b:=fun f=>by rw [hv,u6]
 have hL:L a0=pN R f0 A:=by rw [QL] at l4;exact l4.1
 obtain ⟨n1,n2⟩:=Hy h F hv
 have bV:=hi.nd
 have hlo:=hi.lo
 refine ⟨?_, ?_, ?_,fun c hc=> ?_⟩
 ·rw [jB,jB]
  refine ⟨⟨l3,CW h F fun b' v' e=> ?_⟩, ?_⟩
  ·rw [KL] at e
   simp only [List.cons.injEq] at e
   rw [← e.1, ← h0,hL]
  ·rw [gA,QM]
   rw [gA,Kq] at l2
   rw [← hab];exact l2
 ·have:=hi.en
  rw [gA,gA,Kq] at this
  rw [gA,gA,QM, ← hab];exact this
 ·rw [List.map_append,List.map_append,hv,List.map_append]
  rw [List.map_append,List.map_append,hu,List.map_append] at bV
  simp only [List.map_cons,List.map_nil] at bV ⊢
  rw [← hab]
  have hold:∀c∈A++P.ins x++C,R c∉v.map R:=fun c hc hz=>by
   obtain ⟨g1,g2,g3⟩:=n2 _ hz
   rcases (hlo c hc).2 with h1|⟨_,h1⟩
   ·exact g3 h1
   ·rw [g1] at h1;exact hx h1
  refine CV bV n1 fun z hz=>⟨fun CG=> ?_,fun CG=> ?_,fun CG=> ?_⟩
  ·obtain ⟨c,hc,rfl⟩:=List.mem_map.1 CG
   exact hold c (by simp [hc]) hz
  ·exact hold a (by rw [hu];simp) (CG ▸ hz)
  ·obtain ⟨c,hc,rfl⟩:=List.mem_map.1 CG
   exact hold c (by simp [hc]) hz
 ·have hold:∀c∈A++P.ins x++C,R c≠f0∧(R c=f1∨(R c≠f1∧low (R c)∈D++ [x])):=fun c hc=>by
   obtain ⟨g1,g2⟩:=hlo c hc
   exact ⟨g1,g2.imp id fun ⟨g3,g4⟩=>⟨g3,List.mem_append.2 (.inl g4)⟩⟩
  simp only [List.mem_append] at hc
  rcases hc with (hc|hc)|hc
  ·exact hold c (by simp [hc])
  ·rw [hv,List.mem_append,List.mem_singleton] at hc
   rcases hc with hc|rfl
   ·obtain ⟨g1,g2,g3⟩:=n2 (R c) (List.mem_map_of_mem hc)
    exact ⟨g2, .inr ⟨g3,by rw [g1];simp⟩⟩
   ·have:=hold a (by rw [hu];simp)
    rw [hab] at this;exact this
  ·exact hold c (by simp [hc])
end
end Go.Ab
end
section
namespace Go.Ab
set_option maxRecDepth 10000
set_option linter.unusedSectionVars false
variable {P:PS}
inductive PS.Fk (P:PS) (x:Int):Int→Prop
 |refl:P.Fk x x
 |step {e:Int} :P.Fk x (P.tl e)→P.E e→P.Fk x (P.hd e)
theorem PS.Fk.trans {x y z:Int} (h1:P.Fk x y) (h2:P.Fk y z):P.Fk x z:=by
 induction h2 with
 |refl=>exact h1
 |step _ he ih=>exact .step ih he
inductive PS.Lp (P:PS) (L R:Int→Int) (F:Int):Int→Prop
 |refl:P.Lp L R F F
 |step {e:Int} :P.Lp L R F (L e)→P.E e→P.Lp L R F (R e)
theorem PS.Lp.trans {L R:Int→Int} {x y z:Int} (h1:P.Lp L R x y) (h2:P.Lp L R y z):P.Lp L R x z:=by
 induction h2 with
 |refl=>exact h1
 |step _ he ih=>exact .step ih he
theorem PS.Lp.head {L R:Int→Int} {e z:Int} (he:P.E e) (h2:P.Lp L R (R e) z):P.Lp L R (L e) z:=(PS.Lp.step .refl he).trans h2
theorem PS.Lp.DN {L R:Int→Int} {x y:Int} (h1:P.Lp L R x y):P.DN.Lp R L y x:=by
 induction h1 with
 |refl=>exact .refl
 | @step e h1 he ih=>exact PS.Lp.head (P:=P.DN) (L:=R) (R:=L) (e:=e) he ih
theorem PS.Fk.DN {x y:Int} (h1:P.Fk x y):P.DN.Fk x y:=by
 induction h1 with
 |refl=>exact .refl
 |step h1 he ih=>exact PS.Fk.step (P:=P.DN) ih he
section
variable (h:P.Ok)
include h
variable {L R:Int→Int} {f0 f1:Int} {low:Int→Int} (F:P.jA L R f0 f1 low)
include F
end
end Go.Ab
end
section
namespace Go.Ab
set_option maxRecDepth 10000
set_option linter.unusedSectionVars false
variable {P:PS}
section
variable (h:P.Ok) {L R:Int→Int} {f0 f1:Int} {low:Int→Int} (F:P.jA L R f0 f1 low)
include h F
end
section
variable (h:P.Ok) {L R:Int→Int} {f0 f1:Int} {low:Int→Int} (F:P.jA L R f0 f1 low) {e f:Int} (he:P.E e) (hf:P.E f)
include h F he hf
end
section
variable (h:P.Ok) {L R:Int→Int} {f0 f1:Int} {low:Int→Int} (F:P.jA L R f0 f1 low) {e f:Int} (he:P.E e) (hf:P.E f)
include h F he hf
end
end Go.Ab
end
section
namespace Go.Ab
open Go.Proofs
attribute [local congr] ACall.congr gd.congr Nx.congr
set_option maxRecDepth 10000
set_option maxHeartbeats 8000000
def eZ (f:Edge→Int) (es:List Edge) (k:Nat) (x:Nat):List Int:=((List.range k).filter fun i=>decide (f (es.getD i (0,0))=(x:Int))).map Int.ofNat
def mL (f:Edge→Int) (es:List Edge) (n k:Nat):List (List (List D)):=(List.range n).map fun x=>(eZ f es k x).map rI
def sL (ls:List (List Int)):D:= .sl 1 (ls.map fun l=> [sI l])
def dF (f:Edge→Int) (g:Gr):List (List Int):=(List.range g.n.toNat).map (eZ f g.es g.es.length)
def vw (g:Gr):D:= .pt [.sc (.int .i64 g.n),sE g.es,sL (dF (·.1) g),sL (dF (·.2) g)]
theorem aG {g:Gr} (h:aL g=true):0<g.n∧g.n≤64∧g.es.length≤128:=by
 simp [aL] at h;omega
theorem dw {g:Gr} (h:aL g=true) {k:Nat} (hk:k<g.es.length):(0≤(g.es.getD k (0,0)).1∧(g.es.getD k (0,0)).1<g.n)∧(0≤(g.es.getD k (0,0)).2∧(g.es.getD k (0,0)).2<g.n):=by
 have h2:=E7 (g:=g) hk
 rw [h] at h2
 have h3:¬qF g (g.es.getD k (0,0))=true:=fun e=>by simpa using h2 e
 simp only [qF,wR,Bool.or_eq_true,decide_eq_true_eq] at h3
 omega
theorem b8 {f:Edge→Int} {es:List Edge} {n k:Nat} :(mL f es n k).length=n:=by simp [mL]
theorem jC {f:Edge→Int} {es:List Edge} {n k x:Nat} (hx:x<n):(mL f es n k)[x]? =some ((eZ f es k x).map rI):=by
 simp [mL,List.getElem?_range hx]
theorem ia {f:Edge→Int} {es:List Edge} {k x:Nat} :(eZ f es k x).length≤k:=by
 simpa [eZ] using List.length_filter_le (fun i=>decide (f (es.getD i (0,0))=(x:Int))) (List.range k)
theorem Ay {f:Edge→Int} {es:List Edge} {k x:Nat} :eZ f es (k+1) x=eZ f es k x++if f (es.getD k (0,0))=(x:Int) then [(k:Int)] else []:=by
 simp only [eZ,List.range_succ,List.filter_append,List.map_append,List.filter_cons,List.filter_nil]
 split<;>simp_all
theorem s7 {f:Edge→Int} {es:List Edge} {n k:Nat} (h0:0≤f (es.getD k (0,0))):
 (mL f es n k).set (f (es.getD k (0,0))).toNat ((eZ f es k (f (es.getD k (0,0))).toNat).map rI++ [[.sc (.int .i64 k)]])=mL f es n (k+1):=by
 refine List.ext_getElem? fun i=> ?_
 rw [List.getElem?_set,b8]
 by_cases hi:i<n
 ·rw [jC hi,jC hi,Ay]
  generalize f (es.getD k (0,0))=e at*
  by_cases hq:e=(i:Int)
  ·subst hq;simp [hi,rI]
  ·have:¬e.toNat=i:=by omega
   simp [hq,this]
 ·rw [List.getElem?_eq_none (by rw [b8];omega),List.getElem?_eq_none (by rw [b8];omega)]
  generalize f (es.getD k (0,0))=e at*
  split
  ·rename_i hq;rw [if_neg (by omega)]
  ·rfl
theorem s8 {f:Edge→Int} {es:List Edge} {n:Nat} :List.replicate n []=mL f es n 0:=by
 refine List.ext_getElem? fun i=> ?_
 by_cases hi:i<n
 ·rw [jC hi];simp [hi,eZ]
 ·rw [List.getElem?_eq_none (by simp;omega),List.getElem?_eq_none (by rw [b8];omega)]
theorem gP (g:Gr) (hm:aL g=true):Spec Tryz.prog 40 (Args [eG g]) [] (.d (vw g)) []:=by
 have hn:=aG hm
 have hl:g.es.length≤9223372036854775807:=by omega
 have hl':g.es.length≤1000000:=by omega
 (refine Spec.hd (C:=T.cfg [] [13,16]) (rs:= [.t 2]) (T.ai _ _) Tryz.func40 rfl rfl Tryz.ntmps40 Tryz.results40 (by simp [AObj.isNest]) (by simp [AObj.isNest]) (by kernel_rfl) T.mixed fun X hX hP hC aQ cy=> ?_)
 repeat' (first|refine Rn.p ?_|(with_reducible apply And.intro)|((first|(refine hK _ ?_;clear hK K)|with_reducible intro K hK|refine Rs.p ?_|((with_reducible first|apply oP|apply oQ);exact rfl)|refine aa hX hC hP (fC g hl) rfl rfl rfl (by simp only [go_sem,simprocAttr,hm]) rfl ?_|refine aa hX hC hP (lB g.es hl') rfl rfl rfl (by simp only [go_sem,simprocAttr,hm]) rfl ?_);try simp only [go_sem,simprocAttr,hm])|((with_reducible refine oD ?_ ?_);kernel_rfl)|((with_reducible intro h);try simp only [go_sem,simprocAttr,hm] at h)|omega|intro h)
 refine yh hX 13 (by simp [go_sem,simprocAttr,hm];exact ⟨rfl,rfl,rfl,rfl⟩) (by decide) (by simp [go_sem,simprocAttr,hm]) (by simp [go_sem,simprocAttr,hm]) ?_
 refine yh hX 16 (by simp [go_sem,simprocAttr,hm];exact ⟨rfl,rfl,rfl,rfl⟩) (by decide) (by simp [go_sem,simprocAttr,hm]) (by simp [go_sem,simprocAttr,hm]) ?_
 simp only [go_sem,simprocAttr,hm]
 refine ak (fun k:Nat=>k≤g.es.length) (fun k=>⟨[(29,eN k),(28,eN g.es.length),(27, .d (sE g.es)),(3, .ptr 18 0)], [(18, .box [eN g.n, .d (sE g.es), .ref 13, .ref 16]),(16, .nest 25 3 1 (mL (·.2) g.es g.n.toNat k) none),(13, .nest 25 3 1 (mL (·.1) g.es g.n.toNat k) none)]⟩) (fun k=>g.es.length - k) 0 (by simp) ?_ ?_
 ·refine Le.of ?_ ?_<;>simp [go_sem,simprocAttr,hm]
  exact ⟨s8,s8⟩
 rintro k hk
 rcases Nat.lt_or_ge k g.es.length with hlt|hge
 ·have hb:decide ((k:Int)<(g.es.length:Int))=true:=decide_eq_true (by omega)
  obtain ⟨zN,El⟩:=dw hm hlt
  have Kr:=jC (f:=(·.1)) (es:=g.es) (k:=k) (show (g.es.getD k (0,0)).1.toNat<g.n.toNat by omega)
  have GG:=jC (f:=(·.2)) (es:=g.es) (k:=k) (show (g.es.getD k (0,0)).2.toNat<g.n.toNat by omega)
  have GH:=ia (f:=(·.1)) (es:=g.es) (k:=k) (x:=(g.es.getD k (0,0)).1.toNat)
  have Fl:=ia (f:=(·.2)) (es:=g.es) (k:=k) (x:=(g.es.getD k (0,0)).2.toNat)
  repeat' (first|refine Rn.p ?_|(with_reducible apply And.intro)|((first|(refine hK _ ?_;clear hK K)|with_reducible intro K hK|refine Rs.p ?_|((with_reducible first|apply oP|apply oQ);exact rfl)|refine aa hX hC hP (fC g hl) rfl rfl rfl (by simp only [go_sem,simprocAttr,hm,hb,Kr,GG,b8]) rfl ?_|refine aa hX hC hP (lB g.es hl') rfl rfl rfl (by simp only [go_sem,simprocAttr,hm,hb,Kr,GG,b8]) rfl ?_);try simp only [go_sem,simprocAttr,hm,hb,Kr,GG,b8])|((with_reducible refine oD ?_ ?_);first|(focus (simp only [xT,lZ,gK,meets,sy,mV,CB,c9,oa,mJ,Rec.rs,Rec.pe,Rec.Is,fy,Rec.cW,Rec.names,KV.ids,EJ,EK,EL,EM,EN,EO,List.zip_cons_cons,List.zip_nil_right,List.zipIdx_cons,List.zipIdx_nil,List.all_cons,List.all_nil,List.contains_cons,List.contains_nil,List.any_cons,List.any_nil,List.flatMap_nil,List.reverse_cons,List.reverse_nil,jm,CA,Region.binds,go_sem,simprocAttr,hm,hb,Kr,GG,b8];done))|kernel_rfl)|((with_reducible intro h);try simp only [go_sem,simprocAttr,hm,hb,Kr,GG,b8] at h)|omega|intro h)
  refine ⟨k+1,by omega, ?_,by omega⟩
  refine Le.of ?_ ?_<;>simp [go_sem,simprocAttr,hm,hb,Kr,GG,b8]
  exact ⟨s7 (f:=(·.2)) El.1,s7 (f:=(·.1)) zN.1⟩
 ·repeat' (first|refine Rn.p ?_|(with_reducible apply And.intro)|((first|(refine hK _ ?_;clear hK K)|with_reducible intro K hK|refine Rs.p ?_|((with_reducible first|apply oP|apply oQ);exact rfl)|refine aa hX hC hP (fC g hl) rfl rfl rfl (by simp only [go_sem,simprocAttr]) rfl ?_|refine aa hX hC hP (lB g.es hl') rfl rfl rfl (by simp only [go_sem,simprocAttr]) rfl ?_);try simp only [go_sem,simprocAttr])|((with_reducible refine oD ?_ ?_);first|(focus (simp only [xT,lZ,gK,meets,sy,mV,CB,c9,oa,mJ,Rec.rs,Rec.pe,Rec.Is,fy,Rec.cW,Rec.names,KV.ids,EJ,EK,EL,EM,EN,EO,List.zip_cons_cons,List.zip_nil_right,List.zipIdx_cons,List.zipIdx_nil,List.all_cons,List.all_nil,List.contains_cons,List.contains_nil,List.any_cons,List.any_nil,List.flatMap_nil,List.reverse_cons,List.reverse_nil,jm,CA,Region.binds,go_sem,simprocAttr];done))|kernel_rfl)|((with_reducible intro h);try simp only [go_sem,simprocAttr] at h)|omega|intro h)
  have:k=g.es.length:=by omega
  subst this
  simp only [vw,sE,sL,dF,mL,List.map_map]
  rfl
end Go.Ab
end
section
namespace Go.Ab
open Go.Proofs
attribute [local congr] ACall.congr gd.congr Nx.congr
set_option maxRecDepth 10000
def tl (g:Gr) (i:Nat):Int:=(g.es.getD i (0,0)).1
def hd (g:Gr) (i:Nat):Int:=(g.es.getD i (0,0)).2
def wt (g:Gr) (out:List Int) (y:Nat):Int:=
 if (y:Int)∈out then -1 else (((List.range g.es.length).countP fun i=>decide (hd g i=(y:Int))&& !decide (tl g i∈out):Nat):Int)
def cH (g:Gr) (out:List Int):List Int:=(List.range g.n.toNat).map (wt g out)
def uM (g:Gr):Nat→List Int→List Int
 |0,out=>out
 |f+1,out=>if fU (cH g out) 0<0 then out else uM g f (out++ [fU (cH g out) 0])
def aT (g:Gr):List Int:=uM g g.n.toNat []
structure dV (g:Gr) (out:List Int):Prop where
 lo:∀x∈out,0≤x∧x<g.n
 back:∀i,i<g.es.length→hd g i∈out→tl g i∈out
 fuel:out.length+(List.range g.n.toNat).countP (fun y:Nat=> !decide ((y:Int)∈out))=g.n.toNat
theorem iI {α:Type} {f:α→Bool} {l:List α} (d:α):bP f l= -1∧(∀x∈l,f x=false)∨∃k:Nat,bP f l=k∧k<l.length∧f (l.getD k d)=true∧∀j,j<k→f (l.getD j d)=false:=by
 cases h:l.findIdx? f with
 |none=>
  rw [List.findIdx?_eq_none_iff] at h
  exact .inl ⟨by simp [bP,List.findIdx?_eq_none_iff.2 h],h⟩
 |some i=>
  obtain ⟨hi,hg,hb⟩:=List.findIdx?_eq_some_iff_getElem.1 h
  refine .inr ⟨i,by simp [bP,h],hi,by simpa [List.getD_eq_getElem?_getD,List.getElem?_eq_getElem hi] using hg,fun j hj=> ?_⟩
  have hjl:j<l.length:=by omega
  have:=hb j hj
  simpa [List.getD_eq_getElem?_getD,List.getElem?_eq_getElem hjl] using this
theorem wts_length {g:Gr} {out:List Int} :(cH g out).length=g.n.toNat:=by simp [cH]
theorem lD {g:Gr} {out:List Int} {y:Nat} (h:y<g.n.toNat) (d:Int):(cH g out).getD y d=wt g out y:=by
 simp [cH,List.getD_eq_getElem?_getD,List.getElem?_range h]
theorem lE {p:Nat→Bool} {x:Nat} (hx:p x=true):∀ {n:Nat},x<n→(List.range n).countP (fun y=>p y&& !decide (y=x))+1=(List.range n).countP p
 |0,h=>by omega
 |n+1,h=>by
  rw [List.range_succ,List.countP_append,List.countP_append]
  by_cases BF:x=n
  ·subst BF
   have:(List.range x).countP (fun y=>p y&& !decide (y=x))=(List.range x).countP p:=by
    refine List.countP_congr fun y hy=> ?_
    have:y≠x:=by have:=List.mem_range.1 hy;omega
    simp [this]
   rw [this]
   simp [List.countP_cons,hx]
  ·have:=lE hx (n:=n) (by omega)
   have hn:n≠x:=fun e=>BF e.symm
   simp only [List.countP_cons,List.countP_nil,hn,decide_false,Bool.not_false,Bool.and_true]
   omega
theorem dV.nil (g:Gr):dV g []:=⟨by simp,by simp,by rw [List.countP_eq_length_filter,List.filter_eq_self.2 (by simp)];simp⟩
theorem dV.next {g:Gr} (hm:aL g=true) {out:List Int} (h:dV g out) {x:Nat} (hx:x<g.n.toNat) (hw:wt g out x=0):dV g (out++ [(x:Int)])∧(x:Int)∉out∧(∀i,i<g.es.length→hd g i=x→tl g i∈out):=by
 have kY:(x:Int)∉out:=fun hi=>by simp [wt,hi] at hw
 have hb:∀i,i<g.es.length→hd g i=x→tl g i∈out:=by
  intro i hi he
  simp only [wt,kY,if_false] at hw
  have:=List.countP_eq_zero.1 (Int.ofNat.inj hw) i (List.mem_range.2 hi)
  simpa [he] using this
 refine ⟨⟨?_, ?_, ?_⟩,kY,hb⟩
 ·intro y hy
  rcases List.mem_append.1 hy with hy|hy
  ·exact h.lo y hy
  ·simp at hy;omega
 ·intro i hi hh
  rcases List.mem_append.1 hh with hh|hh
  ·exact List.mem_append_left _ (h.back i hi hh)
  ·simp at hh
   exact List.mem_append_left _ (hb i hi hh)
 ·have h1:=h.fuel
  have h2:=lE (p:=fun y:Nat=> !decide ((y:Int)∈out)) (x:=x) (by simp [kY]) hx
  have h3:(List.range g.n.toNat).countP (fun y:Nat=> !decide ((y:Int)∈out++ [(x:Int)]))=(List.range g.n.toNat).countP (fun y:Nat=>(!decide ((y:Int)∈out))&& !decide (y=x)):=by
   refine List.countP_congr fun y _=> ?_
   simp;omega
  rw [h3,List.length_append,List.length_singleton]
  omega
def iT (g:Gr) (x:Nat):List Int:=eZ (·.1) g.es g.es.length x
def pO (g:Gr) (x:Nat):List Int:=eZ (·.2) g.es g.es.length x
theorem Fm {g:Gr} {x:Nat} {e:Int} (h:e∈iT g x):∃i:Nat,e=i∧i<g.es.length∧tl g i=x:=by
 simp only [iT,eZ,List.mem_map,List.mem_filter,List.mem_range,decide_eq_true_eq] at h
 obtain ⟨i,⟨h1,h2⟩,rfl⟩:=h
 exact ⟨i,rfl,h1,h2⟩
def DP (g:Gr) (out:List Int) (x j y:Nat):Int:=
 if (y:Int)∈out++ [(x:Int)] then -1 else (((List.range g.es.length).countP fun i=>decide (hd g i=(y:Int))&& !decide (tl g i∈out):Nat):Int) - (((iT g x).take j).countP fun e=>decide (hd g e.toNat=(y:Int)):Nat)
def uN (g:Gr) (out:List Int) (x j:Nat):List Int:=(List.range g.n.toNat).map (DP g out x j)
theorem wtps_length {g:Gr} {out:List Int} {x j:Nat} :(uN g out x j).length=g.n.toNat:=by simp [uN]
theorem oo {g:Gr} {out:List Int} {x j y:Nat} (h:y<g.n.toNat):(uN g out x j)[y]? =some (DP g out x j y):=by
 simp [uN,List.getElem?_range h]
theorem kC {g:Gr} {out:List Int} {y:Nat} (h:y<g.n.toNat):(cH g out)[y]? =some (wt g out y):=by
 simp [cH,List.getElem?_range h]
theorem CX {g:Gr} {out:List Int} {x:Nat} :(cH g out).set x (-1)=uN g out x 0:=by
 refine List.ext_getElem? fun i=> ?_
 rw [List.getElem?_set,wts_length]
 by_cases hi:i<g.n.toNat
 ·rw [kC hi,oo hi]
  by_cases hx:x=i
  ·subst hx;simp [hi,DP]
  ·have:¬i=x:=fun e=>hx e.symm
   simp only [hx,if_false,DP,wt,List.mem_append,List.mem_singleton,List.take_zero,List.countP_nil]
   have h2:¬(i:Int)=(x:Int):=by omega
   simp [h2]
 ·rw [List.getElem?_eq_none (by rw [wts_length];omega),List.getElem?_eq_none (by rw [wtps_length];omega)]
  split
  ·rw [if_neg (by omega)]
  ·rfl
theorem kD {α:Type} {p q r:α→Bool} :∀ {l:List α},(∀a∈l,p a=(q a||r a)∧(q a&&r a)=false)→l.countP p=l.countP q+l.countP r
 | [],_=>rfl
 |a::l,h=>by
  obtain ⟨h1,h2⟩:=h a List.mem_cons_self
  have:=kD (l:=l) fun b hb=>h b (List.mem_cons_of_mem _ hb)
  simp only [List.countP_cons,this,h1]
  cases hq:q a<;>cases hr:r a<;>simp [hq,hr] at h2 ⊢ <;>omega
theorem Fo {g:Gr} {out:List Int} {x j:Nat} (hx:(x:Int)∉out) (hj:(iT g x).length≤j):uN g out x j=cH g (out++ [(x:Int)]):=by
 refine List.map_congr_left fun y _=> ?_
 simp only [DP,wt]
 split
 ·rfl
 ·rw [List.take_of_length_le hj]
  have h1:(iT g x).countP (fun e=>decide (hd g e.toNat=(y:Int)))=(List.range g.es.length).countP (fun i=>decide (hd g i=(y:Int))&&decide (tl g i=(x:Int))):=by
   simp only [iT,eZ,List.countP_map,List.countP_filter]
   exact List.countP_congr fun i _=>by simp [tl]
  have h2:=kD (p:=fun i=>decide (hd g i=(y:Int))&& !decide (tl g i∈out)) (q:=fun i=>decide (hd g i=(y:Int))&& !decide (tl g i∈out++ [(x:Int)])) (r:=fun i=>decide (hd g i=(y:Int))&&decide (tl g i=(x:Int))) (l:=List.range g.es.length) (fun i _=>by
   by_cases h3:tl g i=x
   ·simp [h3,hx]
   ·simp [h3])
  rw [h1,h2];omega
theorem JE {g:Gr} {out:List Int} {x:Nat} (hP:dV g out) (kY:(x:Int)∉out) (hb:∀i,i<g.es.length→hd g i=x→tl g i∈out) {i:Nat} (hi:i<g.es.length) (ht:tl g i=x):hd g i∉out++ [(x:Int)]:=by
 intro h
 rcases List.mem_append.1 h with h|h
 ·exact kY (ht ▸ hP.back i hi h)
 ·simp at h
  exact kY (ht ▸ hb i hi h)
theorem CY {g:Gr} {out:List Int} {x j i:Nat} (hj:(iT g x)[j]? =some (i:Int)) (h0:0≤hd g i) (hn:hd g i∉out++ [(x:Int)]):
 (uN g out x j).set (hd g i).toNat (DP g out x j (hd g i).toNat - 1)=uN g out x (j+1):=by
 refine List.ext_getElem? fun y=> ?_
 rw [List.getElem?_set,wtps_length]
 by_cases hy:y<g.n.toNat
 ·rw [oo hy,oo hy]
  have ht:((iT g x).take (j+1)).countP (fun e=>decide (hd g e.toNat=(y:Int)))=((iT g x).take j).countP (fun e=>decide (hd g e.toNat=(y:Int)))+if hd g i=(y:Int) then 1 else 0:=by
   rw [List.take_add_one,List.countP_append,hj]
   simp [List.countP_cons]
  by_cases hq:(hd g i).toNat=y
  ·subst hq
   have he:((hd g i).toNat:Int)=hd g i:=by omega
   rw [if_pos rfl,if_pos (by assumption)]
   rw [he,if_pos rfl] at ht
   simp only [DP,he,hn,if_false,ht]
   congr 1;omega
  ·rw [if_neg hq]
   have k4:¬hd g i=(y:Int):=by omega
   simp only [DP,ht,k4,if_false,Nat.add_zero]
 ·rw [List.getElem?_eq_none (by rw [wtps_length];omega),List.getElem?_eq_none (by rw [wtps_length];omega)]
  split
  ·rw [if_neg (by omega)]
  ·rfl
def Hz (f:Edge→Int) (g:Gr):List (List D):=(dF f g).map fun l=> [sI l]
theorem oq {f:Edge→Int} {g:Gr} {x:Nat} (h:x<g.n.toNat) (d:List D):(Hz f g).getD x d= [sI (eZ f g.es g.es.length x)]:=by
 simp [Hz,dF,List.getD_eq_getElem?_getD,List.getElem?_range h]
theorem vwl_length {f:Edge→Int} {g:Gr} :(Hz f g).length=g.n.toNat:=by simp [Hz,dF]
def Ks (g:Gr):D:= .pt [.sc (.int .i64 g.n),sE g.es, .sl 1 (Hz (·.1) g), .sl 1 (Hz (·.2) g)]
theorem aq (g:Gr):vw g=Ks g:=rfl
attribute [go_sem] Ks wtps_length wts_length vwl_length
theorem Fp {g:Gr} {k:Nat} (h:k<g.n.toNat):(cH g []).take (k+1)=(cH g []).take k++ [((pO g k).length:Int)]:=by
 rw [List.take_add_one,kC h]
 simp [wt,pO,eZ,hd,List.countP_eq_length_filter]
theorem CZ {g:Gr} (hm:aL g=true) {out:List Int} {x j y:Nat} : -1000≤DP g out x j y∧DP g out x j y≤1000:=by
 have hn:=aG hm
 have h1:=List.countP_le_length (p:=fun i=>decide (hd g i=(y:Int))&& !decide (tl g i∈out)) (l:=List.range g.es.length)
 have h2:=List.countP_le_length (p:=fun e:Int=>decide (hd g e.toNat=(y:Int))) (l:=(iT g x).take j)
 have h3:((iT g x).take j).length≤g.es.length:=Nat.le_trans (List.length_take_le' _ _) ia
 simp only [List.length_range] at h1
 unfold DP
 split<;>omega
theorem yD {g:Gr} {out:List Int} (h:fU (cH g out) 0<0):∀f,uM g f out=out
 |0=>rfl
 |f+1=>by simp [uM,h]
def left (g:Gr) (out:List Int):Nat:=(List.range g.n.toNat).countP (fun y:Nat=> !decide ((y:Int)∈out))
theorem u7 {g:Gr} {out:List Int} {x:Nat} (h:dV g out) (h':dV g (out++ [(x:Int)])):left g out=left g (out++ [(x:Int)])+1:=by
 have h1:=h.fuel
 have h2:=h'.fuel
 rw [List.length_append,List.length_singleton] at h2
 unfold left;omega
theorem Ma {g:Gr} (out:List Int):fU (cH g out) 0= -1∨∃x:Nat,fU (cH g out) 0=x∧x<g.n.toNat∧wt g out x=0:=by
 rcases iI (f:=fun y:Int=>decide (0=y)) (l:=cH g out) 0 with ⟨h,_⟩|⟨k,h1,h2,h3,_⟩
 ·exact .inl h
 ·rw [wts_length] at h2
  rw [lD h2] at h3
  exact .inr ⟨k,h1,h2,by simpa using (of_decide_eq_true h3).symm⟩
theorem jD (g:Gr) (hm:aL g=true):Spec Tryz.prog 161 (Args [.d (vw g)]) [] (.tup [.d (sI (aT g)), .d (sI (cH g (aT g)))]) []:=by
 rw [aq]
 have hn:=aG hm
 (refine Spec.hd (C:=T.cfg [22] []) (rs:= [.t 2, .t 3]) (T.ai _ _) Tryz.func161 rfl rfl Tryz.ntmps161 Tryz.results161 (by simp [AObj.isNest]) (by simp [AObj.isNest]) (by kernel_rfl) T.mixed fun X hX hP hC aQ cy=> ?_)
 repeat' (first|refine Rn.p ?_|(with_reducible apply And.intro)|((first|(refine hK _ ?_;clear hK K)|with_reducible intro K hK|refine Rs.p ?_|((with_reducible first|apply oP|apply oQ);exact rfl)|(refine au hX hC hP (aS (cH g out) 0 BG) rfl rfl rfl ?_ ?_ ?_ ?_;iterate 3 (focus (simp only [go_sem,simprocAttr];done))));try simp only [go_sem,simprocAttr])|((with_reducible refine oD ?_ ?_);kernel_rfl)|((with_reducible intro h);try simp only [go_sem,simprocAttr] at h)|omega|intro h)
 (refine dn hX 3 22 (.own 3 1 []) (by simp only [go_sem,simprocAttr]) (by simp only [go_sem,simprocAttr]) (by decide) ⟨3,1,by decide, .inl rfl⟩ ?_;simp only [go_sem,simprocAttr])
 refine ak (fun k:Nat=>k≤g.n.toNat) (fun k=>⟨[(14,eN k),(13,eN g.n.toNat),(12, .d (.sl 1 (Hz (·.2) g))),(3, .ref 22),(2, .nil 3),(0, .d (Ks g))], [(22, .own 3 1 (((cH g []).take k).map rI))]⟩) (fun k=>g.n.toNat - k) 0 (by simp) ?_ ?_
 ·(refine Le.of ?_ ?_<;>simp [go_sem,simprocAttr])
 ·rintro k hk
  rcases Nat.lt_or_ge k g.n.toNat with hlt|hge
  ·have hb:decide ((k:Int)<(g.n.toNat:Int))=true:=decide_eq_true (by omega)
   have hv:=oq (f:=(·.2)) hlt
   have GH:(pO g k).length≤g.es.length:=ia
   have hlt':((cH g []).take k).length≤64:=by rw [List.length_take,wts_length];omega
   repeat' (first|refine Rn.p ?_|(with_reducible apply And.intro)|((first|(refine hK _ ?_;clear hK K)|with_reducible intro K hK|refine Rs.p ?_|((with_reducible first|apply oP|apply oQ);exact rfl)|(refine au hX hC hP (aS (cH g out) 0 BG) rfl rfl rfl ?_ ?_ ?_ ?_;iterate 3 (focus (simp only [go_sem,simprocAttr,hb,hv];done))));try simp only [go_sem,simprocAttr,hb,hv])|((with_reducible refine oD ?_ ?_);kernel_rfl)|((with_reducible intro h);try simp only [go_sem,simprocAttr,hb,hv] at h)|omega|intro h)
   refine ⟨k+1,by omega, ?_,by omega⟩
   refine Le.of ?_ ?_<;>simp [go_sem,simprocAttr,hb,hv,Fp hlt]
   rfl
  ·obtain rfl:k=g.n.toNat:=by omega
   have hb:decide ((g.n.toNat:Int)<(g.n.toNat:Int))=false:=decide_eq_false (by omega)
   have ht:(cH g []).take g.n.toNat=cH g []:=List.take_of_length_le (by rw [wts_length];omega)
   repeat' (first|refine Rn.p ?_|(with_reducible apply And.intro)|((first|(refine hK _ ?_;clear hK K)|with_reducible intro K hK|refine Rs.p ?_|((with_reducible first|apply oP|apply oQ);exact rfl)|(refine au hX hC hP (aS (cH g out) 0 BG) rfl rfl rfl ?_ ?_ ?_ ?_;iterate 3 (focus (simp only [go_sem,simprocAttr,hb,ht];done))));try simp only [go_sem,simprocAttr,hb,ht])|((with_reducible refine oD ?_ ?_);kernel_rfl)|((with_reducible intro h);try simp only [go_sem,simprocAttr,hb,ht] at h)|omega|intro h)
   (refine dn hX 2 33 (.tip 3 1 []) (by simp only [go_sem,simprocAttr,hb,ht]) (by simp only [go_sem,simprocAttr,hb,ht]) (by decide) ⟨3,1,by decide, .inr rfl⟩ ?_;simp only [go_sem,simprocAttr,hb,ht])
   refine ak (fun out:List Int=>dV g out∧uM g (left g out) out=aT g) (fun out=>⟨[(3, .ref 22),(2, .ref 33),(0, .d (Ks g))], [(22, .own 3 1 ((cH g out).map rI)),(33, .tip 3 1 (out.map rI))]⟩) (left g) [] ⟨dV.nil g, ?_⟩ ?_ ?_
   ·have:=(dV.nil g).fuel
    simp only [List.length_nil,Nat.zero_add] at this
    unfold left aT
    rw [this]
   ·(refine Le.of ?_ ?_<;>simp [go_sem,simprocAttr,hb,ht])
   rintro out ⟨cx,hrun⟩
   have BG:(cH g out).length≤9223372036854775807:=by rw [wts_length];omega
   have hout:out.length≤64:=by have:=cx.fuel;omega
   rcases Ma (g:=g) out with hx|⟨x,hx,BF,hw0⟩
   ·have hr:=yD (g:=g) (out:=out) (by omega) (left g out)
    rw [hrun] at hr
    repeat' (first|refine Rn.p ?_|(with_reducible apply And.intro)|((first|(refine hK _ ?_;clear hK K)|with_reducible intro K hK|refine Rs.p ?_|((with_reducible first|apply oP|apply oQ);exact rfl)|(refine au hX hC hP (aS (cH g out) 0 BG) rfl rfl rfl ?_ ?_ ?_ ?_;iterate 3 (focus (simp only [go_sem,simprocAttr,hx];done))));try simp only [go_sem,simprocAttr,hx])|((with_reducible refine oD ?_ ?_);kernel_rfl)|((with_reducible intro h);try simp only [go_sem,simprocAttr,hx] at h)|omega|intro h)
    ·rw [hr]
    ·rw [hr]
   ·obtain ⟨mU,kY,Az⟩:=cx.next hm BF hw0
    have hb1:decide ((x:Int)<0)=false:=decide_eq_false (by omega)
    have hv:=oq (f:=(·.1)) BF
    have GH:(iT g x).length≤g.es.length:=ia
    repeat' (first|refine Rn.p ?_|(with_reducible apply And.intro)|((first|(refine hK _ ?_;clear hK K)|with_reducible intro K hK|refine Rs.p ?_|((with_reducible first|apply oP|apply oQ);exact rfl)|(refine au hX hC hP (aS (cH g out) 0 BG) rfl rfl rfl ?_ ?_ ?_ ?_;iterate 3 (focus (simp only [go_sem,simprocAttr,hx,hb1,hv];done))));try simp only [go_sem,simprocAttr,hx,hb1,hv])|((with_reducible refine oD ?_ ?_);kernel_rfl)|((with_reducible intro h);try simp only [go_sem,simprocAttr,hx,hb1,hv] at h)|omega|intro h)
    refine ak (fun j:Nat=>j≤(iT g x).length) (fun j=>⟨[(45,eN j),(44,eN (iT g x).length),(43, .d (sI (iT g x))),(3, .ref 22),(2, .ref 33),(0, .d (Ks g))], [(22, .own 3 1 ((uN g out x j).map rI)),(33, .tip 3 1 ((out++ [(x:Int)]).map rI))]⟩) (fun j=>(iT g x).length - j) 0 (by simp) ?_ ?_
    ·refine Le.of ?_ ?_<;>simp [go_sem,simprocAttr,hx,hb1,hv,iT,rI]
     rw [← CX,List.map_set];rfl
    rintro j hj
    rcases Nat.lt_or_ge j (iT g x).length with hlt|hge
    ·have hb2:decide ((j:Int)<((iT g x).length:Int))=true:=decide_eq_true (by omega)
     obtain ⟨i,hi,hil,hit⟩:=Fm (List.getElem_mem hlt)
     have hi1:(iT g x)[j]? =some (i:Int):=by rw [List.getElem?_eq_getElem hlt,hi]
     have hi2:(iT g x).getD j 0=(i:Int):=by rw [List.getD_eq_getElem?_getD,hi1];rfl
     have hnew:=JE cx kY Az hil hit
     obtain ⟨_,Mb,zN⟩:=dw hm hil
     have hnext:=CY hi1 Mb hnew
     have hw:(uN g out x j).getD (g.es.getD i (0,0)).2.toNat 0=DP g out x j (hd g i).toNat:=by
      rw [List.getD_eq_getElem?_getD,oo (by omega)];rfl
     have hbd:=CZ hm (out:=out) (x:=x) (j:=j) (y:=(hd g i).toNat)
     repeat' (first|refine Rn.p ?_|(with_reducible apply And.intro)|((first|(refine hK _ ?_;clear hK K)|with_reducible intro K hK|refine Rs.p ?_|((with_reducible first|apply oP|apply oQ);exact rfl)|(refine au hX hC hP (aS (cH g out) 0 BG) rfl rfl rfl ?_ ?_ ?_ ?_;iterate 3 (focus (simp only [go_sem,simprocAttr,hb2,hi2,hw];done))));try simp only [go_sem,simprocAttr,hb2,hi2,hw])|((with_reducible refine oD ?_ ?_);kernel_rfl)|((with_reducible intro h);try simp only [go_sem,simprocAttr,hb2,hi2,hw] at h)|omega|intro h)
     refine ⟨j+1,by omega, ?_,by omega⟩
     refine Le.of ?_ ?_<;>simp [go_sem,simprocAttr,hb2,hi2,hw]
     rw [← hnext,List.map_set];rfl
    ·have hb2:decide ((j:Int)<((iT g x).length:Int))=false:=decide_eq_false (by omega)
     repeat' (first|refine Rn.p ?_|(with_reducible apply And.intro)|((first|(refine hK _ ?_;clear hK K)|with_reducible intro K hK|refine Rs.p ?_|((with_reducible first|apply oP|apply oQ);exact rfl)|(refine au hX hC hP (aS (cH g out) 0 BG) rfl rfl rfl ?_ ?_ ?_ ?_;iterate 3 (focus (simp only [go_sem,simprocAttr,hb2];done))));try simp only [go_sem,simprocAttr,hb2])|((with_reducible refine oD ?_ ?_);kernel_rfl)|((with_reducible intro h);try simp only [go_sem,simprocAttr,hb2] at h)|omega|intro h)
     have Fq:=u7 cx mU
     refine ⟨out++ [(x:Int)],⟨mU, ?_⟩, ?_,by omega⟩
     ·rw [← hrun,Fq]
      simp only [uM,hx]
      rw [if_neg (by omega)]
     ·refine Le.of ?_ ?_<;>simp [go_sem,simprocAttr,hb2,Fo kY hge]
end Go.Ab
end
section
namespace Go.Ab
open Go.Proofs
attribute [local congr] ACall.congr gd.congr Nx.congr
set_option maxRecDepth 10000
def kR (l:List Int) (k:Nat):List Int:=(List.range l.length).map fun p=>if p<k∨l.length - 1<p+k then l.getD (l.length - 1 - p) 0 else l.getD p 0
theorem cL {l:List Int} {k:Nat} :(kR l k).length=l.length:=by simp [kR]
theorem jE {l:List Int} {k p:Nat} (h:p<l.length):(kR l k)[p]? =some (if p<k∨l.length - 1<p+k then l.getD (l.length - 1 - p) 0 else l.getD p 0):=by
 simp [kR,List.getElem?_range h]
theorem s9 {l:List Int} {k p:Nat} (h:p<l.length) (d:Int):(kR l k).getD p d=if p<k∨l.length - 1<p+k then l.getD (l.length - 1 - p) 0 else l.getD p 0:=by
 rw [List.getD_eq_getElem?_getD,jE h];rfl
theorem AA {l:List Int} :kR l 0=l:=by
 refine List.ext_getElem? fun i=> ?_
 by_cases hi:i<l.length
 ·rw [jE hi,if_neg (by omega),List.getD_eq_getElem?_getD,List.getElem?_eq_getElem hi];rfl
 ·rw [List.getElem?_eq_none (by rw [cL];omega),List.getElem?_eq_none (by omega)]
theorem C0 {l:List Int} {k:Nat} (h:l.length≤2*k+1):kR l k=l.reverse:=by
 refine List.ext_getElem? fun i=> ?_
 by_cases hi:i<l.length
 ·rw [jE hi,List.getElem?_reverse hi]
  split
  ·rw [List.getD_eq_getElem?_getD,List.getElem?_eq_getElem (by omega)];rfl
  ·have:i=l.length - 1 - i:=by omega
   rw [← this,List.getD_eq_getElem?_getD,List.getElem?_eq_getElem hi];rfl
 ·rw [List.getElem?_eq_none (by rw [cL];omega),List.getElem?_eq_none (by rw [List.length_reverse];omega)]
theorem AB {l:List Int} {k:Nat} (h:k<l.length - 1 - k):((kR l k).set k ((kR l k).getD (l.length - 1 - k) 0)).set (l.length - 1 - k) ((kR l k).getD k 0)=kR l (k+1):=by
 refine List.ext_getElem? fun i=> ?_
 rw [List.getElem?_set,List.length_set,cL,List.getElem?_set,cL]
 by_cases hi:i<l.length
 ·rw [jE hi,jE hi,s9 (by omega),s9 (by omega)]
  by_cases h1:l.length - 1 - k=i
  ·rw [if_pos h1,if_pos (by omega),if_neg (by omega),if_pos (by omega)]
   congr 2;omega
  ·rw [if_neg h1]
   by_cases h2:k=i
   ·rw [if_pos h2,if_pos (by omega),if_neg (by omega),if_pos (by omega)]
    congr 2;omega
   ·rw [if_neg h2]
    congr 1
    by_cases h3:i<k∨l.length - 1<i+k
    ·rw [if_pos h3,if_pos (by omega)]
    ·rw [if_neg h3,if_neg (by omega)]
 ·rw [List.getElem?_eq_none (by rw [cL];omega),List.getElem?_eq_none (by rw [cL];omega),if_neg (by omega),if_neg (by omega)]
theorem dL (l:List Int) (hl:l.length≤1000000):Spec Tryz.prog 82 (Args [.ref 10000]) [(10000, .part 3 1 (l.map rI))] (.tup []) [(10000, .part 3 1 (l.reverse.map rI))]:=by
 (refine Spec.hd (C:=T.cfg [] []) (rs:= []) (T.ai _ _) Tryz.func82 rfl rfl Tryz.ntmps82 Tryz.results82 (by simp [AObj.isNest]) (by simp [AObj.isNest]) (by kernel_rfl) T.mixed fun X hX hP hC aQ cy=> ?_)
 repeat' (first|refine Rn.p ?_|(with_reducible apply And.intro)|((first|(refine hK _ ?_;clear hK K)|with_reducible intro K hK|refine Rs.p ?_|((with_reducible first|apply oP|apply oQ);exact rfl));try simp only [go_sem,simprocAttr])|((with_reducible refine oD ?_ ?_);kernel_rfl)|((with_reducible intro h);try simp only [go_sem,simprocAttr] at h)|omega|intro h)
 refine ak (fun k:Nat=>2*k≤l.length+1) (fun k=>⟨[(0, .ref 10000),(2,eN k),(3,eN ((l.length:Int) - 1 - k))], [(10000, .part 3 1 ((kR l k).map rI))]⟩) (fun k=>l.length+1 - k) 0 (by omega) ?_ ?_
 ·refine Le.of ?_ ?_<;>simp [go_sem,simprocAttr,AA]
 rintro k hk
 rcases Nat.lt_or_ge (2*k+1) l.length with hlt|hge
 ·have hb:decide ((k:Int)<(l.length:Int) - 1 - (k:Int))=true:=decide_eq_true (by omega)
  have ht:((l.length:Int) - 1 - (k:Int)).toNat=l.length - 1 - k:=by omega
  repeat' (first|refine Rn.p ?_|(with_reducible apply And.intro)|((first|(refine hK _ ?_;clear hK K)|with_reducible intro K hK|refine Rs.p ?_|((with_reducible first|apply oP|apply oQ);exact rfl));try simp only [go_sem,simprocAttr,hb,ht,cL,E3])|((with_reducible refine oD ?_ ?_);kernel_rfl)|((with_reducible intro h);try simp only [go_sem,simprocAttr,hb,ht,cL,E3] at h)|omega|intro h)
  refine ⟨k+1,by omega, ?_,by omega⟩
  refine Le.of ?_ ?_<;>simp [go_sem,simprocAttr]
  ·omega
  ·rw [← AB (by omega),List.map_set,List.map_set]
   simp only [List.getD_eq_getElem?_getD]
 ·have hb:decide ((k:Int)<(l.length:Int) - 1 - (k:Int))=false:=decide_eq_false (by omega)
  repeat' (first|refine Rn.p ?_|(with_reducible apply And.intro)|((first|(refine hK _ ?_;clear hK K)|with_reducible intro K hK|refine Rs.p ?_|((with_reducible first|apply oP|apply oQ);exact rfl));try simp only [go_sem,simprocAttr,hb])|((with_reducible refine oD ?_ ?_);kernel_rfl)|((with_reducible intro h);try simp only [go_sem,simprocAttr,hb] at h)|omega|intro h)
  simp only [go_sem,simprocAttr,hb,C0 hge]
def kE:List Int→Int
 | []=>0
 |a::r=>r.foldl min a
theorem C1 {l:List Int} {k:Nat} (h0:0<k) (h:k<l.length):kE (l.take (k+1))=min (kE (l.take k)) (l.getD k 0):=by
 cases l with
 |nil=>simp at h
 |cons a r=>
  obtain ⟨k,rfl⟩:∃j,k=j+1:=⟨k - 1,by omega⟩
  simp only [List.length_cons] at h
  simp only [List.take_succ_cons,kE,List.getD_cons_succ]
  rw [List.take_add_one,List.foldl_append,List.getElem?_eq_getElem (by omega),List.getD_eq_getElem?_getD,List.getElem?_eq_getElem (by omega)]
  rfl
theorem Fs {l:List Int} (h:0<l.length):kE (l.take 1)=l.getD 0 0:=by
 cases l with
 |nil=>simp at h
 |cons a r=>simp [kE]
theorem jF (l:List Int) (h0:0<l.length) (hl:l.length≤1000000):Spec Tryz.prog 165 (Args [.d (sI l)]) [] (eN (kE l)) []:=by
 (refine Spec.hd (C:=T.cfg [] []) (rs:= [.t 2]) (T.ai _ _) Tryz.func165 rfl rfl Tryz.ntmps165 Tryz.results165 (by simp [AObj.isNest]) (by simp [AObj.isNest]) (by kernel_rfl) T.mixed fun X hX hP hC aQ cy=> ?_)
 repeat' (first|refine Rn.p ?_|(with_reducible apply And.intro)|((first|(refine hK _ ?_;clear hK K)|with_reducible intro K hK|refine Rs.p ?_|((with_reducible first|apply oP|apply oQ);exact rfl));try simp only [go_sem,simprocAttr])|((with_reducible refine oD ?_ ?_);kernel_rfl)|((with_reducible intro h);try simp only [go_sem,simprocAttr] at h)|omega|intro h)
 refine ak (fun k:Nat=>0<k∧k≤l.length) (fun k=>⟨[(0, .d (sI l)),(3,eN (kE (l.take k))),(4,eN k)], []⟩) (fun k=>l.length - k) 1 (by omega) ?_ ?_
 ·refine Le.of ?_ ?_<;>simp [go_sem,simprocAttr,Fs h0]
 rintro k ⟨zM,hk⟩
 repeat' (first|refine Rn.p ?_|(with_reducible apply And.intro)|((first|(refine hK _ ?_;clear hK K)|with_reducible intro K hK|refine Rs.p ?_|((with_reducible first|apply oP|apply oQ);exact rfl));try simp only [go_sem,simprocAttr])|((with_reducible refine oD ?_ ?_);kernel_rfl)|((with_reducible intro h);try simp only [go_sem,simprocAttr] at h)|omega|intro h)
 ·refine ⟨k+1,by omega, ?_,by omega⟩
  refine Le.of ?_ ?_<;>simp [go_sem,simprocAttr]
  rw [C1 zM (by omega),List.getD_eq_getElem?_getD]
 ·rw [List.take_of_length_le (by omega)]
theorem e8 (n:Int) (h0:0<n) (hl:n≤1000000):Spec Tryz.prog 94 (Args [.nil 3,eN n]) [] (.ref 10000) [(10000, .own 3 1 [])]:=by
 (refine Spec.sM (C:=T.cfg [] []) (rs:= [.t 4]) [(10000,25)] (T.ai _ _) Tryz.func94 rfl rfl Tryz.ntmps94 Tryz.results94 (by simp [AObj.isNest]) (by simp [AObj.isNest]) (by first|(simp [look];done)|(simp [asN];done)|(intro l hl;simp only [asN];repeat (rw [if_neg (fun e=>by subst e;simp [look] at hl)]))) (by first|(simp [look];done)|(simp [asN];done)|(intro l hl;simp only [asN];repeat (rw [if_neg (fun e=>by subst e;simp [look] at hl)]))) (by kernel_rfl) T.mixed fun X hX hP hC aQ cy=> ?_)
 repeat' (first|refine Rn.p ?_|(with_reducible apply And.intro)|((first|(refine hK _ ?_;clear hK K)|with_reducible intro K hK|refine Rs.p ?_|((with_reducible first|apply oP|apply oQ);exact rfl));try simp only [go_sem,simprocAttr])|((with_reducible refine oD ?_ ?_);kernel_rfl)|((with_reducible intro h);try simp only [go_sem,simprocAttr] at h)|omega|intro h)
end Go.Ab
end
section
namespace Go.Ab
open Go.Proofs
attribute [local congr] ACall.congr gd.congr Nx.congr
set_option maxRecDepth 10000
def vL (ls:List (List Int)):List (List D):=ls.map fun l=> [sI l]
theorem vL_length {ls:List (List Int)} :(vL ls).length=ls.length:=by simp [vL]
theorem w4 {ls:List (List Int)} {k:Nat} (h:k<ls.length) (d:List D):(vL ls).getD k d= [sI (ls.getD k [])]:=by
 simp [vL,List.getD_eq_getElem?_getD,List.getElem?_eq_getElem h]
attribute [go_sem] vL_length
theorem u9 {ls:List (List Int)} {k:Nat} (h:k<ls.length):(ls.take (k+1)).flatten=(ls.take k).flatten++ls.getD k []:=by
 rw [List.take_add_one,List.flatten_append,List.getElem?_eq_getElem h,List.getD_eq_getElem?_getD,List.getElem?_eq_getElem h]
 simp
theorem q8 {ls:List (List Int)} {k:Nat} :(ls.take k).flatten.length≤ls.flatten.length:=by
 have:=congrArg (fun x=>x.flatten.length) (List.take_append_drop k ls)
 simp only [List.flatten_append,List.length_append] at this
 omega
theorem e9 (ls:List (List Int)) (hn:ls.length≤1000) (h0:0<ls.flatten.length) (hl:ls.flatten.length≤1000000):Spec Tryz.prog 45 (Args [.d (.sl 1 (vL ls))]) [] (.d (sI ls.flatten)) []:=by
 (refine Spec.hd (C:=T.cfg [] []) (rs:= [.t 2]) (T.ai _ _) Tryz.func45 rfl rfl Tryz.ntmps45 Tryz.results45 (by simp [AObj.isNest]) (by simp [AObj.isNest]) (by kernel_rfl) T.mixed fun X hX hP hC aQ cy=> ?_)
 repeat' (first|refine Rn.p ?_|(with_reducible apply And.intro)|((first|(refine hK _ ?_;clear hK K)|with_reducible intro K hK|refine Rs.p ?_|((with_reducible first|apply oP|apply oQ);exact rfl)|(refine an hX hC hP [(10000,33)] (e8 (ls.flatten.length:Int) (by omega) (by omega)) rfl rfl rfl ?_ ?_ ?_ ?_ ?_ ?_ ?_ ?_ ?_ ?_ ?_ ?_ ?_ ?_;(focus (simp only [go_sem,simprocAttr];done));(iterate 12 (focus (simp [go_sem,simprocAttr];done)));try simp only [List.map_cons,List.map_nil]));try simp only [go_sem,simprocAttr])|((with_reducible refine oD ?_ ?_);kernel_rfl)|((with_reducible intro h);try simp only [go_sem,simprocAttr] at h)|omega|intro h)
 refine ak (fun k:Nat=>k≤ls.length) (fun k=>⟨[(0, .d (.sl 1 (vL ls))),(9, .d (.sl 1 (vL ls))),(10,eN ls.length),(11,eN k),(3,eN ((ls.take k).flatten.length))], []⟩) (fun k=>ls.length - k) 0 (by omega) ?_ ?_
 ·(refine Le.of ?_ ?_<;>simp [go_sem,simprocAttr])
 ·rintro k hk
  rcases Nat.lt_or_ge k ls.length with hlt|hge
  ·have hb:decide ((k:Int)<(ls.length:Int))=true:=decide_eq_true (by omega)
   have hv:=w4 hlt
   have hf:=u9 hlt
   have Nd:=q8 (ls:=ls) (k:=k)
   have JF:=q8 (ls:=ls) (k:=k+1)
   rw [hf,List.length_append] at JF
   have hneg:decide (((ls.take k).flatten.length:Int)+((ls.getD k []).length:Int)<0)=false:=decide_eq_false (by omega)
   repeat' (first|refine Rn.p ?_|(with_reducible apply And.intro)|((first|(refine hK _ ?_;clear hK K)|with_reducible intro K hK|refine Rs.p ?_|((with_reducible first|apply oP|apply oQ);exact rfl)|(refine an hX hC hP [(10000,33)] (e8 (ls.flatten.length:Int) (by omega) (by omega)) rfl rfl rfl ?_ ?_ ?_ ?_ ?_ ?_ ?_ ?_ ?_ ?_ ?_ ?_ ?_ ?_;(focus (simp only [go_sem,simprocAttr,hb,hv,hneg];done));(iterate 12 (focus (simp [go_sem,simprocAttr,hb,hv,hneg];done)));try simp only [List.map_cons,List.map_nil]));try simp only [go_sem,simprocAttr,hb,hv,hneg])|((with_reducible refine oD ?_ ?_);kernel_rfl)|((with_reducible intro h);try simp only [go_sem,simprocAttr,hb,hv,hneg] at h)|omega|intro h)
   refine ⟨k+1,by omega, ?_,by omega⟩
   simp only [hf]
   refine Le.of ?_ ?_<;>simp [go_sem,simprocAttr,hb,hv,hneg]
  ·have hb:decide ((k:Int)<(ls.length:Int))=false:=decide_eq_false (by omega)
   have ht:ls.take k=ls:=List.take_of_length_le (by omega)
   repeat' (first|refine Rn.p ?_|(with_reducible apply And.intro)|((first|(refine hK _ ?_;clear hK K)|with_reducible intro K hK|refine Rs.p ?_|((with_reducible first|apply oP|apply oQ);exact rfl)|(refine an hX hC hP [(10000,33)] (e8 (ls.flatten.length:Int) (by omega) (by omega)) rfl rfl rfl ?_ ?_ ?_ ?_ ?_ ?_ ?_ ?_ ?_ ?_ ?_ ?_ ?_ ?_;(focus (simp only [go_sem,simprocAttr,hb,ht];done));(iterate 12 (focus (simp [go_sem,simprocAttr,hb,ht];done)));try simp only [List.map_cons,List.map_nil]));try simp only [go_sem,simprocAttr,hb,ht])|((with_reducible refine oD ?_ ?_);kernel_rfl)|((with_reducible intro h);try simp only [go_sem,simprocAttr,hb,ht] at h)|omega|intro h)
   refine ak (fun k:Nat=>k≤ls.length) (fun k=>⟨[(25, .d (.sl 1 (vL ls))),(26,eN ls.length),(27,eN k),(6, .ref 33)], [(33, .own 3 1 ((ls.take k).flatten.map rI))]⟩) (fun k=>ls.length - k) 0 (by omega) ?_ ?_
   ·(refine Le.of ?_ ?_<;>simp [go_sem,simprocAttr,hb,ht])
   ·clear hb ht hk hge
    rintro k hk
    rcases Nat.lt_or_ge k ls.length with hlt|hge
    ·have hb:decide ((k:Int)<(ls.length:Int))=true:=decide_eq_true (by omega)
     have hv:=w4 hlt
     have hf:=u9 hlt
     have Nd:=q8 (ls:=ls) (k:=k)
     have JF:=q8 (ls:=ls) (k:=k+1)
     rw [hf,List.length_append] at JF
     repeat' (first|refine Rn.p ?_|(with_reducible apply And.intro)|((first|(refine hK _ ?_;clear hK K)|with_reducible intro K hK|refine Rs.p ?_|((with_reducible first|apply oP|apply oQ);exact rfl)|(refine an hX hC hP [(10000,33)] (e8 (ls.flatten.length:Int) (by omega) (by omega)) rfl rfl rfl ?_ ?_ ?_ ?_ ?_ ?_ ?_ ?_ ?_ ?_ ?_ ?_ ?_ ?_;(focus (simp only [go_sem,simprocAttr,hb,hv];done));(iterate 12 (focus (simp [go_sem,simprocAttr,hb,hv];done)));try simp only [List.map_cons,List.map_nil]));try simp only [go_sem,simprocAttr,hb,hv])|((with_reducible refine oD ?_ ?_);kernel_rfl)|((with_reducible intro h);try simp only [go_sem,simprocAttr,hb,hv] at h)|omega|intro h)
     refine ⟨k+1,by omega, ?_,by omega⟩
     simp only [hf]
     refine Le.of ?_ ?_<;>simp [go_sem,simprocAttr,hb,hv]
    ·have hb:decide ((k:Int)<(ls.length:Int))=false:=decide_eq_false (by omega)
     have ht:ls.take k=ls:=List.take_of_length_le (by omega)
     repeat' (first|refine Rn.p ?_|(with_reducible apply And.intro)|((first|(refine hK _ ?_;clear hK K)|with_reducible intro K hK|refine Rs.p ?_|((with_reducible first|apply oP|apply oQ);exact rfl)|(refine an hX hC hP [(10000,33)] (e8 (ls.flatten.length:Int) (by omega) (by omega)) rfl rfl rfl ?_ ?_ ?_ ?_ ?_ ?_ ?_ ?_ ?_ ?_ ?_ ?_ ?_ ?_;(focus (simp only [go_sem,simprocAttr,hb,ht];done));(iterate 12 (focus (simp [go_sem,simprocAttr,hb,ht];done)));try simp only [List.map_cons,List.map_nil]));try simp only [go_sem,simprocAttr,hb,ht])|((with_reducible refine oD ?_ ?_);kernel_rfl)|((with_reducible intro h);try simp only [go_sem,simprocAttr,hb,ht] at h)|omega|intro h)
def jG (ls:List (List Int)) (k:Nat):List Int:=((List.range k).filter fun x=>decide ((ls.getD x []).length=0)).map Int.ofNat
theorem ta {ls:List (List Int)} {k:Nat} :jG ls (k+1)=jG ls k++if (ls.getD k []).length=0 then [(k:Int)] else []:=by
 simp only [jG,List.range_succ,List.filter_append,List.map_append,List.filter_cons,List.filter_nil]
 split<;>simp_all
theorem C2 {ls:List (List Int)} {k:Nat} :(jG ls k).length≤k:=by
 simpa [jG] using List.length_filter_le (fun x=>decide ((ls.getD x []).length=0)) (List.range k)
theorem va (ls:List (List Int)) (hn:ls.length≤1000):Spec Tryz.prog 93 (Args [.d (.sl 1 (vL ls))]) [] (.d (sI (jG ls ls.length))) []:=by
 (refine Spec.hd (C:=T.cfg [] []) (rs:= [.t 2]) (T.ai _ _) Tryz.func93 rfl rfl Tryz.ntmps93 Tryz.results93 (by simp [AObj.isNest]) (by simp [AObj.isNest]) (by kernel_rfl) T.mixed fun X hX hP hC aQ cy=> ?_)
 repeat' (first|refine Rn.p ?_|(with_reducible apply And.intro)|((first|(refine hK _ ?_;clear hK K)|with_reducible intro K hK|refine Rs.p ?_|((with_reducible first|apply oP|apply oQ);exact rfl)|(refine an hX hC hP [(10000,33)] (e8 (ls.flatten.length:Int) (by omega) (by omega)) rfl rfl rfl ?_ ?_ ?_ ?_ ?_ ?_ ?_ ?_ ?_ ?_ ?_ ?_ ?_ ?_;(focus (simp only [go_sem,simprocAttr];done));(iterate 12 (focus (simp [go_sem,simprocAttr];done)));try simp only [List.map_cons,List.map_nil]));try simp only [go_sem,simprocAttr])|((with_reducible refine oD ?_ ?_);kernel_rfl)|((with_reducible intro h);try simp only [go_sem,simprocAttr] at h)|omega|intro h)
 (refine dn hX 2 18 (.tip 3 1 []) (by simp only [go_sem,simprocAttr]) (by simp only [go_sem,simprocAttr]) (by decide) ⟨3,1,by decide, .inr rfl⟩ ?_;simp only [go_sem,simprocAttr])
 refine ak (fun k:Nat=>k≤ls.length) (fun k=>⟨[(5, .d (.sl 1 (vL ls))),(6,eN ls.length),(7,eN k),(2, .ref 18)], [(18, .tip 3 1 ((jG ls k).map rI))]⟩) (fun k=>ls.length - k) 0 (by omega) ?_ ?_
 ·refine Le.of ?_ ?_<;>simp [go_sem,simprocAttr,jG]
 ·rintro k hk
  rcases Nat.lt_or_ge k ls.length with hlt|hge
  ·have hb:decide ((k:Int)<(ls.length:Int))=true:=decide_eq_true (by omega)
   have hv:=w4 hlt
   have hlen:=C2 (ls:=ls) (k:=k)
   repeat' (first|refine Rn.p ?_|(with_reducible apply And.intro)|((first|(refine hK _ ?_;clear hK K)|with_reducible intro K hK|refine Rs.p ?_|((with_reducible first|apply oP|apply oQ);exact rfl)|(refine an hX hC hP [(10000,33)] (e8 (ls.flatten.length:Int) (by omega) (by omega)) rfl rfl rfl ?_ ?_ ?_ ?_ ?_ ?_ ?_ ?_ ?_ ?_ ?_ ?_ ?_ ?_;(focus (simp only [go_sem,simprocAttr,hb,hv];done));(iterate 12 (focus (simp [go_sem,simprocAttr,hb,hv];done)));try simp only [List.map_cons,List.map_nil]));try simp only [go_sem,simprocAttr,hb,hv])|((with_reducible refine oD ?_ ?_);kernel_rfl)|((with_reducible intro h);try simp only [go_sem,simprocAttr,hb,hv] at h)|omega|intro h)
   ·refine ⟨k+1,by omega, ?_,by omega⟩
    rw [ta,if_pos (by omega)]
    refine Le.of ?_ ?_<;>simp [go_sem,simprocAttr,hb,hv]
    rfl
   ·refine ⟨k+1,by omega, ?_,by omega⟩
    rw [ta,if_neg (by omega),List.append_nil]
    refine Le.of ?_ ?_<;>simp [go_sem,simprocAttr,hb,hv]
  ·have hb:decide ((k:Int)<(ls.length:Int))=false:=decide_eq_false (by omega)
   obtain rfl:k=ls.length:=by omega
   repeat' (first|refine Rn.p ?_|(with_reducible apply And.intro)|((first|(refine hK _ ?_;clear hK K)|with_reducible intro K hK|refine Rs.p ?_|((with_reducible first|apply oP|apply oQ);exact rfl)|(refine an hX hC hP [(10000,33)] (e8 (ls.flatten.length:Int) (by omega) (by omega)) rfl rfl rfl ?_ ?_ ?_ ?_ ?_ ?_ ?_ ?_ ?_ ?_ ?_ ?_ ?_ ?_;(focus (simp only [go_sem,simprocAttr,hb];done));(iterate 12 (focus (simp [go_sem,simprocAttr,hb];done)));try simp only [List.map_cons,List.map_nil]));try simp only [go_sem,simprocAttr,hb])|((with_reducible refine oD ?_ ?_);kernel_rfl)|((with_reducible intro h);try simp only [go_sem,simprocAttr,hb] at h)|omega|intro h)
theorem Ft {f:Edge→Int} {g:Gr} :Hz f g=vL (dF f g):=rfl
theorem gQ {f:Edge→Int} {g:Gr} :(dF f g).length=g.n.toNat:=by simp [dF]
def bQ (f:Edge→Int) (g:Gr):List Int:=jG (dF f g) g.n.toNat
theorem fD (g:Gr) (hm:aL g=true):Spec Tryz.prog 41 (Args [.d (vw g)]) [] (.d (sI (bQ (·.2) g))) []:=by
 rw [aq]
 have hn:=aG hm
 have hle:(dF (·.2) g).length≤1000:=by rw [gQ];omega
 (refine Spec.hd (C:=T.cfg [] []) (rs:= [.t 2]) (T.ai _ _) Tryz.func41 rfl rfl Tryz.ntmps41 Tryz.results41 (by simp [AObj.isNest]) (by simp [AObj.isNest]) (by kernel_rfl) T.mixed fun X hX hP hC aQ cy=> ?_)
 repeat' (first|refine Rn.p ?_|(with_reducible apply And.intro)|((first|(refine hK _ ?_;clear hK K)|with_reducible intro K hK|refine Rs.p ?_|((with_reducible first|apply oP|apply oQ);exact rfl)|(rw [Ft];refine aa hX hC hP (va (dF (·.2) g) hle) rfl rfl rfl (by simp only [go_sem,simprocAttr]) rfl ?_));try simp only [go_sem,simprocAttr])|((with_reducible refine oD ?_ ?_);kernel_rfl)|((with_reducible intro h);try simp only [go_sem,simprocAttr] at h)|omega|intro h)
 rw [gQ];rfl
theorem AD (g:Gr) (hm:aL g=true):Spec Tryz.prog 42 (Args [.d (vw g)]) [] (.d (sI (bQ (·.1) g))) []:=by
 rw [aq]
 have hn:=aG hm
 have hle:(dF (·.1) g).length≤1000:=by rw [gQ];omega
 (refine Spec.hd (C:=T.cfg [] []) (rs:= [.t 2]) (T.ai _ _) Tryz.func42 rfl rfl Tryz.ntmps42 Tryz.results42 (by simp [AObj.isNest]) (by simp [AObj.isNest]) (by kernel_rfl) T.mixed fun X hX hP hC aQ cy=> ?_)
 repeat' (first|refine Rn.p ?_|(with_reducible apply And.intro)|((first|(refine hK _ ?_;clear hK K)|with_reducible intro K hK|refine Rs.p ?_|((with_reducible first|apply oP|apply oQ);exact rfl)|(rw [Ft];refine aa hX hC hP (va (dF (·.1) g) hle) rfl rfl rfl (by simp only [go_sem,simprocAttr]) rfl ?_));try simp only [go_sem,simprocAttr])|((with_reducible refine oD ?_ ?_);kernel_rfl)|((with_reducible intro h);try simp only [go_sem,simprocAttr] at h)|omega|intro h)
 rw [gQ];rfl
end Go.Ab
end
section
namespace Go.Ab
open Go.Proofs
attribute [local congr] ACall.congr gd.congr Nx.congr
set_option maxRecDepth 10000
def fc (g:Gr) (ws:List Int) (b:Int) (e:Int):Int:=if 0<ws.getD (tl g e.toNat).toNat 0∧(b<0∨tl g e.toNat<b) then tl g e.toNat else b
theorem Fu (g:Gr) (ws:List Int) (b:Int) (i:Nat):fc g ws b (i:Int)=if 0<ws.getD (g.es.getD i (0,0)).1.toNat 0∧(b<0∨(g.es.getD i (0,0)).1<b) then (g.es.getD i (0,0)).1 else b:=rfl
def ve (g:Gr) (ws:List Int) (es:List Int):Int:=es.foldl (fc g ws) (-1)
def lF (g:Gr) (ws:List Int) (at_:Int):Int:=ve g ws (pO g at_.toNat)
def nc (g:Gr) (ws:List Int):Nat→List Int→Int→List Int × Int
 |0,way,at_=>(way,at_)
 |f+1,way,at_=>if at_<0∨at_∈way then (way,at_) else nc g ws f (way++ [at_]) (lF g ws at_)
def mD (g:Gr):List Int × Int:=nc g (cH g (aT g)) g.n.toNat [] (bP (fun n=>decide (0<n)) (cH g (aT g)))
def ot (l:List Int):List Int:=l.drop (fU l (kE l)).toNat++l.take (fU l (kE l)).toNat
def lG (g:Gr):List Int:=if (mD g).2<0 then [] else ot ((mD g).1.drop (fU (mD g).1 (mD g).2).toNat).reverse
theorem ic (n:Int):Spec Tryz.prog 163 (Args [eN n]) [] (eB (decide (0<n))) []:=by
 (refine Spec.hd (C:=T.cfg [] []) (rs:= [.t 2]) (T.ai _ _) Tryz.func163 rfl rfl Tryz.ntmps163 Tryz.results163 (by simp [AObj.isNest]) (by simp [AObj.isNest]) (by kernel_rfl) T.mixed fun X hX hP hC aQ cy=> ?_)
 repeat' (first|refine Rn.p ?_|(with_reducible apply And.intro)|((first|(refine hK _ ?_;clear hK K)|with_reducible intro K hK|refine Rs.p ?_|((with_reducible first|apply oP|apply oQ);exact rfl));try simp only [go_sem,simprocAttr])|((with_reducible refine oD ?_ ?_);kernel_rfl)|((with_reducible intro h);try simp only [go_sem,simprocAttr] at h)|omega|intro h)
structure Way (g:Gr) (way:List Int):Prop where
 lo:∀x∈way,0≤x∧x<g.n
 fuel:way.length+left g way=g.n.toNat
theorem tc {g:Gr} :left g []=g.n.toNat:=by
 have:=(dV.nil g).fuel
 rw [List.length_nil,Nat.zero_add] at this
 exact this
theorem ou {g:Gr} {way:List Int} {a:Nat} (ha:a<g.n.toNat) (hn:(a:Int)∉way):left g way=left g (way++ [(a:Int)])+1:=by
 unfold left
 rw [← lE (p:=fun y:Nat=> !decide ((y:Int)∈way)) (x:=a) (by simp [hn]) ha]
 congr 1
 refine List.countP_congr fun y _=> ?_
 simp;omega
theorem Way.nil (g:Gr):Way g []:=⟨by simp,by rw [tc];simp⟩
theorem Way.next {g:Gr} {way:List Int} {a:Nat} (h:Way g way) (ha:a<g.n.toNat) (hn:(a:Int)∉way):Way g (way++ [(a:Int)]):=by
 refine ⟨fun x hx=> ?_, ?_⟩
 ·rcases List.mem_append.1 hx with hx|hx
  ·exact h.lo x hx
  ·simp at hx;omega
 ·have h1:=h.fuel
  have h2:=ou ha hn
  rw [List.length_append,List.length_singleton];omega
theorem w5 {g:Gr} {x:Nat} {e:Int} (h:e∈pO g x):∃i:Nat,e=i∧i<g.es.length∧hd g i=x:=by
 simp only [pO,eZ,List.mem_map,List.mem_filter,List.mem_range,decide_eq_true_eq] at h
 obtain ⟨i,⟨h1,h2⟩,rfl⟩:=h
 exact ⟨i,rfl,h1,h2⟩
theorem C3 {α β:Type} {f:β→α→β} {b:β} {l:List α} {j:Nat} {x:α} (h:l[j]? =some x):(l.take (j+1)).foldl f b=f ((l.take j).foldl f b) x:=by
 rw [List.take_add_one,List.foldl_append,h];rfl
theorem qo {g:Gr} (hm:aL g=true) (ws:List Int):∀(l:List Int) (b:Int),(b= -1∨(0≤b∧b<g.n))→(∀e∈l,∃i:Nat,e=i∧i<g.es.length)→l.foldl (fc g ws) b= -1∨(0≤l.foldl (fc g ws) b∧l.foldl (fc g ws) b<g.n)
 | [],b,hb,_=>hb
 |e::l,b,hb,h=>by
  refine qo hm ws l _ ?_ fun e he=>h e (List.mem_cons_of_mem _ he)
  obtain ⟨i,rfl,hi⟩:=h e List.mem_cons_self
  obtain ⟨⟨h1,h2⟩,_⟩:=dw hm hi
  unfold fc
  split
  ·exact .inr ⟨h1,h2⟩
  ·exact hb
theorem Fv {g:Gr} {x:Nat} :∀e∈pO g x,∃i:Nat,e=i∧i<g.es.length:=fun e he=>by
 obtain ⟨i,h1,h2,_⟩:=w5 he;exact ⟨i,h1,h2⟩
theorem ow {g:Gr} {ws way:List Int} {a:Int} (h:a<0∨a∈way):∀f,nc g ws f way a=(way,a)
 |0=>rfl
 |f+1=>by simp only [nc];rw [if_pos h]
theorem iJ {l:List Int} {x:Int} (h:x∈l):∃k:Nat,fU l x=k∧k<l.length∧l.getD k 0=x:=by
 rcases iI (f:=fun y:Int=>decide (x=y)) (l:=l) 0 with ⟨h1,h2⟩|⟨k,h1,h2,h3,_⟩
 ·exact absurd (h2 x h) (by simp)
 ·exact ⟨k,h1,h2,(of_decide_eq_true h3).symm⟩
theorem yE:∀ {l:List Int},0<l.length→kE l∈l
 |a::r,_=>by
  have:∀(r:List Int) (a:Int),r.foldl min a=a∨r.foldl min a∈r:=by
   intro r
   induction r with
   |nil=>intro a;exact .inl rfl
   |cons b r ih=>
    intro a
    simp only [List.foldl_cons]
    rcases ih (min a b) with h|h
    ·by_cases hab:a≤b
     ·left;rw [h];omega
     ·right;rw [h];simp;omega
    ·right;simp [h]
  rcases this r a with h|h
  ·simp [kE,h]
  ·simp [kE,h]
theorem iK (g:Gr) (hm:aL g=true):Spec Tryz.prog 114 (Args [.d (vw g)]) [] (.d (sI (lG g))) []:=by
 have hn:=aG hm
 have BG:(cH g (aT g)).length≤9223372036854775807:=by rw [wts_length];omega
 (refine Spec.hd (C:=T.cfg [30] []) (rs:= [.t 2]) (T.ai _ _) Tryz.func114 rfl rfl Tryz.ntmps114 Tryz.results114 (by simp [AObj.isNest]) (by simp [AObj.isNest]) (by kernel_rfl) T.mixed fun X hX hP hC aQ cy=> ?_)
 repeat' (first|refine Rn.p ?_|(with_reducible apply And.intro)|((first|(refine hK _ ?_;clear hK K)|with_reducible intro K hK|refine Rs.p ?_|((with_reducible first|apply oP|apply oQ);exact rfl)|refine aa hX hC hP (jD g hm) rfl rfl rfl (by simp only [go_sem,simprocAttr]) rfl ?_|refine aa hX hC hP (cG bD.nil _ [] _ ic (cH g (aT g)) BG) rfl rfl rfl (by simp only [go_sem,simprocAttr]) rfl ?_|(refine au hX hC hP (aW way a kS) rfl rfl rfl ?_ ?_ ?_ ?_;iterate 3 (focus (simp only [go_sem,simprocAttr];done)))|(refine au hX hC hP (aS way a kS) rfl rfl rfl ?_ ?_ ?_ ?_;iterate 3 (focus (simp only [go_sem,simprocAttr];done)))|(refine an hX hC hP [(10000,75)] (dL (way.drop k) hlr) rfl rfl rfl ?_ ?_ ?_ ?_ ?_ ?_ ?_ ?_ ?_ ?_ ?_ ?_ ?_ ?_;(focus (simp only [go_sem,simprocAttr];done));(iterate 12 (focus (simp [go_sem,simprocAttr];done)));try simp only [List.map_cons,List.map_nil])|(refine au hX hC hP (jF rev td hrev) rfl rfl rfl ?_ ?_ ?_ ?_;iterate 3 (focus (simp only [go_sem,simprocAttr];done)))|(refine au hX hC hP (aS rev (kE rev) vf) rfl rfl rfl ?_ ?_ ?_ ?_;iterate 3 (focus (simp only [go_sem,simprocAttr];done)))|(refine cD hX hC hP (e9 [rev.drop k2,rev.take k2] hc1 BH HA) rfl rfl rfl ?_ ?_ rfl ?_;iterate 2 (focus (simp only [go_sem,simprocAttr];done))));try simp only [go_sem,simprocAttr])|((with_reducible refine oD ?_ ?_);kernel_rfl)|((with_reducible intro h);try simp only [go_sem,simprocAttr] at h)|omega|intro h)
 (refine dn hX 6 30 (.own 3 1 []) (by simp only [go_sem,simprocAttr]) (by simp only [go_sem,simprocAttr]) (by decide) ⟨3,1,by decide, .inl rfl⟩ ?_;simp only [go_sem,simprocAttr])
 refine ak (fun i:List Int × Int=>Way g i.1∧(i.2= -1∨(0≤i.2∧i.2<g.n))∧nc g (cH g (aT g)) (left g i.1) i.1 i.2=mD g) (fun i=>⟨[(0, .d (vw g)),(4, .d (sI (cH g (aT g)))),(5,eN i.2),(6, .ref 30)], [(30, .own 3 1 (i.1.map rI))]⟩) (fun i=>left g i.1) ([],bP (fun n=>decide (0<n)) (cH g (aT g))) ⟨Way.nil g, ?_, ?_⟩ ?_ ?_
 ·rcases yo (fun n:Int=>decide (0<n)) (cH g (aT g)) with h|h
  ·exact .inl h
  ·rw [wts_length] at h;exact .inr (by simp only;omega)
 ·rw [tc];rfl
 ·(refine Le.of ?_ ?_<;>simp [go_sem,simprocAttr])
 rintro ⟨way,at_⟩ ⟨JG,mE,hrun⟩
 simp only at JG mE hrun ⊢
 have UG:way.length≤64:=by have:=JG.fuel;omega
 have kS:way.length≤9223372036854775807:=by omega
 by_cases h0:at_<0
 ·have hb1:decide (0≤at_)=false:=decide_eq_false (by omega)
  have hb3:decide (at_<0)=true:=decide_eq_true h0
  have he:lG g= []:=by
   have:=ow (g:=g) (ws:=cH g (aT g)) (way:=way) (.inl h0) (left g way)
   rw [hrun] at this
   simp only [lG,this];rw [if_pos h0]
  repeat' (first|refine Rn.p ?_|(with_reducible apply And.intro)|((first|(refine hK _ ?_;clear hK K)|with_reducible intro K hK|refine Rs.p ?_|((with_reducible first|apply oP|apply oQ);exact rfl)|refine aa hX hC hP (jD g hm) rfl rfl rfl (by simp only [go_sem,simprocAttr,hb1,hb3]) rfl ?_|refine aa hX hC hP (cG bD.nil _ [] _ ic (cH g (aT g)) BG) rfl rfl rfl (by simp only [go_sem,simprocAttr,hb1,hb3]) rfl ?_|(refine au hX hC hP (aW way a kS) rfl rfl rfl ?_ ?_ ?_ ?_;iterate 3 (focus (simp only [go_sem,simprocAttr,hb1,hb3];done)))|(refine au hX hC hP (aS way a kS) rfl rfl rfl ?_ ?_ ?_ ?_;iterate 3 (focus (simp only [go_sem,simprocAttr,hb1,hb3];done)))|(refine an hX hC hP [(10000,75)] (dL (way.drop k) hlr) rfl rfl rfl ?_ ?_ ?_ ?_ ?_ ?_ ?_ ?_ ?_ ?_ ?_ ?_ ?_ ?_;(focus (simp only [go_sem,simprocAttr,hb1,hb3];done));(iterate 12 (focus (simp [go_sem,simprocAttr,hb1,hb3];done)));try simp only [List.map_cons,List.map_nil])|(refine au hX hC hP (jF rev td hrev) rfl rfl rfl ?_ ?_ ?_ ?_;iterate 3 (focus (simp only [go_sem,simprocAttr,hb1,hb3];done)))|(refine au hX hC hP (aS rev (kE rev) vf) rfl rfl rfl ?_ ?_ ?_ ?_;iterate 3 (focus (simp only [go_sem,simprocAttr,hb1,hb3];done)))|(refine cD hX hC hP (e9 [rev.drop k2,rev.take k2] hc1 BH HA) rfl rfl rfl ?_ ?_ rfl ?_;iterate 2 (focus (simp only [go_sem,simprocAttr,hb1,hb3];done))));try simp only [go_sem,simprocAttr,hb1,hb3])|((with_reducible refine oD ?_ ?_);kernel_rfl)|((with_reducible intro h);try simp only [go_sem,simprocAttr,hb1,hb3] at h)|omega|intro h)
  rw [he];rfl
 obtain ⟨a,rfl⟩:∃a:Nat,at_=a:=⟨at_.toNat,by omega⟩
 have Ng:a<g.n.toNat:=by omega
 have hb1:decide (0≤(a:Int))=true:=decide_eq_true (by omega)
 by_cases hmem:(a:Int)∈way
 ·have hb2:decide ((a:Int)∈way)=true:=decide_eq_true hmem
  have hb3:decide ((a:Int)<0)=false:=decide_eq_false h0
  have hend:=ow (g:=g) (ws:=cH g (aT g)) (.inr hmem) (left g way)
  rw [hrun] at hend
  obtain ⟨k,hk,cw,_⟩:=iJ hmem
  obtain ⟨rev,je⟩:∃rev,rev=(way.drop k).reverse:=⟨_,rfl⟩
  have hrl:rev.length=way.length - k:=by rw [je];simp
  have td:0<rev.length:=by omega
  have hrev:rev.length≤1000000:=by omega
  have vf:rev.length≤9223372036854775807:=by omega
  have hlr:(way.drop k).length≤1000000:=by simp;omega
  obtain ⟨k2,hk2,SK,_⟩:=iJ (yE td)
  have hc1: [rev.drop k2,rev.take k2].length≤1000:=by simp
  have BH:0< [rev.drop k2,rev.take k2].flatten.length:=by simp;omega
  have HA: [rev.drop k2,rev.take k2].flatten.length≤1000000:=by simp;omega
  have Pu:lG g= [rev.drop k2,rev.take k2].flatten:=by
   simp only [lG,hend]
   rw [if_neg h0,hk]
   simp only [Int.toNat_natCast, ← je,ot,hk2,List.flatten_cons,List.flatten_nil,List.append_nil]
  repeat' (first|(show cr _ (.seq (.region 20 _ _) _) _ _;(refine qV hX 75 rfl (.inr rfl) ?_;simp only [go_sem,simprocAttr,hb1,hb2,hb3,hk,hk2, ← List.map_take, ← List.map_drop,List.take_length, ← je,vL]))|refine Rn.p ?_|(with_reducible apply And.intro)|((first|(refine hK _ ?_;clear hK K)|with_reducible intro K hK|refine Rs.p ?_|((with_reducible first|apply oP|apply oQ);exact rfl)|refine aa hX hC hP (jD g hm) rfl rfl rfl (by simp only [go_sem,simprocAttr,hb1,hb2,hb3,hk,hk2, ← List.map_take, ← List.map_drop,List.take_length, ← je,vL]) rfl ?_|refine aa hX hC hP (cG bD.nil _ [] _ ic (cH g (aT g)) BG) rfl rfl rfl (by simp only [go_sem,simprocAttr,hb1,hb2,hb3,hk,hk2, ← List.map_take, ← List.map_drop,List.take_length, ← je,vL]) rfl ?_|(refine au hX hC hP (aW way a kS) rfl rfl rfl ?_ ?_ ?_ ?_;iterate 3 (focus (simp only [go_sem,simprocAttr,hb1,hb2,hb3,hk,hk2, ← List.map_take, ← List.map_drop,List.take_length, ← je,vL];done)))|(refine au hX hC hP (aS way a kS) rfl rfl rfl ?_ ?_ ?_ ?_;iterate 3 (focus (simp only [go_sem,simprocAttr,hb1,hb2,hb3,hk,hk2, ← List.map_take, ← List.map_drop,List.take_length, ← je,vL];done)))|(refine an hX hC hP [(10000,75)] (dL (way.drop k) hlr) rfl rfl rfl ?_ ?_ ?_ ?_ ?_ ?_ ?_ ?_ ?_ ?_ ?_ ?_ ?_ ?_;(focus (simp only [go_sem,simprocAttr,hb1,hb2,hb3,hk,hk2, ← List.map_take, ← List.map_drop,List.take_length, ← je,vL];done));(iterate 12 (focus (simp [go_sem,simprocAttr,hb1,hb2,hb3,hk,hk2, ← List.map_take, ← List.map_drop,List.take_length, ← je,vL];done)));try simp only [List.map_cons,List.map_nil])|(refine au hX hC hP (jF rev td hrev) rfl rfl rfl ?_ ?_ ?_ ?_;iterate 3 (focus (simp only [go_sem,simprocAttr,hb1,hb2,hb3,hk,hk2, ← List.map_take, ← List.map_drop,List.take_length, ← je,vL];done)))|(refine au hX hC hP (aS rev (kE rev) vf) rfl rfl rfl ?_ ?_ ?_ ?_;iterate 3 (focus (simp only [go_sem,simprocAttr,hb1,hb2,hb3,hk,hk2, ← List.map_take, ← List.map_drop,List.take_length, ← je,vL];done)))|(refine cD hX hC hP (e9 [rev.drop k2,rev.take k2] hc1 BH HA) rfl rfl rfl ?_ ?_ rfl ?_;iterate 2 (focus (simp only [go_sem,simprocAttr,hb1,hb2,hb3,hk,hk2, ← List.map_take, ← List.map_drop,List.take_length, ← je,vL];done))));try simp only [go_sem,simprocAttr,hb1,hb2,hb3,hk,hk2, ← List.map_take, ← List.map_drop,List.take_length, ← je,vL])|((with_reducible refine oD ?_ ?_);kernel_rfl)|((with_reducible intro h);try simp only [go_sem,simprocAttr,hb1,hb2,hb3,hk,hk2, ← List.map_take, ← List.map_drop,List.take_length, ← je,vL] at h)|omega|intro h)
  rw [Pu]
 ·have hb2:decide ((a:Int)∈way)=false:=decide_eq_false hmem
  have hv:=oq (f:=(·.2)) Ng
  have GH:(pO g a).length≤g.es.length:=ia
  repeat' (first|refine Rn.p ?_|(with_reducible apply And.intro)|((first|(refine hK _ ?_;clear hK K)|with_reducible intro K hK|refine Rs.p ?_|((with_reducible first|apply oP|apply oQ);exact rfl)|refine aa hX hC hP (jD g hm) rfl rfl rfl (by simp only [go_sem,simprocAttr,hb1,hb2,hv,aq]) rfl ?_|refine aa hX hC hP (cG bD.nil _ [] _ ic (cH g (aT g)) BG) rfl rfl rfl (by simp only [go_sem,simprocAttr,hb1,hb2,hv,aq]) rfl ?_|(refine au hX hC hP (aW way a kS) rfl rfl rfl ?_ ?_ ?_ ?_;iterate 3 (focus (simp only [go_sem,simprocAttr,hb1,hb2,hv,aq];done)))|(refine au hX hC hP (aS way a kS) rfl rfl rfl ?_ ?_ ?_ ?_;iterate 3 (focus (simp only [go_sem,simprocAttr,hb1,hb2,hv,aq];done)))|(refine an hX hC hP [(10000,75)] (dL (way.drop k) hlr) rfl rfl rfl ?_ ?_ ?_ ?_ ?_ ?_ ?_ ?_ ?_ ?_ ?_ ?_ ?_ ?_;(focus (simp only [go_sem,simprocAttr,hb1,hb2,hv,aq];done));(iterate 12 (focus (simp [go_sem,simprocAttr,hb1,hb2,hv,aq];done)));try simp only [List.map_cons,List.map_nil])|(refine au hX hC hP (jF rev td hrev) rfl rfl rfl ?_ ?_ ?_ ?_;iterate 3 (focus (simp only [go_sem,simprocAttr,hb1,hb2,hv,aq];done)))|(refine au hX hC hP (aS rev (kE rev) vf) rfl rfl rfl ?_ ?_ ?_ ?_;iterate 3 (focus (simp only [go_sem,simprocAttr,hb1,hb2,hv,aq];done)))|(refine cD hX hC hP (e9 [rev.drop k2,rev.take k2] hc1 BH HA) rfl rfl rfl ?_ ?_ rfl ?_;iterate 2 (focus (simp only [go_sem,simprocAttr,hb1,hb2,hv,aq];done))));try simp only [go_sem,simprocAttr,hb1,hb2,hv,aq])|((with_reducible refine oD ?_ ?_);kernel_rfl)|((with_reducible intro h);try simp only [go_sem,simprocAttr,hb1,hb2,hv,aq] at h)|omega|intro h)
  refine ak (fun j:Nat=>j≤(pO g a).length) (fun j=>⟨[(39,eN j),(38,eN (pO g a).length),(37, .d (sI (pO g a))),(7,eN (ve g (cH g (aT g)) ((pO g a).take j))),(0, .d (Ks g)),(4, .d (sI (cH g (aT g)))),(6, .ref 30)], [(30, .own 3 1 ((way++ [(a:Int)]).map rI))]⟩) (fun j=>(pO g a).length - j) 0 (by simp) ?_ ?_
  ·refine Le.of ?_ ?_<;>simp [go_sem,simprocAttr,hb1,hb2,hv,aq,pO,rI,ve]
  rintro j hj
  rcases Nat.lt_or_ge j (pO g a).length with hlt|hge
  ·have hb4:decide ((j:Int)<((pO g a).length:Int))=true:=decide_eq_true (by omega)
   obtain ⟨i,hi,hil,hit⟩:=w5 (List.getElem_mem hlt)
   have hi1:(pO g a)[j]? =some (i:Int):=by rw [List.getElem?_eq_getElem hlt,hi]
   have hi2:(pO g a).getD j 0=(i:Int):=by rw [List.getD_eq_getElem?_getD,hi1];rfl
   obtain ⟨⟨Mb,zN⟩,_⟩:=dw hm hil
   have hstep:ve g (cH g (aT g)) ((pO g a).take (j+1))=fc g (cH g (aT g)) (ve g (cH g (aT g)) ((pO g a).take j)) i:=C3 hi1
   rw [Fu] at hstep
   repeat' (first|refine Rn.p ?_|(with_reducible apply And.intro)|((first|(refine hK _ ?_;clear hK K)|with_reducible intro K hK|refine Rs.p ?_|((with_reducible first|apply oP|apply oQ);exact rfl)|refine aa hX hC hP (jD g hm) rfl rfl rfl (by simp only [go_sem,simprocAttr,hb4,hi2,wts_length]) rfl ?_|refine aa hX hC hP (cG bD.nil _ [] _ ic (cH g (aT g)) BG) rfl rfl rfl (by simp only [go_sem,simprocAttr,hb4,hi2,wts_length]) rfl ?_|(refine au hX hC hP (aW way a kS) rfl rfl rfl ?_ ?_ ?_ ?_;iterate 3 (focus (simp only [go_sem,simprocAttr,hb4,hi2,wts_length];done)))|(refine au hX hC hP (aS way a kS) rfl rfl rfl ?_ ?_ ?_ ?_;iterate 3 (focus (simp only [go_sem,simprocAttr,hb4,hi2,wts_length];done)))|(refine an hX hC hP [(10000,75)] (dL (way.drop k) hlr) rfl rfl rfl ?_ ?_ ?_ ?_ ?_ ?_ ?_ ?_ ?_ ?_ ?_ ?_ ?_ ?_;(focus (simp only [go_sem,simprocAttr,hb4,hi2,wts_length];done));(iterate 12 (focus (simp [go_sem,simprocAttr,hb4,hi2,wts_length];done)));try simp only [List.map_cons,List.map_nil])|(refine au hX hC hP (jF rev td hrev) rfl rfl rfl ?_ ?_ ?_ ?_;iterate 3 (focus (simp only [go_sem,simprocAttr,hb4,hi2,wts_length];done)))|(refine au hX hC hP (aS rev (kE rev) vf) rfl rfl rfl ?_ ?_ ?_ ?_;iterate 3 (focus (simp only [go_sem,simprocAttr,hb4,hi2,wts_length];done)))|(refine cD hX hC hP (e9 [rev.drop k2,rev.take k2] hc1 BH HA) rfl rfl rfl ?_ ?_ rfl ?_;iterate 2 (focus (simp only [go_sem,simprocAttr,hb4,hi2,wts_length];done))));try simp only [go_sem,simprocAttr,hb4,hi2,wts_length])|((with_reducible refine oD ?_ ?_);kernel_rfl)|((with_reducible intro h);try simp only [go_sem,simprocAttr,hb4,hi2,wts_length] at h)|omega|intro h)
   all_goals (refine ⟨j+1,by omega, ?_,by omega⟩;first|rw [if_pos (by omega)] at hstep|rw [if_neg (by omega)] at hstep)
   all_goals (refine Le.of ?_ ?_<;>simp [go_sem,simprocAttr,hb4,hi2,wts_length,hstep])
  ·have hb4:decide ((j:Int)<((pO g a).length:Int))=false:=decide_eq_false (by omega)
   have ht:(pO g a).take j=pO g a:=List.take_of_length_le (by omega)
   repeat' (first|refine Rn.p ?_|(with_reducible apply And.intro)|((first|(refine hK _ ?_;clear hK K)|with_reducible intro K hK|refine Rs.p ?_|((with_reducible first|apply oP|apply oQ);exact rfl)|refine aa hX hC hP (jD g hm) rfl rfl rfl (by simp only [go_sem,simprocAttr,hb4,ht]) rfl ?_|refine aa hX hC hP (cG bD.nil _ [] _ ic (cH g (aT g)) BG) rfl rfl rfl (by simp only [go_sem,simprocAttr,hb4,ht]) rfl ?_|(refine au hX hC hP (aW way a kS) rfl rfl rfl ?_ ?_ ?_ ?_;iterate 3 (focus (simp only [go_sem,simprocAttr,hb4,ht];done)))|(refine au hX hC hP (aS way a kS) rfl rfl rfl ?_ ?_ ?_ ?_;iterate 3 (focus (simp only [go_sem,simprocAttr,hb4,ht];done)))|(refine an hX hC hP [(10000,75)] (dL (way.drop k) hlr) rfl rfl rfl ?_ ?_ ?_ ?_ ?_ ?_ ?_ ?_ ?_ ?_ ?_ ?_ ?_ ?_;(focus (simp only [go_sem,simprocAttr,hb4,ht];done));(iterate 12 (focus (simp [go_sem,simprocAttr,hb4,ht];done)));try simp only [List.map_cons,List.map_nil])|(refine au hX hC hP (jF rev td hrev) rfl rfl rfl ?_ ?_ ?_ ?_;iterate 3 (focus (simp only [go_sem,simprocAttr,hb4,ht];done)))|(refine au hX hC hP (aS rev (kE rev) vf) rfl rfl rfl ?_ ?_ ?_ ?_;iterate 3 (focus (simp only [go_sem,simprocAttr,hb4,ht];done)))|(refine cD hX hC hP (e9 [rev.drop k2,rev.take k2] hc1 BH HA) rfl rfl rfl ?_ ?_ rfl ?_;iterate 2 (focus (simp only [go_sem,simprocAttr,hb4,ht];done))));try simp only [go_sem,simprocAttr,hb4,ht])|((with_reducible refine oD ?_ ?_);kernel_rfl)|((with_reducible intro h);try simp only [go_sem,simprocAttr,hb4,ht] at h)|omega|intro h)
   refine ⟨(way++ [(a:Int)],lF g (cH g (aT g)) a),⟨JG.next Ng hmem,qo hm _ _ _ (.inl rfl) Fv, ?_⟩, ?_, ?_⟩
   ·simp only
    rw [← hrun,ou Ng hmem]
    simp only [nc]
    rw [if_neg (by intro h;rcases h with h|h;omega;exact hmem h)]
   ·refine Le.of ?_ ?_<;>simp [go_sem,simprocAttr,hb4,ht,lF]
   ·have:=ou Ng hmem;simp only;omega
end Go.Ab
end
section
namespace Go.Ab
open Go.Proofs
attribute [local congr] ACall.congr gd.congr Nx.congr
set_option maxRecDepth 10000
def eF (f:Int × Int × List Int):AV:= .agg [eN f.1,eN f.2.1, .d (sI f.2.2)]
attribute [go_sem] eF
def lH (g:Gr):Int:=bP (fun e:Edge=>decide (e.1=e.2)) g.es
def tf (g:Gr) (i:Nat):Bool:=decide (g.es.getD i (0,0)∈g.es.take i)
def eH (g:Gr):Int:=bP (tf g) (List.range g.es.length)
def jH (g:Gr) (QN bare:List Int):Int × Int × List Int:=
 if aL g=false then (1,0, []) else
 if 0≤lH g then (13,lH g, []) else
 if 0≤eH g then (14,eH g, []) else
 if 0<QN.length then (15,0,QN) else
 if 1<bare.length then (16,0,bare.take 2) else (0,0, [])
def cg (g:Gr):Int × Int × List Int:=jH g (lG g) (bQ (·.2) g)
theorem jI (e:Edge):Spec Tryz.prog 112 (Args [eE e]) [] (eB (decide (e.1=e.2))) []:=by
 (refine Spec.hd (C:=T.cfg [] []) (rs:= [.t 2]) (T.ai _ _) Tryz.func112 rfl rfl Tryz.ntmps112 Tryz.results112 (by simp [AObj.isNest]) (by simp [AObj.isNest]) (by kernel_rfl) T.mixed fun X hX hP hC aQ cy=> ?_)
 repeat' (first|refine Rn.p ?_|(with_reducible apply And.intro)|((first|(refine hK _ ?_;clear hK K)|with_reducible intro K hK|refine Rs.p ?_|((with_reducible first|apply oP|apply oQ);exact rfl));try simp only [go_sem,simprocAttr])|((with_reducible refine oD ?_ ?_);kernel_rfl)|((with_reducible intro h);try simp only [go_sem,simprocAttr] at h)|omega|intro h)
theorem ng {n k:Nat} (h:k<n) (d:Nat):(List.range n).getD k d=k:=by
 simp [List.getD_eq_getElem?_getD,List.getElem?_range h]
theorem kF (g:Gr) (hl:g.es.length≤1000):Spec Tryz.prog 65 (Args [eG g]) [] (eF (cg g)) []:=by
 have hl:g.es.length≤9223372036854775807:=by omega
 (refine Spec.hd (C:=T.cfg [] []) (rs:= [.c 2 64]) (T.ai _ _) Tryz.func65 rfl rfl Tryz.ntmps65 Tryz.results65 (by simp [AObj.isNest]) (by simp [AObj.isNest]) (by kernel_rfl) T.mixed fun X hX hP hC aQ cy=> ?_)
 cases hm:aL g with
 |false=>
  repeat' (first|refine Rn.p ?_|(with_reducible apply And.intro)|((first|(refine hK _ ?_;clear hK K)|with_reducible intro K hK|refine Rs.p ?_|((with_reducible first|apply oP|apply oQ);exact rfl)|refine aa hX hC hP (fC g hl) rfl rfl rfl (by simp only [go_sem,simprocAttr,hm]) rfl ?_|refine aa hX hC hP (bJ bD.nil _ [] _ jI g.es hl) rfl rfl rfl (by simp only [go_sem,simprocAttr,hm]) rfl ?_|refine aa hX hC hP (gP g hm) rfl rfl rfl (by simp only [go_sem,simprocAttr,hm]) rfl ?_|refine aa hX hC hP (iK g hm) rfl rfl rfl (by simp only [go_sem,simprocAttr,hm]) rfl ?_|refine aa hX hC hP (fD g hm) rfl rfl rfl (by simp only [go_sem,simprocAttr,hm]) rfl ?_|refine aa hX hC hP (dD (g.es.take k) (g.es.getD k (0,0)) hlk) rfl rfl rfl (by simp only [go_sem,simprocAttr,hm]) rfl ?_);try simp only [go_sem,simprocAttr,hm])|((with_reducible refine oD ?_ ?_);kernel_rfl)|((with_reducible intro h);try simp only [go_sem,simprocAttr,hm] at h)|omega|intro h)
  all_goals simp [cg,jH,hm]
 |true=>
 have hn:=aG hm
 by_cases hlo:0≤lH g
 ·have hb1:decide (0≤bP (fun p:Edge=>decide (p.1=p.2)) g.es)=true:=decide_eq_true hlo
  repeat' (first|refine Rn.p ?_|(with_reducible apply And.intro)|((first|(refine hK _ ?_;clear hK K)|with_reducible intro K hK|refine Rs.p ?_|((with_reducible first|apply oP|apply oQ);exact rfl)|refine aa hX hC hP (fC g hl) rfl rfl rfl (by simp only [go_sem,simprocAttr,hm,hb1]) rfl ?_|refine aa hX hC hP (bJ bD.nil _ [] _ jI g.es hl) rfl rfl rfl (by simp only [go_sem,simprocAttr,hm,hb1]) rfl ?_|refine aa hX hC hP (gP g hm) rfl rfl rfl (by simp only [go_sem,simprocAttr,hm,hb1]) rfl ?_|refine aa hX hC hP (iK g hm) rfl rfl rfl (by simp only [go_sem,simprocAttr,hm,hb1]) rfl ?_|refine aa hX hC hP (fD g hm) rfl rfl rfl (by simp only [go_sem,simprocAttr,hm,hb1]) rfl ?_|refine aa hX hC hP (dD (g.es.take k) (g.es.getD k (0,0)) hlk) rfl rfl rfl (by simp only [go_sem,simprocAttr,hm,hb1]) rfl ?_);try simp only [go_sem,simprocAttr,hm,hb1])|((with_reducible refine oD ?_ ?_);kernel_rfl)|((with_reducible intro h);try simp only [go_sem,simprocAttr,hm,hb1] at h)|omega|intro h)
  all_goals (
   have hc:cg g=(13,lH g, []):=by
    simp only [cg,jH];rw [if_neg (by simp [hm]),if_pos hlo]
   rw [hc]<;>rfl)
 have hb1:decide (0≤bP (fun p:Edge=>decide (p.1=p.2)) g.es)=false:=decide_eq_false hlo
 repeat' (first|refine Rn.p ?_|(with_reducible apply And.intro)|((first|(refine hK _ ?_;clear hK K)|with_reducible intro K hK|refine Rs.p ?_|((with_reducible first|apply oP|apply oQ);exact rfl)|refine aa hX hC hP (fC g hl) rfl rfl rfl (by simp only [go_sem,simprocAttr,hm,hb1]) rfl ?_|refine aa hX hC hP (bJ bD.nil _ [] _ jI g.es hl) rfl rfl rfl (by simp only [go_sem,simprocAttr,hm,hb1]) rfl ?_|refine aa hX hC hP (gP g hm) rfl rfl rfl (by simp only [go_sem,simprocAttr,hm,hb1]) rfl ?_|refine aa hX hC hP (iK g hm) rfl rfl rfl (by simp only [go_sem,simprocAttr,hm,hb1]) rfl ?_|refine aa hX hC hP (fD g hm) rfl rfl rfl (by simp only [go_sem,simprocAttr,hm,hb1]) rfl ?_|refine aa hX hC hP (dD (g.es.take k) (g.es.getD k (0,0)) hlk) rfl rfl rfl (by simp only [go_sem,simprocAttr,hm,hb1]) rfl ?_);try simp only [go_sem,simprocAttr,hm,hb1])|((with_reducible refine oD ?_ ?_);kernel_rfl)|((with_reducible intro h);try simp only [go_sem,simprocAttr,hm,hb1] at h)|omega|intro h)
 refine ak (fun k:Nat=>k≤g.es.length∧∀j,j<k→tf g j=false) (fun k=>⟨[(23,eN k),(22,eN g.es.length),(21, .d (sE g.es)),(1, .ptr 1 0),(2, .ptr 2 0)], [(1, .box [eN g.n, .d (sE g.es)]),(2, .box [eN 0,eN 0, .nil 3])]⟩) (fun k=>g.es.length - k) 0 (by simp) ?_ ?_
 ·(refine Le.of ?_ ?_<;>simp [go_sem,simprocAttr,hm,hb1])
 rintro k ⟨hk,JH⟩
 rcases Nat.lt_or_ge k g.es.length with hlt|hge
 ·have hb2:decide ((k:Int)<(g.es.length:Int))=true:=decide_eq_true (by omega)
  have hlk:(g.es.take k).length≤9223372036854775807:=by rw [List.length_take];omega
  repeat' (first|refine Rn.p ?_|(with_reducible apply And.intro)|((first|(refine hK _ ?_;clear hK K)|with_reducible intro K hK|refine Rs.p ?_|((with_reducible first|apply oP|apply oQ);exact rfl)|refine aa hX hC hP (fC g hl) rfl rfl rfl (by simp only [go_sem,simprocAttr,hm,hb1,hb2, ← List.map_take]) rfl ?_|refine aa hX hC hP (bJ bD.nil _ [] _ jI g.es hl) rfl rfl rfl (by simp only [go_sem,simprocAttr,hm,hb1,hb2, ← List.map_take]) rfl ?_|refine aa hX hC hP (gP g hm) rfl rfl rfl (by simp only [go_sem,simprocAttr,hm,hb1,hb2, ← List.map_take]) rfl ?_|refine aa hX hC hP (iK g hm) rfl rfl rfl (by simp only [go_sem,simprocAttr,hm,hb1,hb2, ← List.map_take]) rfl ?_|refine aa hX hC hP (fD g hm) rfl rfl rfl (by simp only [go_sem,simprocAttr,hm,hb1,hb2, ← List.map_take]) rfl ?_|refine aa hX hC hP (dD (g.es.take k) (g.es.getD k (0,0)) hlk) rfl rfl rfl (by simp only [go_sem,simprocAttr,hm,hb1,hb2, ← List.map_take]) rfl ?_);try simp only [go_sem,simprocAttr,hm,hb1,hb2, ← List.map_take])|((with_reducible refine oD ?_ ?_);kernel_rfl)|((with_reducible intro h);try simp only [go_sem,simprocAttr,hm,hb1,hb2, ← List.map_take] at h)|omega|intro h)
  any_goals (
   have SL:eH g=(k:Int):=fA (d:=0) (by simpa using hlt) (fun j hj=>by rw [ng (by omega)];exact JH j hj) (by rw [ng hlt];exact decide_eq_true h)
   have hc:cg g=(14,eH g, []):=by
    simp only [cg,jH];rw [if_neg (by simp [hm]),if_neg hlo,if_pos (by omega)]
   rw [hc]<;>first|rfl|exact SL.symm)
  refine ⟨k+1,⟨by omega,fun j hj=> ?_⟩, ?_,by omega⟩
  ·by_cases hjk:j=k
   ·subst hjk;exact decide_eq_false h
   ·exact JH j (by omega)
  ·(refine Le.of ?_ ?_<;>simp [go_sem,simprocAttr,hm,hb1,hb2, ← List.map_take])
 ·have hb2:decide ((k:Int)<(g.es.length:Int))=false:=decide_eq_false (by omega)
  have Pv:¬0≤eH g:=by
   have:eH g= -1:=eC 0 fun j hj=>by
    rw [List.length_range] at hj
    rw [ng hj];exact JH j (by omega)
   omega
  repeat' (first|refine Rn.p ?_|(with_reducible apply And.intro)|((first|(refine hK _ ?_;clear hK K)|with_reducible intro K hK|refine Rs.p ?_|((with_reducible first|apply oP|apply oQ);exact rfl)|refine aa hX hC hP (fC g hl) rfl rfl rfl (by simp only [go_sem,simprocAttr,hm,hb1,hb2]) rfl ?_|refine aa hX hC hP (bJ bD.nil _ [] _ jI g.es hl) rfl rfl rfl (by simp only [go_sem,simprocAttr,hm,hb1,hb2]) rfl ?_|refine aa hX hC hP (gP g hm) rfl rfl rfl (by simp only [go_sem,simprocAttr,hm,hb1,hb2]) rfl ?_|refine aa hX hC hP (iK g hm) rfl rfl rfl (by simp only [go_sem,simprocAttr,hm,hb1,hb2]) rfl ?_|refine aa hX hC hP (fD g hm) rfl rfl rfl (by simp only [go_sem,simprocAttr,hm,hb1,hb2]) rfl ?_|refine aa hX hC hP (dD (g.es.take k) (g.es.getD k (0,0)) hlk) rfl rfl rfl (by simp only [go_sem,simprocAttr,hm,hb1,hb2]) rfl ?_);try simp only [go_sem,simprocAttr,hm,hb1,hb2])|((with_reducible refine oD ?_ ?_);kernel_rfl)|((with_reducible intro h);try simp only [go_sem,simprocAttr,hm,hb1,hb2] at h)|omega|intro h)
  all_goals (
   have hc:cg g=if 0<(lG g).length then (15,0,lG g) else if 1<(bQ (·.2) g).length then (16,0,(bQ (·.2) g).take 2) else (0,0, []):=by
    simp only [cg,jH];rw [if_neg (by simp [hm]),if_neg hlo,if_neg Pv]
   first|rw [if_pos (by omega)] at hc|(rw [if_neg (by omega)] at hc;first|rw [if_pos (by omega)] at hc|rw [if_neg (by omega)] at hc)
   rw [hc]<;>first|rfl|simp only [List.map_take])
end Go.Ab
end
section
namespace Go.Ab
open Go.Proofs
attribute [local congr] ACall.congr gd.congr Nx.congr
set_option maxRecDepth 10000
def aO (f:Edge→Int) (es:List Edge) (k:Nat) (x:Int):List Int:=((List.range k).filter fun i=>decide (f (es.getD i (0,0))=x)).map Int.ofNat
theorem ox (f:Edge→Int) (es:List Edge) (k x:Nat):eZ f es k x=aO f es k (x:Int):=rfl
theorem jJ {f:Edge→Int} {es:List Edge} {k:Nat} {x:Int} :(aO f es k x).length≤k:=by
 simpa [aO] using List.length_filter_le (fun i=>decide (f (es.getD i (0,0))=x)) (List.range k)
def SM (b:Bool) (e:Edge):Int:=if b then e.1 else e.2
end Go.Ab
end
section
namespace Go.Ab
open Go.Proofs
attribute [local congr] ACall.congr gd.congr Nx.congr
set_option maxRecDepth 10000
def rB (b:Bool):List D:= [.sc (.bool b)]
def sB (l:List Bool):D:= .sl 1 (l.map rB)
theorem getD_rB (l:List Bool) (i:Nat):(l.map rB).getD i [.sc (.bool false)]= [.sc (.bool (l.getD i false))]:=by
 simp only [List.getD_eq_getElem?_getD,List.getElem?_map]
 cases l[i]? <;>rfl
attribute [go_sem] getD_rB sB
def vg (n k:Nat):List Bool:=(List.range n).map fun y=>decide (y<k)
def tg (g:Gr) (l:List Bool) (j:Nat):List Bool:=(List.range g.n.toNat).map fun y:Nat=>(List.range j).any fun i=>decide (hd g i=(y:Int))&&(l.getD (tl g i).toNat false&&l.getD (hd g i).toNat false)
def oy (g:Gr):Nat→List Bool
 |0=>vg g.n.toNat g.n.toNat
 |k+1=>tg g (oy g k) g.es.length
theorem trueK_length {n k:Nat} :(vg n k).length=n:=by simp [vg]
theorem nextK_length {g:Gr} {l:List Bool} {j:Nat} :(tg g l j).length=g.n.toNat:=by simp [tg]
theorem leftK_length {g:Gr} {k:Nat} :(oy g k).length=g.n.toNat:=by
 cases k
 ·exact trueK_length
 ·exact nextK_length
attribute [go_sem] trueK_length nextK_length leftK_length
end Go.Ab
end
section
namespace Go.Ab
open Go.Proofs
attribute [local congr] ACall.congr gd.congr Nx.congr
set_option maxRecDepth 10000
def ID (g:Gr):List Bool:=oy g g.n.toNat
def Kt (g:Gr):Int:=if bP (fun b:Bool=>b) (ID g)<0 then g.n else bP (fun b:Bool=>b) (ID g)
def JI (g:Gr) (x:Int) (b:Int) (i:Nat):Int:=if hd g i=x∧(ID g).getD (tl g i).toNat false=true then min b (tl g i) else b
def Mc (g:Gr) (x:Int) (k:Nat):Int:=(List.range k).foldl (JI g x) g.n
def Md (g:Gr):Nat→List Int→Int→List Int × Int
 |0,way,x=>(way,x)
 |f+1,way,x=>if x∈way then (way,x) else Md g f (way++ [x]) (Mc g x g.es.length)
def gx (g:Gr):Gr:=⟨g.n+1,g.es⟩
def Fw (g:Gr):List Int × Int:=Md g (g.n.toNat+1) [] (Kt g)
def Pw (l:List Int) (m k:Nat):List Int:=(List.range k).map fun i=>l.getD ((m+l.length - i) % l.length) 0
def Me (l:List Int):List Int:=Pw l (fU l (kE l)).toNat l.length
def Mf (g:Gr):List Int:=if Kt g=g.n then [] else Me ((Fw g).1.drop (fU (Fw g).1 (Fw g).2).toNat)
theorem jK {l:List Int} {m:Nat} (h:m<l.length):l.getD m 0∈l:=by
 rw [List.getD_eq_getElem?_getD,List.getElem?_eq_getElem h];exact List.getElem_mem h
end Go.Ab
end
section
namespace Go.Ab
open Go.Proofs
attribute [local congr] ACall.congr gd.congr Nx.congr
set_option maxRecDepth 10000
def QO (g:Gr):Int × Int × List Int:=jH g (Mf g) (bQ (·.2) g)
end Go.Ab
end
section
namespace Go.Ab
def Ord (g:Gr) (out:List Int):Prop:=∀p,p<out.length→∀i,i<g.es.length→hd g i=out.getD p 0→tl g i∈out.take p
theorem oz {l r:List Int} {p:Nat} (h:p<l.length):(l++r).getD p 0=l.getD p 0:=by
 rw [List.getD_eq_getElem?_getD,List.getD_eq_getElem?_getD,List.getElem?_append_left h]
theorem Ord.next {g:Gr} {out:List Int} (h:Ord g out) {x:Nat} (hb:∀i,i<g.es.length→hd g i=x→tl g i∈out):Ord g (out++ [(x:Int)]):=by
 intro p hp i hi hh
 rw [List.length_append,List.length_singleton] at hp
 by_cases cx:p<out.length
 ·rw [oz cx] at hh
  have:=h p cx i hi hh
  rw [List.take_append_of_le_length (by omega)]
  exact this
 ·have hpe:p=out.length:=by omega
  subst hpe
  rw [List.getD_eq_getElem?_getD,List.getElem?_append_right (by omega)] at hh
  simp at hh
  rw [List.take_append_of_le_length (by omega),List.take_of_length_le (by omega)]
  exact hb i hi hh
theorem th {g:Gr} (hm:aL g=true):∀f out,dV g out→Ord g out→left g out≤f→dV g (uM g f out)∧Ord g (uM g f out)∧fU (cH g (uM g f out)) 0<0
 |f,out,hP,hO,hl=>by
  rcases Ma (g:=g) out with hx|⟨x,hx,BF,hw⟩
  ·rw [yD (by omega)];exact ⟨hP,hO,by omega⟩
  ·obtain ⟨Ku,_,hb⟩:=hP.next hm BF hw
   have hn:=u7 hP Ku
   cases f with
   |zero=>omega
   |succ f=>
    have:=th hm f (out++ [(x:Int)]) Ku (hO.next hb) (by omega)
    simp only [uM,hx]
    rw [if_neg (by omega)]
    exact this
theorem fX {g:Gr} (hm:aL g=true):dV g (aT g)∧Ord g (aT g)∧fU (cH g (aT g)) 0<0:=
 th hm _ _ (dV.nil g) (fun p hp=>by simp at hp) (by rw [tc];exact Nat.le_refl _)
theorem pP {g:Gr} (hm:aL g=true) {y:Nat} (hy:y<g.n.toNat):0<wt g (aT g) y↔(y:Int)∉aT g:=by
 obtain ⟨_,_,hi⟩:=fX hm
 constructor
 ·intro h hin;simp [wt,hin] at h
 ·intro h
  have h0:wt g (aT g) y≠0:=by
   intro e
   rcases iI (f:=fun y:Int=>decide (0=y)) (l:=cH g (aT g)) 0 with ⟨_,h2⟩|⟨k,h1,_⟩
   ·have:=h2 _ (List.mem_of_getElem? (kC hy))
    rw [e] at this;simp at this
   ·have:fU (cH g (aT g)) 0=k:=h1
    omega
  have:0≤wt g (aT g) y:=by simp only [wt,h,if_false];omega
  omega
theorem tj {g:Gr} {l:List Bool} {j y:Nat} (h:y<g.n.toNat):(tg g l j).getD y false=(List.range j).any fun i=>decide (hd g i=(y:Int))&&(l.getD (tl g i).toNat false&&l.getD (hd g i).toNat false):=by
 simp [tg,List.getD_eq_getElem?_getD,List.getElem?_range h]
theorem tq {g:Gr} (hm:aL g=true):∀k y,y<g.n.toNat→(y:Int)∉aT g→(oy g k).getD y false=true
 |0,y,hy,_=>by simp [oy,vg,List.getD_eq_getElem?_getD,List.getElem?_range hy];omega
 |k+1,y,hy,h=>by
  have hw:=(pP hm hy).2 h
  simp only [wt,h,if_false] at hw
  obtain ⟨i,hi,hp⟩:=List.countP_pos_iff.1 (Int.natCast_pos.1 hw)
  simp only [Bool.and_eq_true,decide_eq_true_eq,Bool.not_eq_true',decide_eq_false_iff_not] at hp
  have hil:=List.mem_range.1 hi
  obtain ⟨⟨h1,h2⟩,_⟩:=dw hm hil
  have ht:(g.es.getD i (0,0)).1=tl g i:=rfl
  rw [ht] at h1 h2
  have e:((tl g i).toNat:Int)=tl g i:=by omega
  have g1:=tq hm k (tl g i).toNat (by omega) (by rw [e];exact hp.2)
  have g2:=tq hm k y hy h
  show (tg g (oy g k) g.es.length).getD y false=true
  rw [tj hy,List.any_eq_true]
  refine ⟨i,hi, ?_⟩
  rw [hp.1,Int.toNat_natCast,g1,g2];simp
theorem BI {g:Gr} (hm:aL g=true):∀k p,p<k→p<(aT g).length→(oy g k).getD ((aT g).getD p 0).toNat false=false
 |0,p,h,_=>by omega
 |k+1,p,h,hp=>by
  obtain ⟨hP,hO,_⟩:=fX hm
  have hr:=hP.lo _ (jK hp)
  obtain ⟨y,hy⟩:∃y:Nat,(aT g).getD p 0=y:=⟨((aT g).getD p 0).toNat,by omega⟩
  have JJ:y<g.n.toNat:=by omega
  rw [hy,Int.toNat_natCast]
  show (tg g (oy g k) g.es.length).getD y false=false
  rw [tj JJ,List.any_eq_false]
  intro i hi
  have hil:=List.mem_range.1 hi
  simp only [Bool.and_eq_true,decide_eq_true_eq]
  rintro ⟨h1,h2,_⟩
  have ht:=hO p hp i hil (by rw [h1,hy])
  rw [List.mem_iff_getElem?] at ht
  obtain ⟨q,hq⟩:=ht
  rw [List.getElem?_take] at hq
  split at hq
  ·rename_i SN
   have:=BI hm k q (by omega) (by omega)
   rw [List.getD_eq_getElem?_getD (l:=aT g),hq] at this
   rw [Option.getD_some,h2] at this
   cases this
  ·cases hq
theorem JK {g:Gr} (hm:aL g=true) {y:Nat} (hy:y<g.n.toNat):(ID g).getD y false=true↔(y:Int)∉aT g:=by
 constructor
 ·intro h hin
  obtain ⟨hP,_,_⟩:=fX hm
  obtain ⟨p,hp,e⟩:=List.getElem_of_mem hin
  have hl:=hP.fuel
  have:=BI hm g.n.toNat p (by omega) hp
  rw [List.getD_eq_getElem?_getD (l:=aT g),List.getElem?_eq_getElem hp,Option.getD_some,e,Int.toNat_natCast] at this
  have h2:(oy g g.n.toNat).getD y false=true:=h
  rw [this] at h2;cases h2
 ·intro h;exact tq hm _ y hy h
theorem Fx {g:Gr} (hm:aL g=true) {y:Nat} (hy:y<g.n.toNat):(ID g).getD y false=decide (0<(cH g (aT g)).getD y 0):=by
 rw [lD hy,Bool.eq_iff_iff,JK hm hy,decide_eq_true_eq,pP hm hy]
theorem start_eq {g:Gr} (hm:aL g=true):(bP (fun n=>decide (0<n)) (cH g (aT g))= -1∧Kt g=g.n)∨∃a:Nat,a<g.n.toNat∧bP (fun n=>decide (0<n)) (cH g (aT g))=a∧Kt g=a∧(a:Int)∉aT g:=by
 have hlf:(ID g).length=g.n.toNat:=leftK_length
 rcases iI (f:=fun n:Int=>decide (0<n)) (l:=cH g (aT g)) 0 with ⟨h1,h2⟩|⟨k,h1,h2,h3,h4⟩
 ·refine .inl ⟨h1, ?_⟩
  have:bP (fun b:Bool=>b) (ID g)= -1:=eC false fun j hj=>by
   rw [hlf] at hj
   rw [Fx hm hj]
   exact h2 _ (by rw [List.getD_eq_getElem?_getD,kC hj];exact List.mem_of_getElem? (kC hj))
  unfold Kt;rw [this,if_pos (by omega)]
 ·rw [wts_length] at h2
  refine .inr ⟨k,h2,h1, ?_, ?_⟩
  ·have:bP (fun b:Bool=>b) (ID g)=k:=fA (d:=false) (by omega) (fun j hj=>by
    rw [Fx hm (by omega)];exact h4 j hj) (by rw [Fx hm h2];exact h3)
   unfold Kt;rw [this,if_neg (by omega)]
  ·rw [← pP hm h2]
   rw [lD h2] at h3
   exact of_decide_eq_true h3
def Q (g:Gr) (a:Nat) (t:Int):Prop:=∃i,i<g.es.length∧hd g i=(a:Int)∧tl g i=t∧t∉aT g
theorem bn {g:Gr} (hm:aL g=true) {i:Nat} (hi:i<g.es.length):0≤tl g i∧tl g i<g.n:=(dw hm hi).1
theorem bw {g:Gr} (hm:aL g=true) {i:Nat} (hi:i<g.es.length):0≤hd g i∧hd g i<g.n:=(dw hm hi).2
theorem C4 {g:Gr} (hm:aL g=true) {i:Nat} (hi:i<g.es.length):0<(cH g (aT g)).getD (tl g i).toNat 0↔tl g i∉aT g:=by
 have h:=bn hm hi
 have e:((tl g i).toNat:Int)=tl g i:=by omega
 rw [lD (by omega),pP hm (by omega),e]
theorem qp {g:Gr} (hm:aL g=true):∀(l:List Int) (b:Int),(∀e∈l,∃i:Nat,e=i∧i<g.es.length)→
 (b= -1∨0≤b)→(l.foldl (fc g (cH g (aT g))) b=b∨∃i:Nat,(i:Int)∈l∧tl g i∉aT g∧l.foldl (fc g (cH g (aT g))) b=tl g i)∧(0≤b→l.foldl (fc g (cH g (aT g))) b≤b)∧
   (∀i:Nat,(i:Int)∈l→tl g i∉aT g→0≤l.foldl (fc g (cH g (aT g))) b∧l.foldl (fc g (cH g (aT g))) b≤tl g i)
 | [],b,_,_=>⟨.inl rfl,fun _=>Int.le_refl _,by simp⟩
 |e::l,b,he,hb=>by
  obtain ⟨i,rfl,hi⟩:=he e List.mem_cons_self
  have htr:=bn hm hi
  have hw:=C4 hm hi
  have hstep:fc g (cH g (aT g)) b (i:Int)=if tl g i∉aT g∧(b<0∨tl g i<b) then tl g i else b:=by
   simp only [fc,Int.toNat_natCast,hw]
  have hb':fc g (cH g (aT g)) b (i:Int)= -1∨0≤fc g (cH g (aT g)) b (i:Int):=by
   rw [hstep];split
   ·exact .inr htr.1
   ·exact hb
  obtain ⟨h1,h2,h3⟩:=qp hm l (fc g (cH g (aT g)) b (i:Int)) (fun e h=>he e (List.mem_cons_of_mem _ h)) hb'
  simp only [List.foldl_cons]
  generalize hr:l.foldl (fc g (cH g (aT g))) (fc g (cH g (aT g)) b (i:Int))=r at h1 h2 h3 ⊢
  refine ⟨?_, ?_, ?_⟩
  ·rcases h1 with h1|⟨j,hj,h4,h5⟩
   ·rw [hstep] at h1
    split at h1
    ·rename_i hc
     exact .inr ⟨i,by simp,hc.1,h1⟩
    ·exact .inl h1
   ·exact .inr ⟨j,by simp [hj],h4,h5⟩
  ·intro h0
   rw [hstep] at h2
   split at h2
   ·rename_i hc;have:=h2 htr.1;omega
   ·exact h2 h0
  ·intro j hj hjn
   rcases List.mem_cons.1 hj with hj|hj
   ·have:j=i:=Int.ofNat.inj hj
    subst this
    rw [hstep] at h1 h2
    split at h1
    ·rename_i hc
     rw [if_pos hc] at h2
     have:=h2 htr.1
     rcases h1 with h1|⟨q,hq,h4,h5⟩
     ·omega
     ·obtain ⟨i',e',hi'⟩:=he q (List.mem_cons_of_mem _ hq)
      have:q=i':=Int.ofNat.inj e'
      subst this
      have:=bn hm hi';omega
    ·rename_i hc
     rw [if_neg hc] at h2
     have G6:¬(b<0∨tl g j<b):=fun h=>hc ⟨hjn,h⟩
     have:=h2 (by omega)
     rcases h1 with h1|⟨q,hq,h4,h5⟩
     ·omega
     ·obtain ⟨i',e',hi'⟩:=he q (List.mem_cons_of_mem _ hq)
      have:q=i':=Int.ofNat.inj e'
      subst this
      have:=bn hm hi';omega
   ·exact h3 j hj hjn
theorem AE {g:Gr} (hm:aL g=true) {a:Nat} (h:∃t,Q g a t):Q g a (lF g (cH g (aT g)) a)∧∀t,Q g a t→lF g (cH g (aT g)) a≤t:=by
 have hin:∀i,i<g.es.length→hd g i=(a:Int)→(i:Int)∈pO g a:=by
  intro i hi hh
  simp only [pO,eZ,List.mem_map,List.mem_filter,List.mem_range,decide_eq_true_eq]
  exact ⟨i,⟨hi,hh⟩,rfl⟩
 obtain ⟨h1,_,h3⟩:=qp hm (pO g a) (-1) Fv (.inl rfl)
 have hG:lF g (cH g (aT g)) a=(pO g a).foldl (fc g (cH g (aT g))) (-1):=by simp [lF,ve]
 rw [← hG] at h1 h3
 have hle:∀t,Q g a t→0≤lF g (cH g (aT g)) a∧lF g (cH g (aT g)) a≤t:=by
  rintro t ⟨i,h4,h5,rfl,h6⟩
  exact h3 i (hin i h4 h5) h6
 obtain ⟨t,ht⟩:=h
 have h0:=(hle t ht).1
 refine ⟨?_,fun t ht=>(hle t ht).2⟩
 rcases h1 with h1|⟨i,hi,h4,h5⟩
 ·omega
 ·obtain ⟨i',e',hi',hh⟩:=w5 hi
  have:i=i':=Int.ofNat.inj e'
  subst this
  exact ⟨i,hi',hh,h5.symm,by rw [h5];exact h4⟩
theorem Mg {g:Gr} (hm:aL g=true) {a:Nat} (ha:a<g.n.toNat) (h:(a:Int)∉aT g):∃t,Q g a t:=by
 have hw:=(pP hm ha).2 h
 simp only [wt,h,if_false] at hw
 obtain ⟨i,hi,hp⟩:=List.countP_pos_iff.1 (Int.natCast_pos.1 hw)
 simp only [Bool.and_eq_true,decide_eq_true_eq,Bool.not_eq_true',decide_eq_false_iff_not] at hp
 exact ⟨tl g i,i,List.mem_range.1 hi,hp.1,rfl,hp.2⟩
theorem HB {g:Gr} {way:List Int} :left g way≤g.n.toNat:=by
 unfold left
 have:=List.countP_le_length (p:=fun y:Nat=> !decide ((y:Int)∈way)) (l:=List.range g.n.toNat)
 simpa using this
theorem kG {l:List Int} (h:l.Nodup) {i j:Nat} (hi:i<l.length) (hj:j<l.length) (e:l.getD i 0=l.getD j 0):i=j:=by
 rw [List.getD_eq_getElem?_getD,List.getD_eq_getElem?_getD,List.getElem?_eq_getElem hi,List.getElem?_eq_getElem hj] at e
 exact (List.getElem_inj h).1 e
end Go.Ab
end
section
namespace Go.Ab
end Go.Ab
end
section
namespace Go.Ab
open Go.Proofs
attribute [local congr] ACall.congr gd.congr Nx.congr
set_option maxRecDepth 10000
def g0:Gr:=⟨3, [(0,1),(1,2),(2,1)]⟩
end Go.Ab
end
section
namespace Go.Ab
open Go.Proofs
attribute [local congr] ACall.congr gd.congr Nx.congr
set_option maxRecDepth 10000
def BJ (g:Gr):Bool:=decide (g.n≤((aT g).length:Int))
def SO (g:Gr):List Int:=if BJ g then aT g else []
def lI (l:List Int) (n:Int):Bool:=decide ((l.length:Int)=n)&&(List.range n.toNat).all fun x:Nat=>decide ((x:Int)∈l)
end Go.Ab
end
section
namespace Go.Ab
open Go.Proofs
attribute [local congr] ACall.congr gd.congr Nx.congr
set_option maxRecDepth 10000
theorem count_le:∀(xs l:List Int),xs.Nodup→(∀x∈xs,x∈l)→xs.length≤l.countP (fun y=>decide (y∈xs))
 | [],_,_,_=>Nat.zero_le _
 |a::r,l,hd,h=>by
  obtain ⟨h1,h2⟩:=List.nodup_cons.1 hd
  have ih:=count_le r l h2 fun x hx=>h x (List.mem_cons_of_mem _ hx)
  have hp:=kD (p:=fun y=>decide (y∈a::r)) (q:=fun y=>decide (y∈r)) (r:=fun y=>decide (y=a)) (l:=l) (fun y _=>by
   by_cases hy:y=a
   ·subst hy;simp [h1]
   ·simp [hy])
  have ha:0<l.countP (fun y=>decide (y=a)):=List.countP_pos_iff.2 ⟨a,h a List.mem_cons_self,by simp⟩
  rw [hp,List.length_cons];omega
def dx (n:Nat):List Int:=(List.range n).map Int.ofNat
theorem cE {n:Nat} {x:Int} :x∈dx n↔0≤x∧x<n:=by
 simp only [dx,List.mem_map,List.mem_range]
 constructor
 ·rintro ⟨a,h,rfl⟩;simp;omega
 ·intro h;exact ⟨x.toNat,by omega,by simp;omega⟩
theorem nh {n:Nat} :(dx n).Nodup:=by
 unfold dx
 exact List.Pairwise.map _ (fun a b h e=>h (Int.ofNat.inj e)) List.nodup_range
theorem cA {l:List Int} {n:Int} :lI l n=true↔(l.length:Int)=n∧∀x∈dx n.toNat,x∈l:=by
 simp only [lI,Bool.and_eq_true,decide_eq_true_eq,List.all_eq_true,List.mem_range]
 constructor
 ·rintro ⟨h1,h2⟩
  refine ⟨h1,fun x hx=> ?_⟩
  obtain ⟨a,b⟩:=cE.1 hx
  have:=h2 x.toNat (by omega)
  rwa [show ((x.toNat:Nat):Int)=x from by omega] at this
 ·rintro ⟨h1,h2⟩
  exact ⟨h1,fun x hx=>h2 _ (cE.2 (by omega))⟩
theorem tu {l:List Int} {n:Int} (h:lI l n=true):∀x∈l,0≤x∧x<n:=by
 obtain ⟨h1,h2⟩:=cA.1 h
 have hc:=count_le (dx n.toNat) l nh h2
 have hlen:(dx n.toNat).length=n.toNat:=by simp [dx]
 have he:l.countP (fun y=>decide (y∈dx n.toNat))=l.length:=by
  have:=List.countP_le_length (p:=fun y=>decide (y∈dx n.toNat)) (l:=l)
  omega
 intro x hx
 have:=List.countP_eq_length.1 he x hx
 have:=cE.1 (of_decide_eq_true this)
 omega
def zR (n:Nat) (l:List Int):Nat→List Int
 |0=>List.replicate n 0
 |k+1=>(zR n l k).set (l.getD k 0).toNat k
theorem atK_length {n:Nat} {l:List Int} :∀ {k:Nat},(zR n l k).length=n
 |0=>by simp [zR]
 |k+1=>by simp [zR,atK_length (k:=k)]
def Fy (g:Gr) (l:List Int) (j:Nat):Bool:=(List.range j).all fun i=>decide ((zR g.n.toNat l l.length).getD (tl g i).toNat 0<(zR g.n.toNat l l.length).getD (hd g i).toNat 0)
def w6 (g:Gr) (l:List Int):Bool:=lI l g.n&&Fy g l g.es.length
attribute [go_sem] atK_length
end Go.Ab
end
section
namespace Go.Ab
def UH (g:Gr) (out:List Int):Prop:=∀p,p<out.length→out.getD p 0=fU (cH g (out.take p)) 0∧0≤out.getD p 0
theorem BK {g:Gr} (hm:aL g=true) (h:BJ g=true):lI (aT g) g.n=true:=by
 obtain ⟨hP,_,_⟩:=fX hm
 have hn:=aG hm
 have hf:=hP.fuel
 have hok:=of_decide_eq_true h
 refine cA.2 ⟨by omega,fun x hx=> ?_⟩
 obtain ⟨h1,h2⟩:=cE.1 hx
 have h0:(List.range g.n.toNat).countP (fun y:Nat=> !decide ((y:Int)∈aT g))=0:=by omega
 have:=List.countP_eq_zero.1 h0 x.toNat (List.mem_range.2 (by omega))
 rw [show ((x.toNat:Nat):Int)=x from by omega] at this
 simpa using this
theorem BL {g:Gr} (hm:aL g=true) (h:BJ g=false):∃y:Nat,y<g.n.toNat∧(y:Int)∉aT g:=by
 obtain ⟨hP,_,_⟩:=fX hm
 have hn:=aG hm
 have hf:=hP.fuel
 have hok:=of_decide_eq_false h
 have h0:0<(List.range g.n.toNat).countP (fun y:Nat=> !decide ((y:Int)∈aT g)):=by omega
 obtain ⟨y,hy,hp⟩:=List.countP_pos_iff.1 h0
 exact ⟨y,List.mem_range.1 hy,by simpa using hp⟩
theorem Fz {g:Gr} {l:List Int} (h:w6 g l=true) {i:Nat} (hi:i<g.es.length):(zR g.n.toNat l l.length).getD (tl g i).toNat 0<(zR g.n.toNat l l.length).getD (hd g i).toNat 0:=by
 simp only [w6,Bool.and_eq_true] at h
 have:=List.all_eq_true.1 h.2 i (List.mem_range.2 hi)
 exact of_decide_eq_true this
theorem tC {n:Nat} {l:List Int} :∀ {k:Nat} {y:Nat},0≤(zR n l k).getD y 0
 |0,y=>by
  simp only [zR,List.getD_eq_getElem?_getD,List.getElem?_replicate]
  split<;>simp
 |k+1,y=>by
  have ih:=tC (n:=n) (l:=l) (k:=k) (y:=y)
  simp only [zR,List.getD_eq_getElem?_getD,List.getElem?_set] at ih ⊢
  split
  ·split<;>simp
  ·exact ih
theorem w8 {l:List Int} {i j:Nat} (hij:i<j) (hj:j<l.length) (e:l.getD i 0=l.getD j 0):∀x∈l,x∈l.eraseIdx i:=by
 intro x hx
 obtain ⟨k,hk,rfl⟩:=List.getElem_of_mem hx
 rw [List.mem_iff_getElem?]
 rcases Nat.lt_trichotomy k i with h|h|h
 ·exact ⟨k,by rw [List.getElem?_eraseIdx,if_pos h,List.getElem?_eq_getElem hk]⟩
 ·subst h
  refine ⟨j - 1, ?_⟩
  rw [List.getElem?_eraseIdx,if_neg (by omega),show j - 1+1=j from by omega,List.getElem?_eq_getElem hj]
  rw [List.getD_eq_getElem?_getD,List.getD_eq_getElem?_getD,List.getElem?_eq_getElem hk,List.getElem?_eq_getElem hj] at e
  exact congrArg some e.symm
 ·exact ⟨k - 1,by rw [List.getElem?_eraseIdx,if_neg (by omega),show k - 1+1=k from by omega,List.getElem?_eq_getElem hk]⟩
theorem kH {l:List Int} {n:Int} (h:lI l n=true) {i j:Nat} (hi:i<l.length) (hj:j<l.length) (e:l.getD i 0=l.getD j 0):i=j:=by
 obtain ⟨h1,h2⟩:=cA.1 h
 have key:∀i j,i<j→j<l.length→l.getD i 0=l.getD j 0→False:=by
  intro i j hij hj e
  have hc:=count_le (dx n.toNat) (l.eraseIdx i) nh fun x hx=>w8 hij hj e x (h2 x hx)
  have hlen:(dx n.toNat).length=n.toNat:=by simp [dx]
  have hle:=List.countP_le_length (p:=fun y=>decide (y∈dx n.toNat)) (l:=l.eraseIdx i)
  rw [List.length_eraseIdx_of_lt (by omega)] at hle
  omega
 rcases Nat.lt_trichotomy i j with h|h|h
 ·exact (key i j h hj e).elim
 ·exact h
 ·exact (key j i h hi e.symm).elim
theorem AF {l:List Int} {n:Int} (h:lI l n=true) {p:Nat} :∀ {k:Nat},p<k→k≤l.length→(zR n.toNat l k).getD (l.getD p 0).toNat 0=p
 |0,hp,_=>by omega
 |k+1,hp,hk=>by
  have hlo:=tu h
  have hp1:=hlo _ (jK (l:=l) (m:=p) (by omega))
  have zW:=hlo _ (jK (l:=l) (m:=k) (by omega))
  simp only [zR,List.getD_eq_getElem?_getD (l:=(zR n.toNat l k).set _ _),List.getElem?_set,atK_length]
  by_cases hpk:p=k
  ·subst hpk
   rw [if_pos rfl,if_pos (by omega)];rfl
  ·have hne:¬(l.getD k 0).toNat=(l.getD p 0).toNat:=fun e=>hpk (kH h (i:=p) (j:=k) (by omega) (by omega) (by omega))
   rw [if_neg hne, ← List.getD_eq_getElem?_getD]
   exact AF h (by omega) (by omega)
theorem C5 {g:Gr} (hm:aL g=true) (h:BJ g=true):w6 g (aT g)=true:=by
 have he:=BK hm h
 obtain ⟨hP,hO,_⟩:=fX hm
 have hall:=(cA.1 he).2
 simp only [w6,he,Bool.true_and,Fy,List.all_eq_true,List.mem_range,decide_eq_true_eq]
 intro i hi
 have hh:=bw hm hi
 obtain ⟨p,hp,e⟩:=List.getElem_of_mem (hall (hd g i) (cE.2 (by omega)))
 have e':(aT g).getD p 0=hd g i:=by rw [List.getD_eq_getElem?_getD,List.getElem?_eq_getElem hp];exact e
 have ht:=hO p hp i hi e'.symm
 rw [List.mem_iff_getElem?] at ht
 obtain ⟨q,hq⟩:=ht
 rw [List.getElem?_take] at hq
 split at hq
 ·rename_i SN
  have e2:(aT g).getD q 0=tl g i:=by rw [List.getD_eq_getElem?_getD,hq];rfl
  rw [← e', ← e2,AF he hp (Nat.le_refl _),AF he (by omega) (Nat.le_refl _)]
  omega
 ·cases hq
end Go.Ab
end
section
namespace Go.Ab
open Go.Proofs
attribute [local congr] ACall.congr gd.congr Nx.congr
set_option maxRecDepth 10000
end Go.Ab
end
section
namespace Go.Ab
open Go.Proofs
attribute [local congr] ACall.congr gd.congr Nx.congr
set_option maxRecDepth 10000
def gz:Gr:=⟨0, []⟩
def vz:D:= .pt [.sc (.int .i64 0), .sl 2 [], .sl 1 [], .sl 1 []]
def bt (f:Edge→Int) (g:Gr) (x:Int):List Int:=if 0≤x∧x<g.n then aO f g.es g.es.length x else []
theorem tD (f:Edge→Int) (g:Gr) (hm:aL g=true) (x:Int):Spec Tryz.prog 128 (Args [.d (vw g), .d (.sl 1 (Hz f g)),eN x]) [] (.d (sI (bt f g x))) []:=by
 rw [aq]
 have hn:=aG hm
 have hl':(aO f g.es g.es.length x).length≤1000000:=by have:=jJ (f:=f) (es:=g.es) (k:=g.es.length) (x:=x);omega
 (refine Spec.hd (C:=T.cfg [] []) (rs:= [.t 6]) (T.ai _ _) Tryz.func128 rfl rfl Tryz.ntmps128 Tryz.results128 (by simp [AObj.isNest]) (by simp [AObj.isNest]) (by kernel_rfl) T.mixed fun X hX hP hC aQ cy=> ?_)
 by_cases hx:0≤x∧x<g.n
 ·have hv:=oq (f:=f) (g:=g) (x:=x.toNat) (by omega)
  have he:eZ f g.es g.es.length x.toNat=aO f g.es g.es.length x:=by rw [ox,show ((x.toNat:Nat):Int)=x from by omega]
  rw [he] at hv
  have hb1:decide (x<0)=false:=decide_eq_false (by omega)
  have hb2:decide (g.n≤x)=false:=decide_eq_false (by omega)
  have ht:bt f g x=aO f g.es g.es.length x:=if_pos hx
  repeat' (first|refine Rn.p ?_|(with_reducible apply And.intro)|((first|(refine hK _ ?_;clear hK K)|with_reducible intro K hK|refine Rs.p ?_|((with_reducible first|apply oP|apply oQ);exact rfl)|refine aa hX hC hP (jd (aO f g.es g.es.length x) hl') rfl rfl rfl (by simp only [go_sem,simprocAttr,hv,hb1,hb2]) rfl ?_);try simp only [go_sem,simprocAttr,hv,hb1,hb2])|((with_reducible refine oD ?_ ?_);kernel_rfl)|((with_reducible intro h);try simp only [go_sem,simprocAttr,hv,hb1,hb2] at h)|omega|intro h)
  simp [ht]
 ·have ht:bt f g x= []:=if_neg hx
  repeat' (first|refine Rn.p ?_|(with_reducible apply And.intro)|((first|(refine hK _ ?_;clear hK K)|with_reducible intro K hK|refine Rs.p ?_|((with_reducible first|apply oP|apply oQ);exact rfl)|refine aa hX hC hP (jd (aO f g.es g.es.length x) hl') rfl rfl rfl (by simp only [go_sem,simprocAttr,ht]) rfl ?_);try simp only [go_sem,simprocAttr,ht])|((with_reducible refine oD ?_ ?_);kernel_rfl)|((with_reducible intro h);try simp only [go_sem,simprocAttr,ht] at h)|omega|intro h)
theorem ig (g:Gr) (hm:aL g=true) (x:Int):Spec Tryz.prog 73 (Args [.d (vw g),eN x]) [] (.d (sI (bt (·.1) g x))) []:=by
 (refine Spec.hd (C:=T.cfg [] []) (rs:= [.t 4]) (T.ai _ _) Tryz.func73 rfl rfl Tryz.ntmps73 Tryz.results73 (by simp [AObj.isNest]) (by simp [AObj.isNest]) (by kernel_rfl) T.mixed fun X hX hP hC aQ cy=> ?_)
 repeat' (first|refine Rn.p ?_|(with_reducible apply And.intro)|((first|(refine hK _ ?_;clear hK K)|with_reducible intro K hK|refine Rs.p ?_|((with_reducible first|apply oP|apply oQ);exact rfl)|refine aa hX hC hP (tD (·.1) g hm x) rfl rfl rfl (by simp only [go_sem,simprocAttr,aq]) rfl ?_);try simp only [go_sem,simprocAttr,aq])|((with_reducible refine oD ?_ ?_);kernel_rfl)|((with_reducible intro h);try simp only [go_sem,simprocAttr,aq] at h)|omega|intro h)
theorem jL (g:Gr) (hm:aL g=true) (x:Int):Spec Tryz.prog 100 (Args [.d (vw g),eN x]) [] (.d (sI (bt (·.2) g x))) []:=by
 (refine Spec.hd (C:=T.cfg [] []) (rs:= [.t 4]) (T.ai _ _) Tryz.func100 rfl rfl Tryz.ntmps100 Tryz.results100 (by simp [AObj.isNest]) (by simp [AObj.isNest]) (by kernel_rfl) T.mixed fun X hX hP hC aQ cy=> ?_)
 repeat' (first|refine Rn.p ?_|(with_reducible apply And.intro)|((first|(refine hK _ ?_;clear hK K)|with_reducible intro K hK|refine Rs.p ?_|((with_reducible first|apply oP|apply oQ);exact rfl)|refine aa hX hC hP (tD (·.2) g hm x) rfl rfl rfl (by simp only [go_sem,simprocAttr,aq]) rfl ?_);try simp only [go_sem,simprocAttr,aq])|((with_reducible refine oD ?_ ?_);kernel_rfl)|((with_reducible intro h);try simp only [go_sem,simprocAttr,aq] at h)|omega|intro h)
end Go.Ab
end
section
namespace Go.Ab
open Go.Proofs
attribute [local congr] ACall.congr gd.congr Nx.congr
set_option maxRecDepth 10000
abbrev It:=Int × Int × Int
def rT (t:It):List D:= [.sc (.int .i64 t.1), .sc (.int .i64 t.2.1), .sc (.int .i64 t.2.2)]
def eT (t:It):AV:= .agg [.d (.sc (.int .i64 t.1)), .d (.sc (.int .i64 t.2.1)), .d (.sc (.int .i64 t.2.2))]
def sT (ts:List It):D:= .sl 3 (ts.map rT)
theorem getD_rT (ps:List It) (i:Nat):(ps.map rT).getD i [.sc (.int .i64 0), .sc (.int .i64 0), .sc (.int .i64 0)]=rT (ps.getD i (0,0,0)):=by
 simp only [List.getD_eq_getElem?_getD,List.getElem?_map]
 cases ps[i]? <;>rfl
theorem rT_eq (t:It):rT t= [.sc (.int .i64 t.1), .sc (.int .i64 t.2.1), .sc (.int .i64 t.2.2)]:=rfl
attribute [go_sem] getD_rT rT_eq eT sT
theorem tE {l:List Int} :∀r∈l.map rI,∀x∈r,∃v,x=D.sc v:=by
 intro r hr x hx
 obtain ⟨y,_,rfl⟩:=List.mem_map.1 hr
 simp only [rI,List.mem_singleton] at hx
 exact ⟨_,hx⟩
theorem tF {l:List It} :∀r∈l.map rT,∀x∈r,∃v,x=D.sc v:=by
 intro r hr x hx
 obtain ⟨y,_,rfl⟩:=List.mem_map.1 hr
 simp only [rT,List.mem_cons,List.not_mem_nil,or_false] at hx
 rcases hx with h|h|h<;>exact ⟨_,h⟩
theorem aU {α:Type} {l:List α} {m:Nat} {d:α} (h:m<l.length):l.getD m d∈l:=by
 rw [List.getD_eq_getElem?_getD,List.getElem?_eq_getElem h];exact List.getElem_mem h
theorem qt (ps:List It) (hl:ps.length≤1000000):
 Spec Tryz.prog 142 (Args [.d (sT ps)]) [] (.ref 10000) [(10000, .tip 92 3 (ps.map rT))]:=by
 (refine Spec.sM (C:=T.cfg [] []) (rs:= [.t 2]) [(10000,7)] (T.ai _ _) Tryz.func142 rfl rfl Tryz.ntmps142 Tryz.results142 (by simp [AObj.isNest]) (by simp [AObj.isNest]) (by first|(simp [look];done)|(simp [asN];done)|(intro l hl;simp only [asN];repeat (rw [if_neg (fun e=>by subst e;simp [look] at hl)]))) (by first|(simp [look];done)|(simp [asN];done)|(intro l hl;simp only [asN];repeat (rw [if_neg (fun e=>by subst e;simp [look] at hl)]))) (by kernel_rfl) T.mixed fun X hX hP hC aQ cy=> ?_)
 repeat' (first|(show cr _ .ret _ _;(try simp only [go_sem,simprocAttr]);refine dn hX 2 7 (.tip 92 3 []) ?_ ?_ (by decide) ⟨92,3,by decide, .inr rfl⟩ ?_;(iterate 2 (focus (simp only [go_sem,simprocAttr];done)));simp only [go_sem,simprocAttr])|refine Rn.p ?_|(with_reducible apply And.intro)|((first|(refine hK _ ?_;clear hK K)|with_reducible intro K hK|refine Rs.p ?_|((with_reducible first|apply oP|apply oQ);exact rfl));try simp only [go_sem,simprocAttr])|((with_reducible refine oD ?_ ?_);kernel_rfl)|((with_reducible intro h);try simp only [go_sem,simprocAttr] at h)|omega|intro h)
 exact h.symm
theorem w9 (ps:List Int) (hl:ps.length≤1000000):
 Spec Tryz.prog 44 (Args [.d (sI ps)]) [] (.ref 10000) [(10000, .tip 3 1 (ps.map rI))]:=by
 (refine Spec.sM (C:=T.cfg [] []) (rs:= [.t 2]) [(10000,7)] (T.ai _ _) Tryz.func44 rfl rfl Tryz.ntmps44 Tryz.results44 (by simp [AObj.isNest]) (by simp [AObj.isNest]) (by first|(simp [look];done)|(simp [asN];done)|(intro l hl;simp only [asN];repeat (rw [if_neg (fun e=>by subst e;simp [look] at hl)]))) (by first|(simp [look];done)|(simp [asN];done)|(intro l hl;simp only [asN];repeat (rw [if_neg (fun e=>by subst e;simp [look] at hl)]))) (by kernel_rfl) T.mixed fun X hX hP hC aQ cy=> ?_)
 repeat' (first|(show cr _ .ret _ _;(try simp only [go_sem,simprocAttr]);refine dn hX 2 7 (.tip 3 1 []) ?_ ?_ (by decide) ⟨3,1,by decide, .inr rfl⟩ ?_;(iterate 2 (focus (simp only [go_sem,simprocAttr];done)));simp only [go_sem,simprocAttr])|refine Rn.p ?_|(with_reducible apply And.intro)|((first|(refine hK _ ?_;clear hK K)|with_reducible intro K hK|refine Rs.p ?_|((with_reducible first|apply oP|apply oQ);exact rfl));try simp only [go_sem,simprocAttr])|((with_reducible refine oD ?_ ?_);kernel_rfl)|((with_reducible intro h);try simp only [go_sem,simprocAttr] at h)|omega|intro h)
 exact h.symm
theorem kT {m:List (Nat × AObj)} (hR:bD m) (f:Nat) (caps:List AV) (g:It→Bool) (ps:List It) (hf:∀p∈ps,Spec Tryz.prog f (Args (eT p::caps)) m (eB (g p)) m) (hl:ps.length≤9223372036854775807):
 Spec Tryz.prog 219 (Args [.d (sT ps), .fn f [] caps]) m (eN (bP g ps)) m:=by
 (refine Spec.hd (C:=T.cfg [] []) (rs:= [.t 4]) (T.ai _ _) Tryz.func219 rfl rfl Tryz.ntmps219 Tryz.results219 (fun p hp=>⟨(bD.low hR p hp).1,bD.nest hR p hp⟩) (fun p hp=>⟨(bD.low hR p hp).2,bD.nest hR p hp⟩) (by kernel_rfl) T.mixed fun X hX hP hC aQ cy=> ?_)
 repeat' (first|refine Rn.p ?_|(with_reducible apply And.intro)|((first|(refine hK _ ?_;clear hK K)|with_reducible intro K hK|refine Rs.p ?_|((with_reducible first|apply oP|apply oQ);exact rfl));try simp only [go_sem,simprocAttr])|((with_reducible refine oD ?_ ?_);kernel_rfl)|((with_reducible intro h);try simp only [go_sem,simprocAttr] at h)|omega|intro h)
 refine ak (fun k:Nat=>k≤ps.length∧∀j,j<k→g (ps.getD j (0,0,0))=false) (fun k=>⟨[(0, .d (sT ps)),(1, .fn f [] caps),(7,eN ps.length),(8,eN k)],m⟩) (fun k=>ps.length - k) 0 (by simp) ?_ ?_
 ·(refine ⟨dr ?_,fun _ _ h=>h⟩;simp [go_sem,simprocAttr])
 rintro k ⟨hk,hg⟩
 rcases Nat.lt_or_ge k ps.length with hlt|hge
 ·have hb:decide ((k:Int)<(ps.length:Int))=true:=decide_eq_true (by omega)
  have hf':=hf (ps.getD k (0,0,0)) (aU hlt)
  repeat' (first|refine Rn.p ?_|(with_reducible apply And.intro)|((first|(refine hK _ ?_;clear hK K)|with_reducible intro K hK|refine Rs.p ?_|((with_reducible first|apply oP|apply oQ);exact rfl)|(first|(refine bf hX hC hP hR (hf') rfl rfl rfl ?_ ?_ rfl rfl ?_;(focus (simp only [go_sem,simprocAttr,hb];done));(focus (first|(intro p hp;exact aM (bD.nd hR) hp)|(simp [go_sem,simprocAttr,hb];done))))|(refine bf hX hC hP hR (hf') rfl rfl rfl ?_ ?_ ?_ rfl ?_;(focus (simp only [go_sem,simprocAttr,hb];done));(focus (first|(intro p hp;exact aM (bD.nd hR) hp)|(simp [go_sem,simprocAttr,hb];done)));(focus (simp [go_sem,simprocAttr,hb];done)))));try simp only [go_sem,simprocAttr,hb])|((with_reducible refine oD ?_ ?_);kernel_rfl)|((with_reducible intro h);try simp only [go_sem,simprocAttr,hb] at h)|omega|intro h)
  ·exact (fA (by omega) hg h).symm
  ·exact fB hR
  ·refine ⟨k+1,⟨by omega,fun j hj=> ?_⟩, ?_,by omega⟩
   ·by_cases hjk:j=k
    ·subst hjk;exact h
    ·exact hg j (by omega)
   ·(refine ⟨dr ?_,fun _ _ h=>h⟩;simp [go_sem,simprocAttr,hb])
 ·have hb:decide ((k:Int)<(ps.length:Int))=false:=decide_eq_false (by omega)
  repeat' (first|refine Rn.p ?_|(with_reducible apply And.intro)|((first|(refine hK _ ?_;clear hK K)|with_reducible intro K hK|refine Rs.p ?_|((with_reducible first|apply oP|apply oQ);exact rfl)|(first|(refine bf hX hC hP hR (hf') rfl rfl rfl ?_ ?_ rfl rfl ?_;(focus (simp only [go_sem,simprocAttr,hb];done));(focus (first|(intro p hp;exact aM (bD.nd hR) hp)|(simp [go_sem,simprocAttr,hb];done))))|(refine bf hX hC hP hR (hf') rfl rfl rfl ?_ ?_ ?_ rfl ?_;(focus (simp only [go_sem,simprocAttr,hb];done));(focus (first|(intro p hp;exact aM (bD.nd hR) hp)|(simp [go_sem,simprocAttr,hb];done)));(focus (simp [go_sem,simprocAttr,hb];done)))));try simp only [go_sem,simprocAttr,hb])|((with_reducible refine oD ?_ ?_);kernel_rfl)|((with_reducible intro h);try simp only [go_sem,simprocAttr,hb] at h)|omega|intro h)
  ·exact (eC (0,0,0) fun j hj=>hg j (by omega)).symm
  ·exact fB hR
theorem ni {m:List (Nat × AObj)} (hR:bD m) (f:Nat) (caps:List AV) (g:It→Bool) (ps:List It) (hf:∀p∈ps,Spec Tryz.prog f (Args (eT p::caps)) m (eB (g p)) m) (hl:ps.length≤9223372036854775807):
 Spec Tryz.prog 205 (Args [.d (sT ps), .fn f [] caps]) m (eB (ps.any g)) m:=by
 (refine Spec.hd (C:=T.cfg [] []) (rs:= [.t 4]) (T.ai _ _) Tryz.func205 rfl rfl Tryz.ntmps205 Tryz.results205 (fun p hp=>⟨(bD.low hR p hp).1,bD.nest hR p hp⟩) (fun p hp=>⟨(bD.low hR p hp).2,bD.nest hR p hp⟩) (by kernel_rfl) T.mixed fun X hX hP hC aQ cy=> ?_)
 repeat' (first|refine Rn.p ?_|(with_reducible apply And.intro)|((first|(refine hK _ ?_;clear hK K)|with_reducible intro K hK|refine Rs.p ?_|((with_reducible first|apply oP|apply oQ);exact rfl)|(first|(refine bf hX hC hP hR (kT hR f caps g ps hf hl) rfl rfl rfl ?_ ?_ rfl rfl ?_;(focus (simp only [go_sem,simprocAttr];done));(focus (first|(intro p hp;exact aM (bD.nd hR) hp)|(simp [go_sem,simprocAttr];done))))|(refine bf hX hC hP hR (kT hR f caps g ps hf hl) rfl rfl rfl ?_ ?_ ?_ rfl ?_;(focus (simp only [go_sem,simprocAttr];done));(focus (first|(intro p hp;exact aM (bD.nd hR) hp)|(simp [go_sem,simprocAttr];done)));(focus (simp [go_sem,simprocAttr];done)))));try simp only [go_sem,simprocAttr])|((with_reducible refine oD ?_ ?_);kernel_rfl)|((with_reducible intro h);try simp only [go_sem,simprocAttr] at h)|omega|intro h)
 ·exact eW g ps
 ·exact fB hR
theorem iL (n:Int) (h0:0<n) (hl:n≤1000000):Spec Tryz.prog 207 (Args [.nil 92,eN n]) [] (.ref 10000) [(10000, .own 92 3 [])]:=by
 (refine Spec.sM (C:=T.cfg [] []) (rs:= [.t 4]) [(10000,25)] (T.ai _ _) Tryz.func207 rfl rfl Tryz.ntmps207 Tryz.results207 (by simp [AObj.isNest]) (by simp [AObj.isNest]) (by first|(simp [look];done)|(simp [asN];done)|(intro l hl;simp only [asN];repeat (rw [if_neg (fun e=>by subst e;simp [look] at hl)]))) (by first|(simp [look];done)|(simp [asN];done)|(intro l hl;simp only [asN];repeat (rw [if_neg (fun e=>by subst e;simp [look] at hl)]))) (by kernel_rfl) T.mixed fun X hX hP hC aQ cy=> ?_)
 repeat' (first|refine Rn.p ?_|(with_reducible apply And.intro)|((first|(refine hK _ ?_;clear hK K)|with_reducible intro K hK|refine Rs.p ?_|((with_reducible first|apply oP|apply oQ);exact rfl));try simp only [go_sem,simprocAttr])|((with_reducible refine oD ?_ ?_);kernel_rfl)|((with_reducible intro h);try simp only [go_sem,simprocAttr] at h)|omega|intro h)
def vT (ls:List (List It)):List (List D):=ls.map fun l=> [sT l]
theorem vT_length {ls:List (List It)} :(vT ls).length=ls.length:=by simp [vT]
theorem q9 {ls:List (List It)} {k:Nat} (h:k<ls.length) (d:List D):(vT ls).getD k d= [sT (ls.getD k [])]:=by
 simp [vT,List.getD_eq_getElem?_getD,List.getElem?_eq_getElem h]
attribute [go_sem] vT_length
theorem tG {α:Type} {ls:List (List α)} {k:Nat} (h:k<ls.length):(ls.take (k+1)).flatten=(ls.take k).flatten++ls.getD k []:=by
 rw [List.take_add_one,List.flatten_append,List.getElem?_eq_getElem h,List.getD_eq_getElem?_getD,List.getElem?_eq_getElem h]
 simp
theorem oI {α:Type} {ls:List (List α)} {k:Nat} :(ls.take k).flatten.length≤ls.flatten.length:=by
 have:=congrArg (fun x=>x.flatten.length) (List.take_append_drop k ls)
 simp only [List.flatten_append,List.length_append] at this
 omega
theorem xb (ls:List (List It)) (hn:ls.length≤1000) (h0:0<ls.flatten.length) (hl:ls.flatten.length≤1000000):Spec Tryz.prog 191 (Args [.d (.sl 1 (vT ls))]) [] (.d (sT ls.flatten)) []:=by
 (refine Spec.hd (C:=T.cfg [] []) (rs:= [.t 2]) (T.ai _ _) Tryz.func191 rfl rfl Tryz.ntmps191 Tryz.results191 (by simp [AObj.isNest]) (by simp [AObj.isNest]) (by kernel_rfl) T.mixed fun X hX hP hC aQ cy=> ?_)
 repeat' (first|refine Rn.p ?_|(with_reducible apply And.intro)|((first|(refine hK _ ?_;clear hK K)|with_reducible intro K hK|refine Rs.p ?_|((with_reducible first|apply oP|apply oQ);exact rfl)|(refine an hX hC hP [(10000,33)] (iL (ls.flatten.length:Int) (by omega) (by omega)) rfl rfl rfl ?_ ?_ ?_ ?_ ?_ ?_ ?_ ?_ ?_ ?_ ?_ ?_ ?_ ?_;(focus (simp only [go_sem,simprocAttr];done));(iterate 12 (focus (simp [go_sem,simprocAttr];done)));try simp only [List.map_cons,List.map_nil]));try simp only [go_sem,simprocAttr])|((with_reducible refine oD ?_ ?_);kernel_rfl)|((with_reducible intro h);try simp only [go_sem,simprocAttr] at h)|omega|intro h)
 refine ak (fun k:Nat=>k≤ls.length) (fun k=>⟨[(0, .d (.sl 1 (vT ls))),(9, .d (.sl 1 (vT ls))),(10,eN ls.length),(11,eN k),(3,eN ((ls.take k).flatten.length))], []⟩) (fun k=>ls.length - k) 0 (by omega) ?_ ?_
 ·(refine Le.of ?_ ?_<;>simp [go_sem,simprocAttr])
 ·rintro k hk
  rcases Nat.lt_or_ge k ls.length with hlt|hge
  ·have hb:decide ((k:Int)<(ls.length:Int))=true:=decide_eq_true (by omega)
   have hv:=q9 hlt
   have hf:=tG hlt
   have Nd:=oI (ls:=ls) (k:=k)
   have JF:=oI (ls:=ls) (k:=k+1)
   rw [hf,List.length_append] at JF
   have hneg:decide (((ls.take k).flatten.length:Int)+((ls.getD k []).length:Int)<0)=false:=decide_eq_false (by omega)
   repeat' (first|refine Rn.p ?_|(with_reducible apply And.intro)|((first|(refine hK _ ?_;clear hK K)|with_reducible intro K hK|refine Rs.p ?_|((with_reducible first|apply oP|apply oQ);exact rfl)|(refine an hX hC hP [(10000,33)] (iL (ls.flatten.length:Int) (by omega) (by omega)) rfl rfl rfl ?_ ?_ ?_ ?_ ?_ ?_ ?_ ?_ ?_ ?_ ?_ ?_ ?_ ?_;(focus (simp only [go_sem,simprocAttr,hb,hv,hneg];done));(iterate 12 (focus (simp [go_sem,simprocAttr,hb,hv,hneg];done)));try simp only [List.map_cons,List.map_nil]));try simp only [go_sem,simprocAttr,hb,hv,hneg])|((with_reducible refine oD ?_ ?_);kernel_rfl)|((with_reducible intro h);try simp only [go_sem,simprocAttr,hb,hv,hneg] at h)|omega|intro h)
   refine ⟨k+1,by omega, ?_,by omega⟩
   simp only [hf]
   refine Le.of ?_ ?_<;>simp [go_sem,simprocAttr,hb,hv,hneg]
  ·have hb:decide ((k:Int)<(ls.length:Int))=false:=decide_eq_false (by omega)
   have ht:ls.take k=ls:=List.take_of_length_le (by omega)
   repeat' (first|refine Rn.p ?_|(with_reducible apply And.intro)|((first|(refine hK _ ?_;clear hK K)|with_reducible intro K hK|refine Rs.p ?_|((with_reducible first|apply oP|apply oQ);exact rfl)|(refine an hX hC hP [(10000,33)] (iL (ls.flatten.length:Int) (by omega) (by omega)) rfl rfl rfl ?_ ?_ ?_ ?_ ?_ ?_ ?_ ?_ ?_ ?_ ?_ ?_ ?_ ?_;(focus (simp only [go_sem,simprocAttr,hb,ht];done));(iterate 12 (focus (simp [go_sem,simprocAttr,hb,ht];done)));try simp only [List.map_cons,List.map_nil]));try simp only [go_sem,simprocAttr,hb,ht])|((with_reducible refine oD ?_ ?_);kernel_rfl)|((with_reducible intro h);try simp only [go_sem,simprocAttr,hb,ht] at h)|omega|intro h)
   refine ak (fun k:Nat=>k≤ls.length) (fun k=>⟨[(25, .d (.sl 1 (vT ls))),(26,eN ls.length),(27,eN k),(6, .ref 33)], [(33, .own 92 3 ((ls.take k).flatten.map rT))]⟩) (fun k=>ls.length - k) 0 (by omega) ?_ ?_
   ·(refine Le.of ?_ ?_<;>simp [go_sem,simprocAttr,hb,ht])
   ·clear hb ht hk hge
    rintro k hk
    rcases Nat.lt_or_ge k ls.length with hlt|hge
    ·have hb:decide ((k:Int)<(ls.length:Int))=true:=decide_eq_true (by omega)
     have hv:=q9 hlt
     have hf:=tG hlt
     have Nd:=oI (ls:=ls) (k:=k)
     have JF:=oI (ls:=ls) (k:=k+1)
     rw [hf,List.length_append] at JF
     repeat' (first|refine Rn.p ?_|(with_reducible apply And.intro)|((first|(refine hK _ ?_;clear hK K)|with_reducible intro K hK|refine Rs.p ?_|((with_reducible first|apply oP|apply oQ);exact rfl)|(refine an hX hC hP [(10000,33)] (iL (ls.flatten.length:Int) (by omega) (by omega)) rfl rfl rfl ?_ ?_ ?_ ?_ ?_ ?_ ?_ ?_ ?_ ?_ ?_ ?_ ?_ ?_;(focus (simp only [go_sem,simprocAttr,hb,hv];done));(iterate 12 (focus (simp [go_sem,simprocAttr,hb,hv];done)));try simp only [List.map_cons,List.map_nil]));try simp only [go_sem,simprocAttr,hb,hv])|((with_reducible refine oD ?_ ?_);kernel_rfl)|((with_reducible intro h);try simp only [go_sem,simprocAttr,hb,hv] at h)|omega|intro h)
     refine ⟨k+1,by omega, ?_,by omega⟩
     simp only [hf]
     refine Le.of ?_ ?_<;>simp [go_sem,simprocAttr,hb,hv]
    ·have hb:decide ((k:Int)<(ls.length:Int))=false:=decide_eq_false (by omega)
     have ht:ls.take k=ls:=List.take_of_length_le (by omega)
     repeat' (first|refine Rn.p ?_|(with_reducible apply And.intro)|((first|(refine hK _ ?_;clear hK K)|with_reducible intro K hK|refine Rs.p ?_|((with_reducible first|apply oP|apply oQ);exact rfl)|(refine an hX hC hP [(10000,33)] (iL (ls.flatten.length:Int) (by omega) (by omega)) rfl rfl rfl ?_ ?_ ?_ ?_ ?_ ?_ ?_ ?_ ?_ ?_ ?_ ?_ ?_ ?_;(focus (simp only [go_sem,simprocAttr,hb,ht];done));(iterate 12 (focus (simp [go_sem,simprocAttr,hb,ht];done)));try simp only [List.map_cons,List.map_nil]));try simp only [go_sem,simprocAttr,hb,ht])|((with_reducible refine oD ?_ ?_);kernel_rfl)|((with_reducible intro h);try simp only [go_sem,simprocAttr,hb,ht] at h)|omega|intro h)
end Go.Ab
end
section
namespace Go.Ab
open Go.Proofs
attribute [local congr] ACall.congr gd.congr Nx.congr
set_option maxRecDepth 10000
set_option maxHeartbeats 1000000
structure Fr where
 row:List It
 pl:List Int
def fM (g:Gr) (f:Fr):D:= .pt [sT f.row,vw g,sI f.pl]
def fe (row:List It) (x:Int):Nat→Int × Int × Int
 |0=>(-1,0,0)
 |k+1=>if (row.getD k (0,0,0)).2.2=x then (if (fe row x k).1= -1 then (k:Int) else (fe row x k).1,(k:Int)+1,(fe row x k).2.2+1) else fe row x k
def bp (row:List It) (x:Int):Int × Int × Int:=fe row x row.length
theorem nj {row:List It} {x:Int} {k:Nat} :fe row x (k+1)=if (row.getD k (0,0,0)).2.2=x then (if (fe row x k).1= -1 then (k:Int) else (fe row x k).1,(k:Int)+1,(fe row x k).2.2+1) else fe row x k:=rfl
theorem dZ {row:List It} {x:Int} :∀k:Nat,(fe row x k=(-1,0,0)∧∀j,j<k→(row.getD j (0,0,0)).2.2≠x)∨
 ∃a b c:Nat,fe row x k=((a:Int),(b:Int),(c:Int))∧a<b∧b≤k∧0<c∧c≤k∧(row.getD a (0,0,0)).2.2=x∧(row.getD (b - 1) (0,0,0)).2.2=x∧(∀j,j<a→(row.getD j (0,0,0)).2.2≠x)∧(∀j,b≤j→j<k→(row.getD j (0,0,0)).2.2≠x)
 |0=> .inl ⟨rfl,fun j hj=>by omega⟩
 |k+1=>by
  rw [nj]
  by_cases hx:(row.getD k (0,0,0)).2.2=x
  ·rw [if_pos hx]
   right
   rcases dZ (row:=row) (x:=x) k with ⟨h1,h2⟩|⟨a,b,c,h1,h2,h3,h4,h5,h6,h7,h8,h9⟩
   ·refine ⟨k,k+1,1,by rw [h1];rfl,by omega,by omega,by omega,by omega,hx,hx,h2,fun j h1 h2=>by omega⟩
   ·refine ⟨a,k+1,c+1,by rw [h1];simp only [Prod.mk.injEq];exact ⟨by rw [if_neg (by omega)],by omega,by omega⟩,by omega,by omega,by omega,by omega,h6,hx,h8,fun j h1 h2=>by omega⟩
  ·rw [if_neg hx]
   rcases dZ (row:=row) (x:=x) k with ⟨h1,h2⟩|⟨a,b,c,h1,h2,h3,h4,h5,h6,h7,h8,h9⟩
   ·refine .inl ⟨h1,fun j hj=> ?_⟩
    by_cases hjk:j=k
    ·subst hjk;exact hx
    ·exact h2 j (by omega)
   ·refine .inr ⟨a,b,c,h1,h2,by omega,h4,by omega,h6,h7,h8,fun j QS Px=> ?_⟩
    by_cases hjk:j=k
    ·subst hjk;exact hx
    ·exact h9 j QS (by omega)
theorem dM (ds:List D) (row:List It) (x:Int) (hl:row.length≤1000000):Spec Tryz.prog 139 (Args [.d (.pt (sT row::ds)),eN x]) [] (.tup [eN (bp row x).1,eN (bp row x).2.1,eN (bp row x).2.2]) []:=by
 (refine Spec.hd (C:=T.cfg [] []) (rs:= [.t 4, .t 5, .t 6]) (T.ai _ _) Tryz.func139 rfl rfl Tryz.ntmps139 Tryz.results139 (by simp [AObj.isNest]) (by simp [AObj.isNest]) (by kernel_rfl) T.mixed fun X hX hP hC aQ cy=> ?_)
 repeat' (first|refine Rn.p ?_|(with_reducible apply And.intro)|((first|(refine hK _ ?_;clear hK K)|with_reducible intro K hK|refine Rs.p ?_|((with_reducible first|apply oP|apply oQ);exact rfl));try simp only [go_sem,simprocAttr,bp])|((with_reducible refine oD ?_ ?_);kernel_rfl)|((with_reducible intro h);try simp only [go_sem,simprocAttr,bp] at h)|omega|intro h)
 refine ak (fun k:Nat=>k≤row.length) (fun k=>⟨[(1,eN x),(12, .d (sT row)),(13,eN row.length),(14,eN k),(4,eN (fe row x k).1),(5,eN (fe row x k).2.1),(6,eN (fe row x k).2.2)], []⟩) (fun k=>row.length - k) 0 (by simp) ?_ ?_
 ·refine Le.of ?_ ?_<;>simp [go_sem,simprocAttr,bp,fe]
 rintro k hk
 rcases Nat.lt_or_ge k row.length with hlt|hge
 ·have hb:decide ((k:Int)<(row.length:Int))=true:=decide_eq_true (by omega)
  have hok:=dZ (row:=row) (x:=x) k
  have hc: -1≤(fe row x k).2.2∧(fe row x k).2.2≤k:=by
   rcases hok with ⟨h1,_⟩|⟨a,b,c,h1,_,_,_,_,_⟩<;>rw [h1]<;>simp only<;>omega
  have dS:=nj (row:=row) (x:=x) (k:=k)
  repeat' (first|refine Rn.p ?_|(with_reducible apply And.intro)|((first|(refine hK _ ?_;clear hK K)|with_reducible intro K hK|refine Rs.p ?_|((with_reducible first|apply oP|apply oQ);exact rfl));try simp only [go_sem,simprocAttr,hb])|((with_reducible refine oD ?_ ?_);kernel_rfl)|((with_reducible intro h);try simp only [go_sem,simprocAttr,hb] at h)|omega|intro h)
  all_goals (first|rw [if_neg (by assumption)] at dS|(rw [if_pos (by assumption)] at dS;first|rw [if_pos (by assumption)] at dS|rw [if_neg (by assumption)] at dS))
  all_goals (refine ⟨k+1,by omega, ?_,by omega⟩;refine Le.of ?_ ?_<;>simp [go_sem,simprocAttr,hb,dS])
 ·have hb:decide ((k:Int)<(row.length:Int))=false:=decide_eq_false (by omega)
  obtain rfl:k=row.length:=by omega
  repeat' (first|refine Rn.p ?_|(with_reducible apply And.intro)|((first|(refine hK _ ?_;clear hK K)|with_reducible intro K hK|refine Rs.p ?_|((with_reducible first|apply oP|apply oQ);exact rfl));try simp only [go_sem,simprocAttr,hb,bp])|((with_reducible refine oD ?_ ?_);kernel_rfl)|((with_reducible intro h);try simp only [go_sem,simprocAttr,hb,bp] at h)|omega|intro h)
def kI (x:Int) (t:It):Bool:=decide (t.2.2≠x)&&decide (t.2.2≠ -1)
def qu (row:List It) (x:Int) (a b:Nat):Bool:= !((row.take b).drop a).any (kI x)
theorem C6 (x:Int):bD [(10000, .rob [eN x])]:=⟨by simp [AObj.ro],by simp [nodupM,look],by simp,by simp [AObj.ids,AV.ids,AV.idss,eN]⟩
theorem AG (x:Int) (t:It):Spec Tryz.prog 206 (Args [eT t, .ptr 10000 0]) [(10000, .rob [eN x])] (eB (kI x t)) [(10000, .rob [eN x])]:=by
 (refine Spec.hd (C:=T.cfg [] []) (rs:= [.t 3]) (T.ai _ _) Tryz.func206 rfl rfl Tryz.ntmps206 Tryz.results206 (fun p hp=>⟨(bD.low (C6 x) p hp).1,bD.nest (C6 x) p hp⟩) (fun p hp=>⟨(bD.low (C6 x) p hp).2,bD.nest (C6 x) p hp⟩) (by kernel_rfl) T.mixed fun X hX hP hC aQ cy=> ?_)
 repeat' (first|refine Rn.p ?_|(with_reducible apply And.intro)|((first|(refine hK _ ?_;clear hK K)|with_reducible intro K hK|refine Rs.p ?_|((with_reducible first|apply oP|apply oQ);exact rfl));try simp only [go_sem,simprocAttr])|((with_reducible refine oD ?_ ?_);kernel_rfl)|((with_reducible intro h);try simp only [go_sem,simprocAttr] at h)|omega|intro h)
 all_goals (simp only [kI];first|exact fB (C6 x)|simp [*])
theorem fY (ds:List D) (row:List It) (x:Int) (a b:Nat) (hab:a≤b) (hb:b≤row.length) (hl:row.length≤1000000):Spec Tryz.prog 190 (Args [.d (.pt (sT row::ds)),eN x,eN a,eN b]) [] (eB (qu row x a b)) []:=by
 have Ec:sT ((row.take b).drop a)= .sl 3 (((row.map rT).take b).drop a):=by simp [sT,List.map_take,List.map_drop]
 have gy:((row.take b).drop a).length≤9223372036854775807:=by simp;omega
 (refine Spec.hd (C:=T.cfg [] []) (rs:= [.t 8]) (T.ai _ _) Tryz.func190 rfl rfl Tryz.ntmps190 Tryz.results190 (by simp [AObj.isNest]) (by simp [AObj.isNest]) (by kernel_rfl) T.mixed fun X hX hP hC aQ cy=> ?_)
 repeat' (first|refine Rn.p ?_|(with_reducible apply And.intro)|((first|(refine hK _ ?_;clear hK K)|with_reducible intro K hK|refine Rs.p ?_|((with_reducible first|apply oP|apply oQ);exact rfl)|(refine bu hX hC hP [(10000,5)] (ni (C6 x) _ [.ptr 10000 0] (kI x) ((row.take b).drop a) (fun t _=>AG x t) gy) rfl rfl rfl ?_ ?_ ?_ ?_ ?_ ?_ rfl rfl ?_ ?_;(focus (simp only [go_sem,simprocAttr,List.map_take,List.map_drop];done));(iterate 6 (focus (simp [go_sem,simprocAttr,List.map_take,List.map_drop];done)));try simp only [List.map_cons,List.map_nil]));try simp only [go_sem,simprocAttr,List.map_take,List.map_drop])|((with_reducible refine oD ?_ ?_);kernel_rfl)|((with_reducible intro h);try simp only [go_sem,simprocAttr,List.map_take,List.map_drop] at h)|omega|intro h)
 rfl
end Go.Ab
end
section
namespace Go.Ab
open Go.Proofs
attribute [local congr] ACall.congr gd.congr Nx.congr
set_option maxRecDepth 10000
set_option maxHeartbeats 2000000
def eL (g:Gr) (f:Fr) (x:Int):Bool:=
 if x<0∨g.n≤x∨x∈f.pl then false else
 decide ((bp f.row x).2.2=((bt (·.2) g x).length:Int))&&(decide ((bt (·.2) g x).length=0)||qu f.row x (bp f.row x).1.toNat (bp f.row x).2.1.toNat)
theorem AH {f:Edge→Int} {g:Gr} {x:Int} :(bt f g x).length≤g.es.length:=by
 unfold bt
 split
 ·exact jJ
 ·simp
theorem fZ (g:Gr) (hm:aL g=true) (f:Fr) (x:Int) (hr:f.row.length≤1000000) (cx:f.pl.length≤1000000):Spec Tryz.prog 138 (Args [.d (fM g f),eN x]) [] (eB (eL g f x)) []:=by
 have hp:f.pl.length≤9223372036854775807:=by omega
 have hn:=aG hm
 unfold fM
 by_cases hx:x<0∨g.n≤x∨x∈f.pl
 ·have hR:eL g f x=false:=if_pos hx
  (refine Spec.hd (C:=T.cfg [] []) (rs:= [.t 4]) (T.ai _ _) Tryz.func138 rfl rfl Tryz.ntmps138 Tryz.results138 (by simp [AObj.isNest]) (by simp [AObj.isNest]) (by kernel_rfl) T.mixed fun X hX hP hC aQ cy=> ?_)
  by_cases h1:x<0
  ·have hb1:decide (x<0)=true:=decide_eq_true h1
   repeat' (first|refine Rn.p ?_|(with_reducible apply And.intro)|((first|(refine hK _ ?_;clear hK K)|with_reducible intro K hK|refine Rs.p ?_|((with_reducible first|apply oP|apply oQ);exact rfl)|refine aa hX hC hP (jL g hm x) rfl rfl rfl (by simp only [go_sem,simprocAttr,aq,hR,hb1]) rfl ?_|refine aa hX hC hP (aW f.pl x hp) rfl rfl rfl (by simp only [go_sem,simprocAttr,aq,hR,hb1]) rfl ?_|refine aa hX hC hP (dM [vw g,sI f.pl] f.row x hr) rfl rfl rfl (by simp only [go_sem,simprocAttr,aq,hR,hb1]) rfl ?_|refine aa hX hC hP (fY [vw g,sI f.pl] f.row x a b hab nK hr) rfl rfl rfl (by simp only [go_sem,simprocAttr,aq,hR,hb1]) rfl ?_);try simp only [go_sem,simprocAttr,aq,hR,hb1])|((with_reducible refine oD ?_ ?_);kernel_rfl)|((with_reducible intro h);try simp only [go_sem,simprocAttr,aq,hR,hb1] at h)|omega|intro h)
  have hb1:decide (x<0)=false:=decide_eq_false h1
  by_cases h2:g.n≤x
  ·have hb2:decide (g.n≤x)=true:=decide_eq_true h2
   repeat' (first|refine Rn.p ?_|(with_reducible apply And.intro)|((first|(refine hK _ ?_;clear hK K)|with_reducible intro K hK|refine Rs.p ?_|((with_reducible first|apply oP|apply oQ);exact rfl)|refine aa hX hC hP (jL g hm x) rfl rfl rfl (by simp only [go_sem,simprocAttr,aq,hR,hb1,hb2]) rfl ?_|refine aa hX hC hP (aW f.pl x hp) rfl rfl rfl (by simp only [go_sem,simprocAttr,aq,hR,hb1,hb2]) rfl ?_|refine aa hX hC hP (dM [vw g,sI f.pl] f.row x hr) rfl rfl rfl (by simp only [go_sem,simprocAttr,aq,hR,hb1,hb2]) rfl ?_|refine aa hX hC hP (fY [vw g,sI f.pl] f.row x a b hab nK hr) rfl rfl rfl (by simp only [go_sem,simprocAttr,aq,hR,hb1,hb2]) rfl ?_);try simp only [go_sem,simprocAttr,aq,hR,hb1,hb2])|((with_reducible refine oD ?_ ?_);kernel_rfl)|((with_reducible intro h);try simp only [go_sem,simprocAttr,aq,hR,hb1,hb2] at h)|omega|intro h)
  have hb2:decide (g.n≤x)=false:=decide_eq_false h2
  have h3:x∈f.pl:=by rcases hx with h|h|h;exact absurd h h1;exact absurd h h2;exact h
  have hb3:decide (x∈f.pl)=true:=decide_eq_true h3
  repeat' (first|refine Rn.p ?_|(with_reducible apply And.intro)|((first|(refine hK _ ?_;clear hK K)|with_reducible intro K hK|refine Rs.p ?_|((with_reducible first|apply oP|apply oQ);exact rfl)|refine aa hX hC hP (jL g hm x) rfl rfl rfl (by simp only [go_sem,simprocAttr,aq,hR,hb1,hb2,hb3]) rfl ?_|refine aa hX hC hP (aW f.pl x hp) rfl rfl rfl (by simp only [go_sem,simprocAttr,aq,hR,hb1,hb2,hb3]) rfl ?_|refine aa hX hC hP (dM [vw g,sI f.pl] f.row x hr) rfl rfl rfl (by simp only [go_sem,simprocAttr,aq,hR,hb1,hb2,hb3]) rfl ?_|refine aa hX hC hP (fY [vw g,sI f.pl] f.row x a b hab nK hr) rfl rfl rfl (by simp only [go_sem,simprocAttr,aq,hR,hb1,hb2,hb3]) rfl ?_);try simp only [go_sem,simprocAttr,aq,hR,hb1,hb2,hb3])|((with_reducible refine oD ?_ ?_);kernel_rfl)|((with_reducible intro h);try simp only [go_sem,simprocAttr,aq,hR,hb1,hb2,hb3] at h)|omega|intro h)
 ·have hb1:decide (x<0)=false:=decide_eq_false fun h=>hx (.inl h)
  have hb2:decide (g.n≤x)=false:=decide_eq_false fun h=>hx (.inr (.inl h))
  have hb3:decide (x∈f.pl)=false:=decide_eq_false fun h=>hx (.inr (.inr h))
  have hR:eL g f x=(decide ((bp f.row x).2.2=((bt (·.2) g x).length:Int))&&(decide ((bt (·.2) g x).length=0)||qu f.row x (bp f.row x).1.toNat (bp f.row x).2.1.toNat)):=if_neg hx
  by_cases h4:(bp f.row x).2.2=((bt (·.2) g x).length:Int)
  ·have hb4:decide ((bp f.row x).2.2=((bt (·.2) g x).length:Int))=true:=decide_eq_true h4
   by_cases h5:(bt (·.2) g x).length=0
   ·have C7:decide (((bt (·.2) g x).length:Int)=0)=true:=decide_eq_true (by omega)
    rw [hb4,decide_eq_true h5] at hR
    (refine Spec.hd (C:=T.cfg [] []) (rs:= [.t 4]) (T.ai _ _) Tryz.func138 rfl rfl Tryz.ntmps138 Tryz.results138 (by simp [AObj.isNest]) (by simp [AObj.isNest]) (by kernel_rfl) T.mixed fun X hX hP hC aQ cy=> ?_)
    repeat' (first|refine Rn.p ?_|(with_reducible apply And.intro)|((first|(refine hK _ ?_;clear hK K)|with_reducible intro K hK|refine Rs.p ?_|((with_reducible first|apply oP|apply oQ);exact rfl)|refine aa hX hC hP (jL g hm x) rfl rfl rfl (by simp only [go_sem,simprocAttr,aq,hR,hb1,hb2,hb3,hb4,C7]) rfl ?_|refine aa hX hC hP (aW f.pl x hp) rfl rfl rfl (by simp only [go_sem,simprocAttr,aq,hR,hb1,hb2,hb3,hb4,C7]) rfl ?_|refine aa hX hC hP (dM [vw g,sI f.pl] f.row x hr) rfl rfl rfl (by simp only [go_sem,simprocAttr,aq,hR,hb1,hb2,hb3,hb4,C7]) rfl ?_|refine aa hX hC hP (fY [vw g,sI f.pl] f.row x a b hab nK hr) rfl rfl rfl (by simp only [go_sem,simprocAttr,aq,hR,hb1,hb2,hb3,hb4,C7]) rfl ?_);try simp only [go_sem,simprocAttr,aq,hR,hb1,hb2,hb3,hb4,C7])|((with_reducible refine oD ?_ ?_);kernel_rfl)|((with_reducible intro h);try simp only [go_sem,simprocAttr,aq,hR,hb1,hb2,hb3,hb4,C7] at h)|omega|intro h)
   ·have C7:decide (((bt (·.2) g x).length:Int)=0)=false:=decide_eq_false (by omega)
    rcases dZ (row:=f.row) (x:=x) f.row.length with ⟨h6,_⟩|⟨a,b,c,h6,hab,nK,_⟩
    ·exfalso
     have:(bp f.row x).2.2=0:=by unfold bp;rw [h6]
     omega
    ·have hsp:bp f.row x=((a:Int),(b:Int),(c:Int)):=h6
     have hab:a≤b:=by omega
     rw [hb4,decide_eq_false h5,hsp] at hR
     simp only [Bool.true_and,Bool.false_or,Int.toNat_natCast] at hR
     rw [hsp] at hb4
     (refine Spec.hd (C:=T.cfg [] []) (rs:= [.t 4]) (T.ai _ _) Tryz.func138 rfl rfl Tryz.ntmps138 Tryz.results138 (by simp [AObj.isNest]) (by simp [AObj.isNest]) (by kernel_rfl) T.mixed fun X hX hP hC aQ cy=> ?_)
     repeat' (first|refine Rn.p ?_|(with_reducible apply And.intro)|((first|(refine hK _ ?_;clear hK K)|with_reducible intro K hK|refine Rs.p ?_|((with_reducible first|apply oP|apply oQ);exact rfl)|refine aa hX hC hP (jL g hm x) rfl rfl rfl (by simp only [go_sem,simprocAttr,aq,hR,hb1,hb2,hb3,hb4,C7,hsp]) rfl ?_|refine aa hX hC hP (aW f.pl x hp) rfl rfl rfl (by simp only [go_sem,simprocAttr,aq,hR,hb1,hb2,hb3,hb4,C7,hsp]) rfl ?_|refine aa hX hC hP (dM [vw g,sI f.pl] f.row x hr) rfl rfl rfl (by simp only [go_sem,simprocAttr,aq,hR,hb1,hb2,hb3,hb4,C7,hsp]) rfl ?_|refine aa hX hC hP (fY [vw g,sI f.pl] f.row x a b hab nK hr) rfl rfl rfl (by simp only [go_sem,simprocAttr,aq,hR,hb1,hb2,hb3,hb4,C7,hsp]) rfl ?_);try simp only [go_sem,simprocAttr,aq,hR,hb1,hb2,hb3,hb4,C7,hsp])|((with_reducible refine oD ?_ ?_);kernel_rfl)|((with_reducible intro h);try simp only [go_sem,simprocAttr,aq,hR,hb1,hb2,hb3,hb4,C7,hsp] at h)|omega|intro h)
  ·have hb4:decide ((bp f.row x).2.2=((bt (·.2) g x).length:Int))=false:=decide_eq_false h4
   rw [hb4,Bool.false_and] at hR
   (refine Spec.hd (C:=T.cfg [] []) (rs:= [.t 4]) (T.ai _ _) Tryz.func138 rfl rfl Tryz.ntmps138 Tryz.results138 (by simp [AObj.isNest]) (by simp [AObj.isNest]) (by kernel_rfl) T.mixed fun X hX hP hC aQ cy=> ?_)
   repeat' (first|refine Rn.p ?_|(with_reducible apply And.intro)|((first|(refine hK _ ?_;clear hK K)|with_reducible intro K hK|refine Rs.p ?_|((with_reducible first|apply oP|apply oQ);exact rfl)|refine aa hX hC hP (jL g hm x) rfl rfl rfl (by simp only [go_sem,simprocAttr,aq,hR,hb1,hb2,hb3,hb4]) rfl ?_|refine aa hX hC hP (aW f.pl x hp) rfl rfl rfl (by simp only [go_sem,simprocAttr,aq,hR,hb1,hb2,hb3,hb4]) rfl ?_|refine aa hX hC hP (dM [vw g,sI f.pl] f.row x hr) rfl rfl rfl (by simp only [go_sem,simprocAttr,aq,hR,hb1,hb2,hb3,hb4]) rfl ?_|refine aa hX hC hP (fY [vw g,sI f.pl] f.row x a b hab nK hr) rfl rfl rfl (by simp only [go_sem,simprocAttr,aq,hR,hb1,hb2,hb3,hb4]) rfl ?_);try simp only [go_sem,simprocAttr,aq,hR,hb1,hb2,hb3,hb4])|((with_reducible refine oD ?_ ?_);kernel_rfl)|((with_reducible intro h);try simp only [go_sem,simprocAttr,aq,hR,hb1,hb2,hb3,hb4] at h)|omega|intro h)
theorem C8 (ds:List D) (row:List It) (hr:row.length≤1000000):Spec Tryz.prog 90 (Args [.d (.pt (sT row::ds))]) [] (.ref 10000) [(10000, .tip 92 3 (row.map rT))]:=by
 (refine Spec.sM (C:=T.cfg [] []) (rs:= [.t 2]) [(10000,7)] (T.ai _ _) Tryz.func90 rfl rfl Tryz.ntmps90 Tryz.results90 (by simp [AObj.isNest]) (by simp [AObj.isNest]) (by first|(simp [look];done)|(simp [asN];done)|(intro l hl;simp only [asN];repeat (rw [if_neg (fun e=>by subst e;simp [look] at hl)]))) (by first|(simp [look];done)|(simp [asN];done)|(intro l hl;simp only [asN];repeat (rw [if_neg (fun e=>by subst e;simp [look] at hl)]))) (by kernel_rfl) T.mixed fun X hX hP hC aQ cy=> ?_)
 repeat' (first|refine Rn.p ?_|(with_reducible apply And.intro)|((first|(refine hK _ ?_;clear hK K)|with_reducible intro K hK|refine Rs.p ?_|((with_reducible first|apply oP|apply oQ);exact rfl)|(refine an hX hC hP [(10000,7)] (qt row hr) rfl rfl rfl ?_ ?_ ?_ ?_ ?_ ?_ ?_ ?_ ?_ ?_ ?_ ?_ ?_ ?_;(focus (simp only [go_sem,simprocAttr];done));(iterate 12 (focus (simp [go_sem,simprocAttr];done)));try simp only [List.map_cons,List.map_nil]));try simp only [go_sem,simprocAttr])|((with_reducible refine oD ?_ ?_);kernel_rfl)|((with_reducible intro h);try simp only [go_sem,simprocAttr] at h)|omega|intro h)
end Go.Ab
end
