/- A part of the proof. -/
import Derived.WalkKit
import Derived.Deep.QuietTactic
import Derived.Tactics2
import Derived.LoopN
import Derived.LoopTactic
import Derived.Laws.IdiomRangeMap
import Derived.Test.YtchjjbfhlchpfaaGreatL7P14
set_option linter.unusedSimpArgs false
set_option linter.unusedVariables false
section
namespace Go.Ab
open Go.Proofs Go.RowKit
set_option maxRecDepth 10000
set_option maxHeartbeats 4000000
def Ir:Value→Nat
 | .int _ k=>k.toNat
 |_=>0
def Is:Value→Int
 | .int _ v=>v
 |_=>0
def eo (T:Nat→Int) (x:Int) (e:Nat) (k:Nat) (v:Int):Bool:=decide (v=x)&&decide (k≠e)&&decide (T k=T e)
def iJ {α:Type} (P:Program) (s:Sem α):Prop:=∀W v W',s.run P W= .ok v W'→W'.tape=W.tape
theorem iJ.bind {α β:Type} {P:Program} {s:Sem α} {k:α→Sem β} (h:iJ P s) (hk:∀a,iJ P (k a)):iJ P (s>>= k):=by
 intro W v W' e
 rw [Sem.run_bind] at e
 cases hs:s.run P W with
 |ok a W1=>
  rw [hs] at e
  exact (hk a W1 v W' e).trans (h W a W1 hs)
 |halt hh W1=>rw [hs] at e;cases e
theorem Hg {α:Type} {P:Program} (a:α):iJ P (pure a:Sem α):=by
 intro W v W' e
 cases e;rfl
theorem Hh {α:Type} {P:Program} (h:Halt):iJ P (.halt h:Sem α):=by
 intro W v W' e
 cases e
theorem Jg {P:Program} (r:Nat):iJ P (getObj r):=by
 intro W v W' e
 simp only [getObj,Sem.run] at e
 split at e
 ·cases e
 ·cases e;rfl
 ·cases e
theorem Jh {P:Program} (r:Nat) (o:Obj):iJ P (setObj r o):=by
 intro W v W' e
 simp only [setObj,Sem.run] at e
 split at e
 ·cases e
 ·cases e;rfl
 ·cases e
theorem CR {P:Program} (q:Question):iJ P (choose q):=by
 intro W v W' e
 simp only [choose,Sem.run] at e
 split at e
 ·cases e;rfl
 ·cases e;rfl
theorem CS {P:Program} (it:Value) (b:Bool) (ty:TypeId):iJ P (Instr.next it b ty):=by
 unfold Instr.next
 repeat' (first|exact Hg _|exact Hh _|exact Jg _|exact Jh _ _|exact CR _|(refine iJ.bind ?_ fun _=> ?_)|split)
theorem AA (B bm be ne ce:Nat) (es:Array MapEntry) (T:Nat→Int) (x:Int) (e:Nat) (w:World) (hB:B<w.heap.size) (pg:be<w.heap.size)
 (h1:w.cell? ⟨B,1,none⟩=some (.slice (some ⟨be,0,none⟩) ne ce)) (h4:w.cell? ⟨B,4,none⟩=some (.map (some bm)))
 (hb:w.heap[bm]? =some (.map es es.size)) (hT:∀i,i<ne→w.cell? ⟨be,i*2,none⟩=some (.int .i64 (T i))) (he:e<ne) (hne:ne≤1000)
 (hst:(∀y∈es.toList,y.born<es.size)∧(es.toList.map (·.born)).Nodup) (hE:∀y∈es.toList,∃(k:Nat) (v:Int),y.key= .int .i64 k∧y.val= .int .i64 v∧k<ne):
 Calls Tryz.prog 167 #[.pointer (some ⟨B,0,none⟩), .int .i64 x, .int .i64 e] w fun en w'=>en= .returned (.bool (es.toList.any fun y=>eo T x e (Ir y.key) (Is y.val)))∧
  ∃(w1:World) (seen:Array Nat),(w1.Alike w∧w1.tape=w.tape)∧w'=w1.alloc (.mapIter (some bm) es.size seen es.size):=by
 have Od:=run_range_map (P:=Tryz.prog) w 69 3 3 bm es es.size Tryz.underlying69 hb
 go_enter Tryz.func167,Tryz.ntmps167
 go_wp2
 go_loopw [] (fun w'=>∃(w1:World) (seen:Array Nat),(w1.Alike w∧w1.tape=w.tape)∧w'=w1.alloc (.mapIter (some bm) es.size seen es.size)∧∀y∈es.toList,seen.contains y.born=true→eo T x e (Ir y.key) (Is y.val)=false) (fun w'=>(leftOf es (w'.iterSeen w.heap.size)).size)
 case atStart=>exact ⟨w, #[],⟨⟨rfl,rfl,rfl⟩,rfl⟩,rfl,fun y _ h=>by simp at h⟩
 case round=>
  obtain ⟨w1,seen,⟨xx,MD⟩,rfl,hno⟩:=hrel
  have hsz:w1.heap.size=w.heap.size:=by rw [xx.1]
  have hb1:w1.heap[bm]? =some (.map es es.size):=by rw [xx.1];exact hb
  have law:=run_next_map (P:=Tryz.prog) w1 0 bm es.size es.size seen es es.size hb1 hst.1 (Nat.le_refl _)
  rw [hsz] at law
  rcases law with ⟨h0,hrun⟩|⟨y,hy,w2,EZ,hrun⟩
  ·have cn:∀ty,(Instr.next (.pointer (some ⟨w.heap.size,0,none⟩)) false ty).run Tryz.prog (w1.alloc (.mapIter (some bm) es.size seen es.size))=_:=fun _=>hrun
   go_wp2
   go_ret
   have hf:(es.toList.any fun y=>eo T x e (Ir y.key) (Is y.val))=false:=by
    rw [List.any_eq_false]
    intro y hy
    rw [hno y hy (all_seen es seen h0 y hy)];decide
   rw [hf]
   exact ⟨rfl,w1,seen,⟨xx,MD⟩,rfl⟩
  ·obtain ⟨k,v,hkey,hval,hk⟩:=hE y (mem_left hy).1
   rw [hkey,hval] at hrun
   have cn:∀ty,(Instr.next (.pointer (some ⟨w.heap.size,0,none⟩)) false ty).run Tryz.prog (w1.alloc (.mapIter (some bm) es.size seen es.size))=_:=fun _=>hrun
   have Ji:w2.heap.size=w.heap.size:=by rw [EZ.1,xx.1]
   have hb2:w2.heap[bm]? =some (.map es es.size):=by rw [EZ.1];exact hb1
   have Q5:=run_entry_map (P:=Tryz.prog) w2 bm es.size seen es es.size y hb2 (mem_left hy).1 hst.2
   rw [Ji,hkey,hval] at Q5
   have Hj:w2.tape=w.tape:=(CS _ _ _ _ _ _ hrun).trans MD
   have E1:w2.Alike w:=⟨EZ.1.trans xx.1,EZ.2.1.trans xx.2.1,EZ.2.2.trans xx.2.2⟩
   have hc:∀(o:Obj) (a:Addr),a.block<w.heap.size→(w2.alloc o).cell? a=w.cell? a:=fun o a ha=>by
    have:(w2.alloc o).heap[a.block]? =w.heap[a.block]? :=by rw [mu _ _ (by rw [Ji];exact ha),E1.1]
    simp only [World.cell?,this]
   have g1:∀s,(w2.alloc (.mapIter (some bm) es.size s es.size)).cell? ⟨B,1,none⟩=some (.slice (some ⟨be,0,none⟩) ne ce):=fun s=>(hc _ _ hB).trans h1
   have g2:∀s,(w2.alloc (.mapIter (some bm) es.size s es.size)).cell? ⟨be,k*2,none⟩=some (.int .i64 (T k)):=fun s=>(hc _ _ pg).trans (hT k hk)
   have g3:∀s,(w2.alloc (.mapIter (some bm) es.size s es.size)).cell? ⟨be,e*2,none⟩=some (.int .i64 (T e)):=fun s=>(hc _ _ pg).trans (hT e he)
   have Pm:eo T x e (Ir y.key) (Is y.val)=eo T x e k v:=by rw [hkey,hval];simp [Ir,Is]
   have AB:eo T x e k v=false→∀z∈es.toList,(seen.push y.born).contains z.born=true→eo T x e (Ir z.key) (Is z.val)=false:=fun hm z hz Pn=>by
    rw [contains_push] at Pn
    rcases Bool.or_eq_true _ _ ▸ Pn with h1|h1
    ·exact hno z hz h1
    ·have:z=y:=born_inj hst.2 hz (mem_left hy).1 (beq_iff_eq.1 h1)
     subst this
     rw [Pm];exact hm
   have hyes:eo T x e k v=true→(es.toList.any fun y=>eo T x e (Ir y.key) (Is y.val))=true:=fun hm=>List.any_eq_true.2 ⟨y,(mem_left hy).1,by rw [Pm];exact hm⟩
   have hi2:∀n,((w2.alloc (.mapIter (some bm) es.size (seen.push y.born) es.size)).drewN n).iterSeen w.heap.size=seen.push y.born:=fun n=>by
    show (w2.alloc _).iterSeen _=_
    rw [← Ji,World.iterSeen_alloc]
   have hi1:(w1.alloc (.mapIter (some bm) es.size seen es.size)).iterSeen w.heap.size=seen:=by rw [← hsz,World.iterSeen_alloc]
   clear hE hT hno hc h1 h4 hst
   by_cases c1:v=x
   ·by_cases c2:k=e
    ·have hm:eo T x e k v=false:=by simp [eo,c1,c2]
     subst c1 c2
     go_wp2
     go_quiet (fail)
     go_wp2
     go_roundw
     case rel=>exact ⟨w2.drewN nq,seen.push y.born,⟨E1,Hj⟩,rfl,AB hm⟩
     case measure=>
      rw [hi2,hi1]
      exact left_shrinks es seen y hy
    ·have SQ:¬((k:Int)=(e:Int)):=by omega
     by_cases c3:T k=T e
     ·have hm:eo T x e k v=true:=by simp [eo,c1,c2,c3]
      go_wp2
      go_quiet (fail)
      go_wp2
      go_ret
      rw [hyes hm]
      exact ⟨rfl,w2.drewN nq,_,⟨E1,Hj⟩,rfl⟩
     ·have hm:eo T x e k v=false:=by simp [eo,c3]
      have b3:(T k==T e)=false:=by simpa using c3
      go_wp2
      go_quiet (fail)
      go_wp2
      go_roundw
      case rel=>exact ⟨w2.drewN nq,seen.push y.born,⟨E1,Hj⟩,rfl,AB hm⟩
      case measure=>
       rw [hi2,hi1]
       exact left_shrinks es seen y hy
   ·have hm:eo T x e k v=false:=by simp [eo,c1]
    have b1:(v==x)=false:=by simpa using c1
    clear c1
    go_wp2
    go_quiet (fail)
    go_wp2
    go_roundw
    case rel=>exact ⟨w2.drewN nq,seen.push y.born,⟨E1,Hj⟩,rfl,AB hm⟩
    case measure=>
     rw [hi2,hi1]
     exact left_shrinks es seen y hy
end Go.Ab
end
section
namespace Go.Ab
set_option maxRecDepth 10000
structure PS where
 m:Nat
 src:Int
 LB:Int
 tl:Int→Int
 hd:Int→Int
 ins:Int→List Int
 outs:Int→List Int
 Oe:Int→Nat
 Row:Nat→List Int→List Int→Prop
 k0:Nat
def PS.E (P:PS) (e:Int):Prop:=0≤e∧e<P.m
structure PS.Ok (P:PS):Prop where
 yZ:∀x e,e∈P.outs x↔P.E e∧P.tl e=x
 kC:∀x e,e∈P.ins x↔P.E e∧P.hd e=x
 rH:∀x,(P.outs x).Nodup
 E3:∀x,(P.ins x).Nodup
 E4:∀e,P.E e→P.Oe (P.tl e)<P.Oe (P.hd e)
 Jj:P.Row P.k0 (P.outs P.src) [P.src]
 AD:∀ {k W D},P.Row k W D→W.Nodup
 rJ:∀ {k W D},P.Row k W D→∀e,e∈W↔P.E e∧P.tl e∈D∧P.hd e∉D
 tq:∀ {k W D},P.Row (k+1) W D→∃x A C,W=A++P.ins x++C∧P.ins x≠ []
 row_step:∀ {k W D x A C},P.Row k W D→W=A++P.ins x++C→P.ins x≠ []→∃k',k=k'+1∧P.Row k' (A++P.outs x++C) (D++ [x])
 xy:∀ {W D},P.Row 0 W D→∀e,P.E e→P.hd e∈D
 BG:∀ {k W D},P.Row k W D→P.src∈D
 BH:∀ {k W D},P.Row k W D→P.LB∈D→k=0
 AE:P.ins P.src= []
 BI:∀x,P.ins x≠ []→(P.outs x= []↔x=P.LB)
theorem pN {l:List Int} :l.reverse.Nodup↔l.Nodup:=(List.reverse_perm l).nodup_iff
def PS.DN (P:PS):PS:= {P with ins:=fun x=>(P.ins x).reverse,outs:=fun x=>(P.outs x).reverse,Row:=fun k W D=>P.Row k W.reverse D}
theorem PS.Ok.DN {P:PS} (h:P.Ok):P.DN.Ok:=
 {yZ:=fun x e=>by show e∈(P.outs x).reverse↔_;rw [List.mem_reverse];exact h.yZ x e
  kC:=fun x e=>by show e∈(P.ins x).reverse↔_;rw [List.mem_reverse];exact h.kC x e
  rH:=fun x=>by show (P.outs x).reverse.Nodup;exact pN.2 (h.rH x)
  E3:=fun x=>by show (P.ins x).reverse.Nodup;exact pN.2 (h.E3 x)
  E4:=h.E4
  Jj:=by show P.Row _ (P.outs P.src).reverse.reverse _;rw [List.reverse_reverse];exact h.Jj
  AD:=fun {k W D} hr=>pN.1 (h.AD (show P.Row k W.reverse D from hr))
  rJ:=fun {k W D} hr e=>by
   have:=h.rJ (show P.Row k W.reverse D from hr) e
   rw [List.mem_reverse] at this
   exact this
  tq:=fun {k W D} hr=>by
   obtain ⟨x,A,C,h1,h2⟩:=h.tq (show P.Row (k+1) W.reverse D from hr)
   refine ⟨x,C.reverse,A.reverse, ?_,fun h3=>h2 (List.reverse_eq_nil_iff.1 h3)⟩
   show W=C.reverse++(P.ins x).reverse++A.reverse
   rw [← List.reverse_reverse W,h1]
   simp
  row_step:=fun {k W D x A C} hr h1 h2=>by
   have h1:W=A++(P.ins x).reverse++C:=h1
   obtain ⟨k',h3,h4⟩:=h.row_step (x:=x) (A:=C.reverse) (C:=A.reverse) (show P.Row k W.reverse D from hr) (by rw [h1];simp) (fun h3=>h2 (List.reverse_eq_nil_iff.2 h3))
   refine ⟨k',h3, ?_⟩
   show P.Row k' (A++(P.outs x).reverse++C).reverse (D++ [x])
   have e:(A++(P.outs x).reverse++C).reverse=C.reverse++P.outs x++A.reverse:=by simp
   rw [e];exact h4
  xy:=fun {W D} hr=>h.xy (show P.Row 0 W.reverse D from hr)
  BG:=fun {k W D} hr=>h.BG (show P.Row k W.reverse D from hr)
  BH:=fun {k W D} hr=>h.BH (show P.Row k W.reverse D from hr)
  AE:=by show (P.ins P.src).reverse= [];rw [h.AE];rfl
  BI:=fun x hx=>by
   have h2:P.ins x≠ []:=fun h3=>hx (by show (P.ins x).reverse= [];rw [h3];rfl)
   show (P.outs x).reverse= []↔_
   rw [List.reverse_eq_nil_iff];exact h.BI x h2}
structure MS where
 A:List Int
 B:List Int
 D:List Int
def PS.next (P:PS) (s:MS):MS:=
 match s.B with
 | []=>s
 |e::B=>if P.ins (P.hd e)<:+s.A++ [e] then ⟨(s.A++ [e]).take (s.A.length+1 - (P.ins (P.hd e)).length),P.outs (P.hd e)++B,s.D++ [P.hd e]⟩ else ⟨s.A++ [e],B,s.D⟩
def PS.st (P:PS):Nat→MS
 |0=>⟨[],P.outs P.src, [P.src]⟩
 |j+1=>P.next (P.st j)
def PS.sh (P:PS) (j:Nat):Int:=(P.st j).B.headD 0
def PS.DO (P:PS) (j:Nat):List Int:=(List.range j).map P.sh
variable {P:PS}
theorem PS.tu {j:Nat} :P.DO (j+1)=P.DO j++ [P.sh j]:=by simp [PS.DO,List.range_succ]
theorem PS.Hl {j:Nat} :(P.DO j).length=j:=by simp [PS.DO]
structure PS.Inv (P:PS) (j:Nat) (s:MS):Prop where
 row:∃k,P.Row k (s.A++s.B) s.D
 no:∀h,P.ins h≠ []→¬P.ins h<:+:s.A
 nd:(P.DO j).Nodup
 sh:∀e,e∈P.DO j↔P.E e∧(e∈s.A∨P.hd e∈s.D)
 len:j≤P.m
theorem mw:∀ {l m:List Int},l.Nodup→(∀i∈l,i∈m)→l.length≤m.length
 | [],_,_,_=>Nat.zero_le _
 |a::l,m,hn,h=>by
  rw [List.nodup_cons] at hn
  have ha:=h a (List.mem_cons_self ..)
  have:=mw (m:=m.erase a) hn.2 fun i hi=>(List.mem_erase_of_ne (show i≠a from fun e=>hn.1 (by rw [← e];exact hi))).2 (h i (List.mem_cons_of_mem _ hi))
  rw [List.length_erase_of_mem ha] at this
  have:=List.length_pos_of_mem ha
  rw [List.length_cons];omega
theorem CT {l:List Int} {m:Nat} (hall:∀e:Int,0≤e→e<m→e∈l):m≤l.length:=by
 have:=mw (l:=(List.range m).map Int.ofNat) (m:=l) (List.pairwise_map.2 (List.nodup_range.imp fun hab e=>hab (Int.ofNat.inj e))) fun x hx=>by
  obtain ⟨a,ha,rfl⟩:=List.mem_map.1 hx
  have:=List.mem_range.1 ha
  exact hall _ (by simp) (by simp;omega)
 simpa using this
theorem y3 {X Y:List Int} (h:X<:+Y):Y=Y.take (Y.length - X.length)++X:=by
 obtain ⟨t,rfl⟩:=h
 simp
theorem PS.Inv.more (h:P.Ok) {j:Nat} {s:MS} (hi:P.Inv j s) (hj:j<P.m):∃e B,s.B=e::B:=by
 cases hB:s.B with
 |cons e B=>exact ⟨e,B,rfl⟩
 |nil=>
  exfalso
  obtain ⟨k,hr⟩:=hi.row
  rw [hB,List.append_nil] at hr
  cases k with
  |succ k=>
   obtain ⟨x,A,C,h1,h2⟩:=h.tq hr
   exact hi.no x h2 ⟨A,C,h1.symm⟩
  |zero=>
   have hall:∀e,P.E e→e∈P.DO j:=fun e he=>(hi.sh e).2 ⟨he, .inr (h.xy hr e he)⟩
   have:=CT (fun e h1 h2=>hall e ⟨h1,h2⟩)
   rw [PS.Hl] at this
   omega
theorem PS.CU {s:MS} {e:Int} {B:List Int} (hB:s.B=e::B):P.next s=if P.ins (P.hd e)<:+s.A++ [e] then ⟨(s.A++ [e]).take (s.A.length+1 - (P.ins (P.hd e)).length),P.outs (P.hd e)++B,s.D++ [P.hd e]⟩ else ⟨s.A++ [e],B,s.D⟩:=by
 unfold PS.next;rw [hB]
theorem PS.AF (h:P.Ok) {s:MS} {k:Nat} {e:Int} {B:List Int} (hr:P.Row k (s.A++s.B) s.D) (hB:s.B=e::B):
 P.E e∧((∃A',s.A++ [e]=A'++P.ins (P.hd e)∧P.ins (P.hd e)≠ []∧P.next s=⟨A',P.outs (P.hd e)++B,s.D++ [P.hd e]⟩)∨(¬P.ins (P.hd e)<:+s.A++ [e]∧P.next s=⟨s.A++ [e],B,s.D⟩)):=by
 have he:P.E e:=((h.rJ hr e).1 (by rw [hB];simp)).1
 refine ⟨he, ?_⟩
 rw [PS.CU hB]
 by_cases hs:P.ins (P.hd e)<:+s.A++ [e]
 ·rw [if_pos hs]
  refine .inl ⟨_, ?_,fun h0=> ?_,rfl⟩
  ·have:=y3 hs
   simpa using this
  ·have:=(h.kC (P.hd e) e).2 ⟨he,rfl⟩
   rw [h0] at this;cases this
 ·rw [if_neg hs];exact .inr ⟨hs,rfl⟩
theorem AG {X A:List Int} {e:Int} (h:X<:+:A++ [e]):X<:+:A∨X<:+A++ [e]:=by
 obtain ⟨s,t,ht⟩:=h
 rcases List.eq_nil_or_concat t with rfl|⟨t',a,rfl⟩
 ·rw [List.append_nil] at ht;exact .inr ⟨s,ht⟩
 ·left
  refine ⟨s,t', ?_⟩
  have:s++X++t'++ [a]=A++ [e]:=by rw [← ht];simp
  exact (List.append_inj' this rfl).1
theorem PS.inv (h:P.Ok):∀j,j≤P.m→P.Inv j (P.st j)
 |0,_=>⟨⟨_,h.Jj⟩,fun x hx hs=>hx (by
    have:P.ins x<:+: []:=hs
    simpa using this),by simp [PS.DO],fun e=>(by
     simp only [PS.DO,List.range_zero,List.map_nil,List.not_mem_nil,false_iff]
     rintro ⟨he,h1|h1⟩
     ·cases h1
     ·have h1:P.hd e∈ [P.src]:=h1
      have h2:P.hd e=P.src:=by simpa using h1
      have:=(h.kC P.src e).2 ⟨he,h2⟩
      rw [h.AE] at this;cases this),Nat.zero_le _⟩
 |j+1,hj=>by
  have hi:=PS.inv h j (by omega)
  obtain ⟨e,B,hB⟩:=hi.more h (by omega)
  obtain ⟨k,hr⟩:=hi.row
  have hsh:P.sh j=e:=by unfold PS.sh;rw [hB];rfl
  have Q6:e∈(P.st j).A++(P.st j).B:=by rw [hB];simp
  have hm:=(h.rJ hr e).1 Q6
  have bZ:=h.AD hr
  have Of:e∉(P.st j).A:=fun hA=>by
   rw [List.nodup_append] at bZ
   exact bZ.2.2 e hA e (by rw [hB];simp) rfl
  have hnew:e∉P.DO j:=fun h1=>by
   rcases ((hi.sh e).1 h1).2 with h2|h2
   ·exact Of h2
   ·exact hm.2.2 h2
  have fy:(P.DO (j+1)).Nodup:=by
   rw [PS.tu,hsh,List.nodup_append]
   exact ⟨hi.nd,by simp,fun a ha b hb=>by
    rw [List.mem_singleton] at hb
    subst hb
    intro e2;exact hnew (e2 ▸ ha)⟩
  obtain ⟨he,hc⟩:=PS.AF h hr hB
  have hst:P.st (j+1)=P.next (P.st j):=rfl
  rw [hst]
  rcases hc with ⟨A',h1,h2,h3⟩|⟨h1,h3⟩
  ·rw [h3]
   have hrow:(P.st j).A++(P.st j).B=A'++P.ins (P.hd e)++B:=by rw [hB, ← h1];simp
   obtain ⟨k',rfl,hr'⟩:=h.row_step hr hrow h2
   refine ⟨⟨k',by simpa using hr'⟩,fun x hx hs=> ?_,fy,fun f=> ?_,hj⟩
   ·have hs:P.ins x<:+:A':=hs
    have hA:¬P.ins x<:+:(P.st j).A:=hi.no x hx
    obtain ⟨u,v,huv⟩:=hs
    rcases List.eq_nil_or_concat (P.ins (P.hd e)) with h0|⟨I',a,h0⟩
    ·exact h2 h0
    ·rw [h0, ← List.concat_eq_append,List.concat_eq_append] at h1
     have h4:(P.st j).A++ [e]=(A'++I')++ [a]:=by rw [h1];simp
     have h5:=(List.append_inj' h4 rfl).1
     exact hA ⟨u,v++I',by rw [h5, ← huv];simp⟩
   ·rw [PS.tu,hsh,List.mem_append,List.mem_singleton,hi.sh f]
    show _↔P.E f∧(f∈A'∨P.hd f∈(P.st j).D++ [P.hd e])
    constructor
    ·rintro (⟨h4,h5|h5⟩|rfl)
     ·have:f∈A'++P.ins (P.hd e):=by rw [← h1];exact List.mem_append.2 (.inl h5)
      rcases List.mem_append.1 this with h6|h6
      ·exact ⟨h4, .inl h6⟩
      ·exact ⟨h4, .inr (by rw [((h.kC _ _).1 h6).2];simp)⟩
     ·exact ⟨h4, .inr (List.mem_append.2 (.inl h5))⟩
     ·exact ⟨he, .inr (by simp)⟩
    ·rintro ⟨h4,h5|h5⟩
     ·have:f∈(P.st j).A++ [e]:=by rw [h1];exact List.mem_append.2 (.inl h5)
      rcases List.mem_append.1 this with h6|h6
      ·exact .inl ⟨h4, .inl h6⟩
      ·exact .inr (by simpa using h6)
     ·rcases List.mem_append.1 h5 with h6|h6
      ·exact .inl ⟨h4, .inr h6⟩
      ·have h6:P.hd f=P.hd e:=by simpa using h6
       have h7:f∈P.ins (P.hd e):=(h.kC _ _).2 ⟨h4,h6⟩
       have:f∈(P.st j).A++ [e]:=by rw [h1];exact List.mem_append.2 (.inr h7)
       rcases List.mem_append.1 this with h8|h8
       ·exact .inl ⟨h4, .inl h8⟩
       ·exact .inr (by simpa using h8)
  ·rw [h3]
   refine ⟨⟨k,by simpa [hB] using hr⟩,fun x hx hs=> ?_,fy,fun f=> ?_,hj⟩
   ·rcases AG hs with h4|h4
    ·exact hi.no x hx h4
    ·have hne:e∈P.ins x:=by
      obtain ⟨t,ht⟩:=h4
      rcases List.eq_nil_or_concat (P.ins x) with h0|⟨I',a,h0⟩
      ·exact absurd h0 hx
      ·rw [h0] at ht
       have h5:(t++I')++ [a]=(P.st j).A++ [e]:=by rw [← ht];simp
       have:=(List.append_inj' h5 rfl).2
       rw [h0];simp at this ⊢;exact .inr this.symm
     rw [((h.kC _ _).1 hne).2] at h1
     exact h1 h4
   ·rw [PS.tu,hsh,List.mem_append,List.mem_singleton,hi.sh f]
    show _↔P.E f∧(f∈(P.st j).A++ [e]∨P.hd f∈(P.st j).D)
    rw [List.mem_append,List.mem_singleton]
    constructor
    ·rintro (⟨h4,h5|h5⟩|rfl)
     ·exact ⟨h4, .inl (.inl h5)⟩
     ·exact ⟨h4, .inr h5⟩
     ·exact ⟨he, .inl (.inr rfl)⟩
    ·rintro ⟨h4,(h5|h5)|h5⟩
     ·exact .inl ⟨h4, .inl h5⟩
     ·exact .inr h5
     ·exact .inl ⟨h4, .inr h5⟩
end Go.Ab
end
section
namespace Go.Ab
set_option maxRecDepth 10000
set_option linter.unusedSectionVars false
variable {P:PS}
structure PS.ji (P:PS) (L R:Int→Int) (f0 f1:Int) (low:Int→Int):Prop where
 ne:f0≠f1
 mz:∀ {x u a b v},P.outs x=u++a::b::v→R a=L b
 AH:∀ {x u a b v},P.ins x=u++a::b::v→R a=L b
 fst:∀ {x a u b v},P.ins x=a::u→P.outs x=b::v→L a=L b
 Jk:∀ {x a u b v},P.ins x=u++ [a]→P.outs x=v++ [b]→R a=R b
 s0:∀ {b v},P.outs P.src=b::v→L b=f0
 s1:∀ {b v},P.outs P.src=v++ [b]→R b=f1
 new:∀ {x u a b v},P.outs x=u++a::b::v→low (R a)=x∧R a≠f0∧R a≠f1
 new1:∀ {x u a b v u' a' b' v'},P.outs x=u++a::b::v→P.outs x=u'++a'::b'::v'→R a=R a'→a=a'
theorem E5 {l u v u' v':List Int} {a:Int} (hn:l.Nodup) (h1:l=u++a::v) (h2:l=u'++a::v'):u=u'∧v=v':=by
 induction u generalizing l u' with
 |nil=>
  cases u' with
  |nil=>rw [h1] at h2;simpa using h2
  |cons b u'=>
   rw [h1] at h2
   simp only [List.nil_append,List.cons_append,List.cons.injEq] at h2
   rw [h1,h2.2] at hn
   simp at hn
 |cons b u ih=>
  cases u' with
  |nil=>
   rw [h2] at h1
   simp only [List.nil_append,List.cons_append,List.cons.injEq] at h1
   rw [h2,h1.2] at hn
   simp at hn
  |cons b' u'=>
   have h3:=h1.symm.trans h2
   simp only [List.cons_append,List.cons.injEq] at h3
   rw [h1,List.cons_append,List.nodup_cons] at hn
   obtain ⟨h4,h5⟩:=ih hn.2 rfl h3.2
   exact ⟨by rw [h3.1,h4],h5⟩
theorem iq {l u v:List Int} {a b:Int} (h:l.reverse=u++a::b::v):l=v.reverse++b::a::u.reverse:=by
 have:=congrArg List.reverse h
 simpa using this
theorem PS.ji.DN (h:P.Ok) {L R:Int→Int} {f0 f1:Int} {low:Int→Int} (F:P.ji L R f0 f1 low):P.DN.ji R L f1 f0 low:=
 {ne:=F.ne.symm
  mz:=fun {x u a b v} h=>(F.mz (iq (show (P.outs x).reverse=_ from h))).symm
  AH:=fun {x u a b v} h=>(F.AH (iq (show (P.ins x).reverse=_ from h))).symm
  fst:=fun {x a u b v} h1 h2=>F.Jk (x:=x) (u:=u.reverse) (v:=v.reverse) (by
     have:=congrArg List.reverse (show (P.ins x).reverse=_ from h1);simpa using this) (by
     have:=congrArg List.reverse (show (P.outs x).reverse=_ from h2);simpa using this)
  Jk:=fun {x a u b v} h1 h2=>F.fst (x:=x) (u:=u.reverse) (v:=v.reverse) (by
    have:=congrArg List.reverse (show (P.ins x).reverse=_ from h1);simpa using this) (by
    have:=congrArg List.reverse (show (P.outs x).reverse=_ from h2);simpa using this)
  s0:=fun {b v} h1=>F.s1 (v:=v.reverse) (by
     have:=congrArg List.reverse (show (P.outs P.src).reverse=_ from h1);simpa using this)
  s1:=fun {b v} h1=>F.s0 (v:=v.reverse) (by
     have:=congrArg List.reverse (show (P.outs P.src).reverse=_ from h1);simpa using this)
  new:=fun {x u a b v} h1=>by
   have h2:=iq (show (P.outs x).reverse=_ from h1)
   obtain ⟨h3,h4,h5⟩:=F.new h2
   have h6:=F.mz h2
   rw [← h6];exact ⟨h3,h5,h4⟩
  new1:=fun {x u a b v u' a' b' v'} h1 h2 h3=>by
   have g1:=iq (show (P.outs x).reverse=_ from h1)
   have g2:=iq (show (P.outs x).reverse=_ from h2)
   rw [← F.mz g1, ← F.mz g2] at h3
   have h4:=F.new1 g1 g2 h3
   subst h4
   have:=(E5 (h.rH x) g1 g2).2
   simp only [List.cons.injEq] at this
   exact this.1}
def oo (L R:Int→Int):Int→List Int→Prop
 |_, []=>True
 |f,a::W=>L a=f∧oo L R (R a) W
def pO (R:Int→Int):Int→List Int→Int
 |f, []=>f
 |_,a::W=>pO R (R a) W
theorem jE {L R:Int→Int} :∀ {A B:List Int} {f:Int},oo L R f (A++B)↔oo L R f A∧oo L R (pO R f A) B
 | [],B,f=>by simp [oo,pO]
 |a::A,B,f=>by simp [oo,pO,jE,and_assoc]
theorem gG {R:Int→Int} :∀ {A B:List Int} {f:Int},pO R f (A++B)=pO R (pO R f A) B
 | [],B,f=>rfl
 |a::A,B,f=>by simp [pO,gG]
theorem vq {R:Int→Int} {A:List Int} {a f:Int} :pO R f (A++ [a])=R a:=by rw [gG];rfl
theorem y4 {L R:Int→Int} :∀ {X:List Int} {f:Int},(∀u a b v,X=u++a::b::v→R a=L b)→(∀a u,X=a::u→L a=f)→oo L R f X
 | [],f,_,_=>trivial
 |a::X,f,h,h1=>⟨h1 a X rfl,y4 (fun u b c v e=>h (a::u) b c v (by rw [e];rfl)) fun b v e=>(h [] a b v (by rw [e];rfl)).symm⟩
theorem BJ {l:List Int} (h:l≠ []):∃u a,l=u++ [a]:=by
 rcases List.eq_nil_or_concat l with h1|⟨u,a,h1⟩
 ·exact absurd h1 h
 ·exact ⟨u,a,by rw [h1,List.concat_eq_append]⟩
theorem xz {l:List Int} (h:l≠ []):∃a u,l=a::u:=by
 cases l with
 |nil=>exact absurd rfl h
 |cons a u=>exact ⟨a,u,rfl⟩
structure Jl (L R:Int→Int) (f0 f1:Int) (low:Int→Int) (W D:List Int):Prop where
 lk:oo L R f0 W
 en:pO R f0 W=f1
 nd:(W.map R).Nodup
 lo:∀a∈W,R a≠f0∧(R a=f1∨(R a≠f1∧low (R a)∈D))
theorem CV {X U V Y:List Int} {r:Int} (h:(X++(U++ [r])++Y).Nodup) (hV:V.Nodup) (hd:∀z∈V,z∉X∧z≠r∧z∉Y):(X++(V++ [r])++Y).Nodup:=by
 have h1:(X++ [r]++Y).Nodup:=by
  refine List.Nodup.sublist ?_ h
  refine List.Sublist.append (List.Sublist.append (List.Sublist.refl _) ?_) (List.Sublist.refl _)
  exact List.sublist_append_right ..
 have h2:(V++(X++ [r]++Y)).Nodup:=by
  rw [List.nodup_append]
  refine ⟨hV,h1,fun a ha b hb e=> ?_⟩
  subst e
  obtain ⟨g1,g2,g3⟩:=hd a ha
  simp only [List.mem_append,List.mem_singleton] at hb
  rcases hb with (hb|hb)|hb
  ·exact g1 hb
  ·exact g2 hb
  ·exact g3 hb
 refine (List.Perm.nodup_iff ?_).1 h2
 have:X++(V++ [r])++Y=(X++V)++([r]++Y):=by simp
 rw [this]
 have:V++(X++ [r]++Y)=(V++X)++([r]++Y):=by simp
 rw [this]
 exact List.Perm.append_right _ List.perm_append_comm
theorem mP {R:Int→Int} :∀ {l:List Int},l.Nodup→(∀a∈l,∀b∈l,R a=R b→a=b)→(l.map R).Nodup
 | [],_,_=>by simp
 |a::l,hn,h=>by
  rw [List.nodup_cons] at hn
  rw [List.map_cons,List.nodup_cons]
  refine ⟨fun hm=> ?_,mP hn.2 fun x hx y hy=>h x (List.mem_cons_of_mem _ hx) y (List.mem_cons_of_mem _ hy)⟩
  obtain ⟨b,hb,e⟩:=List.mem_map.1 hm
  have:=h b (List.mem_cons_of_mem _ hb) a (List.mem_cons_self ..) e
  exact hn.1 (this ▸ hb)
section
variable (h:P.Ok) {L R:Int→Int} {f0 f1:Int} {low:Int→Int} (F:P.ji L R f0 f1 low)
include h F
theorem nk {v:List Int} {b:Int} {x:Int} (hv:P.outs x=v++ [b]) {a:Int} (ha:a∈v):∃u c w,P.outs x=u++a::c::w:=by
 obtain ⟨s,t,rfl⟩:=List.append_of_mem ha
 cases t with
 |nil=>exact ⟨s,b, [],by rw [hv];simp⟩
 |cons c t=>exact ⟨s,c,t++ [b],by rw [hv];simp⟩
theorem CW {x f:Int} (hf:∀b v,P.outs x=b::v→L b=f):oo L R f (P.outs x):=y4 (fun u a b v e=>F.mz e) fun a u e=>hf a u e
theorem Ho {x:Int} {v:List Int} {b:Int} (hv:P.outs x=v++ [b]):(v.map R).Nodup∧∀z∈v.map R,low z=x∧z≠f0∧z≠f1:=by
 have hn:=h.rH x
 rw [hv,List.nodup_append] at hn
 refine ⟨mP hn.1 fun a ha a' LC e=> ?_,fun z hz=> ?_⟩
 ·obtain ⟨u,c,w,h1⟩:=nk h F hv ha
  obtain ⟨u',c',w',h2⟩:=nk h F hv LC
  exact F.new1 h1 h2 e
 ·obtain ⟨a,ha,rfl⟩:=List.mem_map.1 hz
  obtain ⟨u,c,w,h1⟩:=nk h F hv ha
  exact F.new h1
theorem Jl.step {A C D:List Int} {x:Int} (hi:Jl L R f0 f1 low (A++P.ins x++C) D) (hI:P.ins x≠ []) (hO:P.outs x≠ []) (hx:x∉D):Jl L R f0 f1 low (A++P.outs x++C) (D++ [x]):=by
 obtain ⟨u,a,hu⟩:=BJ hI
 obtain ⟨v,b,hv⟩:=BJ hO
 obtain ⟨a0,u0,Po⟩:=xz hI
 obtain ⟨b0,v0,Ks⟩:=xz hO
 have hab:=F.Jk hu hv
 have h0:=F.fst Po Ks
 obtain ⟨l1,l2⟩:=jE.1 hi.lk
 obtain ⟨l3,l4⟩:=jE.1 l1
 have J3:∀f,pO R f (P.ins x)=R a:=fun f=>by rw [hu,vq]
 have Pp:∀f,pO R f (P.outs x)=R b:=fun f=>by rw [hv,vq]
 have hL:L a0=pO R f0 A:=by rw [Po] at l4;exact l4.1
 obtain ⟨n1,n2⟩:=Ho h F hv
 have bZ:=hi.nd
 have hlo:=hi.lo
 refine ⟨?_, ?_, ?_,fun c hc=> ?_⟩
 ·rw [jE,jE]
  refine ⟨⟨l3,CW h F fun b' v' e=> ?_⟩, ?_⟩
  ·rw [Ks] at e
   simp only [List.cons.injEq] at e
   rw [← e.1, ← h0,hL]
  ·rw [gG,Pp]
   rw [gG,J3] at l2
   rw [← hab];exact l2
 ·have:=hi.en
  rw [gG,gG,J3] at this
  rw [gG,gG,Pp, ← hab];exact this
 ·rw [List.map_append,List.map_append,hv,List.map_append]
  rw [List.map_append,List.map_append,hu,List.map_append] at bZ
  simp only [List.map_cons,List.map_nil] at bZ ⊢
  rw [← hab]
  have hold:∀c∈A++P.ins x++C,R c∉v.map R:=fun c hc hz=>by
   obtain ⟨g1,g2,g3⟩:=n2 _ hz
   rcases (hlo c hc).2 with h1|⟨_,h1⟩
   ·exact g3 h1
   ·rw [g1] at h1;exact hx h1
  refine CV bZ n1 fun z hz=>⟨fun CI=> ?_,fun CI=> ?_,fun CI=> ?_⟩
  ·obtain ⟨c,hc,rfl⟩:=List.mem_map.1 CI
   exact hold c (by simp [hc]) hz
  ·exact hold a (by rw [hu];simp) (CI ▸ hz)
  ·obtain ⟨c,hc,rfl⟩:=List.mem_map.1 CI
   exact hold c (by simp [hc]) hz
 ·have hold:∀c∈A++P.ins x++C,R c≠f0∧(R c=f1∨(R c≠f1∧low (R c)∈D++ [x])):=fun c hc=>by
   obtain ⟨g1,g2⟩:=hlo c hc
   exact ⟨g1,g2.imp id fun ⟨g3,g4⟩=>⟨g3,List.mem_append.2 (.inl g4)⟩⟩
  simp only [List.mem_append] at hc
  rcases hc with (hc|hc)|hc
  ·exact hold c (by simp [hc])
  ·rw [hv,List.mem_append,List.mem_singleton] at hc
   rcases hc with hc|rfl
   ·obtain ⟨g1,g2,g3⟩:=n2 (R c) (List.mem_map_of_mem hc)
    exact ⟨g2, .inr ⟨g3,by rw [g1];simp⟩⟩
   ·have:=hold a (by rw [hu];simp)
    rw [hab] at this;exact this
  ·exact hold c (by simp [hc])
end
end Go.Ab
end
section
namespace Go.Ab
set_option maxRecDepth 10000
set_option linter.unusedSectionVars false
variable {P:PS}
inductive PS.E6 (P:PS) (x:Int):Int→Prop
 |refl:P.E6 x x
 |step {e:Int} :P.E6 x (P.tl e)→P.E e→P.E6 x (P.hd e)
theorem PS.E6.trans {x y z:Int} (h1:P.E6 x y) (h2:P.E6 y z):P.E6 x z:=by
 induction h2 with
 |refl=>exact h1
 |step _ he ih=>exact .step ih he
inductive PS.Lp (P:PS) (L R:Int→Int) (F:Int):Int→Prop
 |refl:P.Lp L R F F
 |step {e:Int} :P.Lp L R F (L e)→P.E e→P.Lp L R F (R e)
theorem PS.Lp.trans {L R:Int→Int} {x y z:Int} (h1:P.Lp L R x y) (h2:P.Lp L R y z):P.Lp L R x z:=by
 induction h2 with
 |refl=>exact h1
 |step _ he ih=>exact .step ih he
theorem PS.Lp.head {L R:Int→Int} {e z:Int} (he:P.E e) (h2:P.Lp L R (R e) z):P.Lp L R (L e) z:=(PS.Lp.step .refl he).trans h2
theorem PS.Lp.DN {L R:Int→Int} {x y:Int} (h1:P.Lp L R x y):P.DN.Lp R L y x:=by
 induction h1 with
 |refl=>exact .refl
 | @step e h1 he ih=>exact PS.Lp.head (P:=P.DN) (L:=R) (R:=L) (e:=e) he ih
theorem PS.E6.DN {x y:Int} (h1:P.E6 x y):P.DN.E6 x y:=by
 induction h1 with
 |refl=>exact .refl
 |step h1 he ih=>exact PS.E6.step (P:=P.DN) ih he
section
variable (h:P.Ok)
include h
variable {L R:Int→Int} {f0 f1:Int} {low:Int→Int} (F:P.ji L R f0 f1 low)
include F
end
end Go.Ab
end
section
namespace Go.Ab
set_option maxRecDepth 10000
set_option linter.unusedSectionVars false
variable {P:PS}
section
variable (h:P.Ok) {L R:Int→Int} {f0 f1:Int} {low:Int→Int} (F:P.ji L R f0 f1 low)
include h F
end
section
variable (h:P.Ok) {L R:Int→Int} {f0 f1:Int} {low:Int→Int} (F:P.ji L R f0 f1 low) {e f:Int} (he:P.E e) (hf:P.E f)
include h F he hf
end
section
variable (h:P.Ok) {L R:Int→Int} {f0 f1:Int} {low:Int→Int} (F:P.ji L R f0 f1 low) {e f:Int} (he:P.E e) (hf:P.E f)
include h F he hf
end
end Go.Ab
end
section
namespace Go.Ab
open Go.Proofs
attribute [local congr] ACall.congr gd.congr Nx.congr
set_option maxRecDepth 10000
set_option maxHeartbeats 8000000
def eZ (f:Edge→Int) (es:List Edge) (k:Nat) (x:Nat):List Int:=((List.range k).filter fun i=>decide (f (es.getD i (0,0))=(x:Int))).map Int.ofNat
def mQ (f:Edge→Int) (es:List Edge) (n k:Nat):List (List (List D)):=(List.range n).map fun x=>(eZ f es k x).map rI
def sL (ls:List (List Int)):D:= .sl 1 (ls.map fun l=> [sI l])
def c7 (f:Edge→Int) (g:Gr):List (List Int):=(List.range g.n.toNat).map (eZ f g.es g.es.length)
def vw (g:Gr):D:= .pt [.sc (.int .i64 g.n),sE g.es,sL (c7 (·.1) g),sL (c7 (·.2) g)]
theorem aB {g:Gr} (h:aH g=true):0<g.n∧g.n≤64∧g.es.length≤128:=by
 simp [aH] at h;omega
theorem cH {g:Gr} (h:aH g=true) {k:Nat} (hk:k<g.es.length):(0≤(g.es.getD k (0,0)).1∧(g.es.getD k (0,0)).1<g.n)∧(0≤(g.es.getD k (0,0)).2∧(g.es.getD k (0,0)).2<g.n):=by
 have h2:=yU (g:=g) hk
 rw [h] at h2
 have h3:¬ng g (g.es.getD k (0,0))=true:=fun e=>by simpa using h2 e
 simp only [ng,td,Bool.or_eq_true,decide_eq_true_eq] at h3
 omega
theorem bX {f:Edge→Int} {es:List Edge} {n k:Nat} :(mQ f es n k).length=n:=by simp [mQ]
theorem jF {f:Edge→Int} {es:List Edge} {n k x:Nat} (hx:x<n):(mQ f es n k)[x]? =some ((eZ f es k x).map rI):=by
 simp [mQ,List.getElem?_range hx]
theorem ir {f:Edge→Int} {es:List Edge} {k x:Nat} :(eZ f es k x).length≤k:=by
 simpa [eZ] using List.length_filter_le (fun i=>decide (f (es.getD i (0,0))=(x:Int))) (List.range k)
theorem AI {f:Edge→Int} {es:List Edge} {k x:Nat} :eZ f es (k+1) x=eZ f es k x++if f (es.getD k (0,0))=(x:Int) then [(k:Int)] else []:=by
 simp only [eZ,List.range_succ,List.filter_append,List.map_append,List.filter_cons,List.filter_nil]
 split<;>simp_all
theorem tC {f:Edge→Int} {es:List Edge} {n k:Nat} (h0:0≤f (es.getD k (0,0))):
 (mQ f es n k).set (f (es.getD k (0,0))).toNat ((eZ f es k (f (es.getD k (0,0))).toNat).map rI++ [[.sc (.int .i64 k)]])=mQ f es n (k+1):=by
 refine List.ext_getElem? fun i=> ?_
 rw [List.getElem?_set,bX]
 by_cases hi:i<n
 ·rw [jF hi,jF hi,AI]
  generalize f (es.getD k (0,0))=e at*
  by_cases hq:e=(i:Int)
  ·subst hq;simp [hi,rI]
  ·have:¬e.toNat=i:=by omega
   simp [hq,this]
 ·rw [List.getElem?_eq_none (by rw [bX];omega),List.getElem?_eq_none (by rw [bX];omega)]
  generalize f (es.getD k (0,0))=e at*
  split
  ·rename_i hq;rw [if_neg (by omega)]
  ·rfl
theorem tD {f:Edge→Int} {es:List Edge} {n:Nat} :List.replicate n []=mQ f es n 0:=by
 refine List.ext_getElem? fun i=> ?_
 by_cases hi:i<n
 ·rw [jF hi];simp [hi,eZ]
 ·rw [List.getElem?_eq_none (by simp;omega),List.getElem?_eq_none (by rw [bX];omega)]
theorem gS (g:Gr) (hm:aH g=true):Spec Tryz.prog 44 (Args [eG g]) [] (.d (vw g)) []:=by
 have hn:=aB hm
 have hl:g.es.length≤9223372036854775807:=by omega
 have hl':g.es.length≤1000000:=by omega
 (refine Spec.hd (C:=T.cfg [] [13,16]) (rs:= [.t 2]) (T.ah _ _) Tryz.func44 rfl rfl Tryz.ntmps44 Tryz.results44 (by simp [AObj.isNest]) (by simp [AObj.isNest]) (by kernel_rfl) T.mixed fun X hX hP hC aJ bQ=> ?_)
 repeat' (first|refine Rn.p ?_|(with_reducible apply And.intro)|((first|(refine hK _ ?_;clear hK K)|with_reducible intro K hK|refine Rs.p ?_|((with_reducible first|apply oP|apply oQ);exact rfl)|refine aa hX hC hP (fD g hl) rfl rfl rfl (by simp only [go_sem,simprocAttr,hm]) rfl ?_|refine aa hX hC hP (lE g.es hl') rfl rfl rfl (by simp only [go_sem,simprocAttr,hm]) rfl ?_);try simp only [go_sem,simprocAttr,hm])|((with_reducible refine oD ?_ ?_);kernel_rfl)|((with_reducible intro h);try simp only [go_sem,simprocAttr,hm] at h)|omega|intro h)
 refine yN hX 13 (by simp [go_sem,simprocAttr,hm];exact ⟨rfl,rfl,rfl,rfl⟩) (by decide) (by simp [go_sem,simprocAttr,hm]) (by simp [go_sem,simprocAttr,hm]) ?_
 refine yN hX 16 (by simp [go_sem,simprocAttr,hm];exact ⟨rfl,rfl,rfl,rfl⟩) (by decide) (by simp [go_sem,simprocAttr,hm]) (by simp [go_sem,simprocAttr,hm]) ?_
 simp only [go_sem,simprocAttr,hm]
 refine ai (fun k:Nat=>k≤g.es.length) (fun k=>⟨[(29,eN k),(28,eN g.es.length),(27, .d (sE g.es)),(3, .ptr 18 0)], [(18, .box [eN g.n, .d (sE g.es), .ref 13, .ref 16]),(16, .nest 31 3 1 (mQ (·.2) g.es g.n.toNat k) none),(13, .nest 31 3 1 (mQ (·.1) g.es g.n.toNat k) none)]⟩) (fun k=>g.es.length - k) 0 (by simp) ?_ ?_
 ·refine Le.of ?_ ?_<;>simp [go_sem,simprocAttr,hm]
  exact ⟨tD,tD⟩
 rintro k hk
 rcases Nat.lt_or_ge k g.es.length with hlt|hge
 ·have hb:decide ((k:Int)<(g.es.length:Int))=true:=decide_eq_true (by omega)
  obtain ⟨x8,Cx⟩:=cH hm hlt
  have J4:=jF (f:=(·.1)) (es:=g.es) (k:=k) (show (g.es.getD k (0,0)).1.toNat<g.n.toNat by omega)
  have Gz:=jF (f:=(·.2)) (es:=g.es) (k:=k) (show (g.es.getD k (0,0)).2.toNat<g.n.toNat by omega)
  have GA:=ir (f:=(·.1)) (es:=g.es) (k:=k) (x:=(g.es.getD k (0,0)).1.toNat)
  have CX:=ir (f:=(·.2)) (es:=g.es) (k:=k) (x:=(g.es.getD k (0,0)).2.toNat)
  repeat' (first|refine Rn.p ?_|(with_reducible apply And.intro)|((first|(refine hK _ ?_;clear hK K)|with_reducible intro K hK|refine Rs.p ?_|((with_reducible first|apply oP|apply oQ);exact rfl)|refine aa hX hC hP (fD g hl) rfl rfl rfl (by simp only [go_sem,simprocAttr,hm,hb,J4,Gz,bX]) rfl ?_|refine aa hX hC hP (lE g.es hl') rfl rfl rfl (by simp only [go_sem,simprocAttr,hm,hb,J4,Gz,bX]) rfl ?_);try simp only [go_sem,simprocAttr,hm,hb,J4,Gz,bX])|((with_reducible refine oD ?_ ?_);first|(focus (simp only [yu,mj,gO,meets,sW,m9,CD,dw,oe,mO,Rec.rs,Rec.pe,Rec.Il,fB,Rec.di,Rec.names,KV.ids,EH,EI,EJ,EK,EL,EM,List.zip_cons_cons,List.zip_nil_right,List.zipIdx_cons,List.zipIdx_nil,List.all_cons,List.all_nil,List.contains_cons,List.contains_nil,List.any_cons,List.any_nil,List.flatMap_nil,List.reverse_cons,List.reverse_nil,ju,CC,Region.binds,go_sem,simprocAttr,hm,hb,J4,Gz,bX];done))|kernel_rfl)|((with_reducible intro h);try simp only [go_sem,simprocAttr,hm,hb,J4,Gz,bX] at h)|omega|intro h)
  refine ⟨k+1,by omega, ?_,by omega⟩
  refine Le.of ?_ ?_<;>simp [go_sem,simprocAttr,hm,hb,J4,Gz,bX]
  exact ⟨tC (f:=(·.2)) Cx.1,tC (f:=(·.1)) x8.1⟩
 ·repeat' (first|refine Rn.p ?_|(with_reducible apply And.intro)|((first|(refine hK _ ?_;clear hK K)|with_reducible intro K hK|refine Rs.p ?_|((with_reducible first|apply oP|apply oQ);exact rfl)|refine aa hX hC hP (fD g hl) rfl rfl rfl (by simp only [go_sem,simprocAttr]) rfl ?_|refine aa hX hC hP (lE g.es hl') rfl rfl rfl (by simp only [go_sem,simprocAttr]) rfl ?_);try simp only [go_sem,simprocAttr])|((with_reducible refine oD ?_ ?_);first|(focus (simp only [yu,mj,gO,meets,sW,m9,CD,dw,oe,mO,Rec.rs,Rec.pe,Rec.Il,fB,Rec.di,Rec.names,KV.ids,EH,EI,EJ,EK,EL,EM,List.zip_cons_cons,List.zip_nil_right,List.zipIdx_cons,List.zipIdx_nil,List.all_cons,List.all_nil,List.contains_cons,List.contains_nil,List.any_cons,List.any_nil,List.flatMap_nil,List.reverse_cons,List.reverse_nil,ju,CC,Region.binds,go_sem,simprocAttr];done))|kernel_rfl)|((with_reducible intro h);try simp only [go_sem,simprocAttr] at h)|omega|intro h)
  have:k=g.es.length:=by omega
  subst this
  simp only [vw,sE,sL,c7,mQ,List.map_map]
  rfl
end Go.Ab
end
section
namespace Go.Ab
open Go.Proofs
attribute [local congr] ACall.congr gd.congr Nx.congr
set_option maxRecDepth 10000
def tl (g:Gr) (i:Nat):Int:=(g.es.getD i (0,0)).1
def hd (g:Gr) (i:Nat):Int:=(g.es.getD i (0,0)).2
def wt (g:Gr) (out:List Int) (y:Nat):Int:=
 if (y:Int)∈out then -1 else (((List.range g.es.length).countP fun i=>decide (hd g i=(y:Int))&& !decide (tl g i∈out):Nat):Int)
def cy (g:Gr) (out:List Int):List Int:=(List.range g.n.toNat).map (wt g out)
def u5 (g:Gr):Nat→List Int→List Int
 |0,out=>out
 |f+1,out=>if fu (cy g out) 0<0 then out else u5 g f (out++ [fu (cy g out) 0])
def aN (g:Gr):List Int:=u5 g g.n.toNat []
structure ej (g:Gr) (out:List Int):Prop where
 lo:∀x∈out,0≤x∧x<g.n
 back:∀i,i<g.es.length→hd g i∈out→tl g i∈out
 fuel:out.length+(List.range g.n.toNat).countP (fun y:Nat=> !decide ((y:Int)∈out))=g.n.toNat
theorem fZ {α:Type} {f:α→Bool} {l:List α} (d:α):bI f l= -1∧(∀x∈l,f x=false)∨∃k:Nat,bI f l=k∧k<l.length∧f (l.getD k d)=true∧∀j,j<k→f (l.getD j d)=false:=by
 cases h:l.findIdx? f with
 |none=>
  rw [List.findIdx?_eq_none_iff] at h
  exact .inl ⟨by simp [bI,List.findIdx?_eq_none_iff.2 h],h⟩
 |some i=>
  obtain ⟨hi,hg,hb⟩:=List.findIdx?_eq_some_iff_getElem.1 h
  refine .inr ⟨i,by simp [bI,h],hi,by simpa [List.getD_eq_getElem?_getD,List.getElem?_eq_getElem hi] using hg,fun j hj=> ?_⟩
  have hjl:j<l.length:=by omega
  have:=hb j hj
  simpa [List.getD_eq_getElem?_getD,List.getElem?_eq_getElem hjl] using this
theorem wts_length {g:Gr} {out:List Int} :(cy g out).length=g.n.toNat:=by simp [cy]
theorem lG {g:Gr} {out:List Int} {y:Nat} (h:y<g.n.toNat) (d:Int):(cy g out).getD y d=wt g out y:=by
 simp [cy,List.getD_eq_getElem?_getD,List.getElem?_range h]
theorem lH {p:Nat→Bool} {x:Nat} (hx:p x=true):∀ {n:Nat},x<n→(List.range n).countP (fun y=>p y&& !decide (y=x))+1=(List.range n).countP p
 |0,h=>by omega
 |n+1,h=>by
  rw [List.range_succ,List.countP_append,List.countP_append]
  by_cases BK:x=n
  ·subst BK
   have:(List.range x).countP (fun y=>p y&& !decide (y=x))=(List.range x).countP p:=by
    refine List.countP_congr fun y hy=> ?_
    have:y≠x:=by have:=List.mem_range.1 hy;omega
    simp [this]
   rw [this]
   simp [List.countP_cons,hx]
  ·have:=lH hx (n:=n) (by omega)
   have hn:n≠x:=fun e=>BK e.symm
   simp only [List.countP_cons,List.countP_nil,hn,decide_false,Bool.not_false,Bool.and_true]
   omega
theorem ej.nil (g:Gr):ej g []:=⟨by simp,by simp,by rw [List.countP_eq_length_filter,List.filter_eq_self.2 (by simp)];simp⟩
theorem ej.next {g:Gr} (hm:aH g=true) {out:List Int} (h:ej g out) {x:Nat} (hx:x<g.n.toNat) (hw:wt g out x=0):ej g (out++ [(x:Int)])∧(x:Int)∉out∧(∀i,i<g.es.length→hd g i=x→tl g i∈out):=by
 have k6:(x:Int)∉out:=fun hi=>by simp [wt,hi] at hw
 have hb:∀i,i<g.es.length→hd g i=x→tl g i∈out:=by
  intro i hi he
  simp only [wt,k6,if_false] at hw
  have:=List.countP_eq_zero.1 (Int.ofNat.inj hw) i (List.mem_range.2 hi)
  simpa [he] using this
 refine ⟨⟨?_, ?_, ?_⟩,k6,hb⟩
 ·intro y hy
  rcases List.mem_append.1 hy with hy|hy
  ·exact h.lo y hy
  ·simp at hy;omega
 ·intro i hi hh
  rcases List.mem_append.1 hh with hh|hh
  ·exact List.mem_append_left _ (h.back i hi hh)
  ·simp at hh
   exact List.mem_append_left _ (hb i hi hh)
 ·have h1:=h.fuel
  have h2:=lH (p:=fun y:Nat=> !decide ((y:Int)∈out)) (x:=x) (by simp [k6]) hx
  have h3:(List.range g.n.toNat).countP (fun y:Nat=> !decide ((y:Int)∈out++ [(x:Int)]))=(List.range g.n.toNat).countP (fun y:Nat=>(!decide ((y:Int)∈out))&& !decide (y=x)):=by
   refine List.countP_congr fun y _=> ?_
   simp;omega
  rw [h3,List.length_append,List.length_singleton]
  omega
def iZ (g:Gr) (x:Nat):List Int:=eZ (·.1) g.es g.es.length x
def pP (g:Gr) (x:Nat):List Int:=eZ (·.2) g.es g.es.length x
theorem E7 {g:Gr} {x:Nat} {e:Int} (h:e∈iZ g x):∃i:Nat,e=i∧i<g.es.length∧tl g i=x:=by
 simp only [iZ,eZ,List.mem_map,List.mem_filter,List.mem_range,decide_eq_true_eq] at h
 obtain ⟨i,⟨h1,h2⟩,rfl⟩:=h
 exact ⟨i,rfl,h1,h2⟩
def DP (g:Gr) (out:List Int) (x j y:Nat):Int:=
 if (y:Int)∈out++ [(x:Int)] then -1 else (((List.range g.es.length).countP fun i=>decide (hd g i=(y:Int))&& !decide (tl g i∈out):Nat):Int) - (((iZ g x).take j).countP fun e=>decide (hd g e.toNat=(y:Int)):Nat)
def u6 (g:Gr) (out:List Int) (x j:Nat):List Int:=(List.range g.n.toNat).map (DP g out x j)
theorem wtps_length {g:Gr} {out:List Int} {x j:Nat} :(u6 g out x j).length=g.n.toNat:=by simp [u6]
theorem oq {g:Gr} {out:List Int} {x j y:Nat} (h:y<g.n.toNat):(u6 g out x j)[y]? =some (DP g out x j y):=by
 simp [u6,List.getElem?_range h]
theorem kD {g:Gr} {out:List Int} {y:Nat} (h:y<g.n.toNat):(cy g out)[y]? =some (wt g out y):=by
 simp [cy,List.getElem?_range h]
theorem CY {g:Gr} {out:List Int} {x:Nat} :(cy g out).set x (-1)=u6 g out x 0:=by
 refine List.ext_getElem? fun i=> ?_
 rw [List.getElem?_set,wts_length]
 by_cases hi:i<g.n.toNat
 ·rw [kD hi,oq hi]
  by_cases hx:x=i
  ·subst hx;simp [hi,DP]
  ·have:¬i=x:=fun e=>hx e.symm
   simp only [hx,if_false,DP,wt,List.mem_append,List.mem_singleton,List.take_zero,List.countP_nil]
   have h2:¬(i:Int)=(x:Int):=by omega
   simp [h2]
 ·rw [List.getElem?_eq_none (by rw [wts_length];omega),List.getElem?_eq_none (by rw [wtps_length];omega)]
  split
  ·rw [if_neg (by omega)]
  ·rfl
theorem kE {α:Type} {p q r:α→Bool} :∀ {l:List α},(∀a∈l,p a=(q a||r a)∧(q a&&r a)=false)→l.countP p=l.countP q+l.countP r
 | [],_=>rfl
 |a::l,h=>by
  obtain ⟨h1,h2⟩:=h a List.mem_cons_self
  have:=kE (l:=l) fun b hb=>h b (List.mem_cons_of_mem _ hb)
  simp only [List.countP_cons,this,h1]
  cases hq:q a<;>cases hr:r a<;>simp [hq,hr] at h2 ⊢ <;>omega
theorem E8 {g:Gr} {out:List Int} {x j:Nat} (hx:(x:Int)∉out) (hj:(iZ g x).length≤j):u6 g out x j=cy g (out++ [(x:Int)]):=by
 refine List.map_congr_left fun y _=> ?_
 simp only [DP,wt]
 split
 ·rfl
 ·rw [List.take_of_length_le hj]
  have h1:(iZ g x).countP (fun e=>decide (hd g e.toNat=(y:Int)))=(List.range g.es.length).countP (fun i=>decide (hd g i=(y:Int))&&decide (tl g i=(x:Int))):=by
   simp only [iZ,eZ,List.countP_map,List.countP_filter]
   exact List.countP_congr fun i _=>by simp [tl]
  have h2:=kE (p:=fun i=>decide (hd g i=(y:Int))&& !decide (tl g i∈out)) (q:=fun i=>decide (hd g i=(y:Int))&& !decide (tl g i∈out++ [(x:Int)])) (r:=fun i=>decide (hd g i=(y:Int))&&decide (tl g i=(x:Int))) (l:=List.range g.es.length) (fun i _=>by
   by_cases h3:tl g i=x
   ·simp [h3,hx]
   ·simp [h3])
  rw [h1,h2];omega
theorem Jm {g:Gr} {out:List Int} {x:Nat} (hP:ej g out) (k6:(x:Int)∉out) (hb:∀i,i<g.es.length→hd g i=x→tl g i∈out) {i:Nat} (hi:i<g.es.length) (ht:tl g i=x):hd g i∉out++ [(x:Int)]:=by
 intro h
 rcases List.mem_append.1 h with h|h
 ·exact k6 (ht ▸ hP.back i hi h)
 ·simp at h
  exact k6 (ht ▸ hb i hi h)
theorem CZ {g:Gr} {out:List Int} {x j i:Nat} (hj:(iZ g x)[j]? =some (i:Int)) (h0:0≤hd g i) (hn:hd g i∉out++ [(x:Int)]):
 (u6 g out x j).set (hd g i).toNat (DP g out x j (hd g i).toNat - 1)=u6 g out x (j+1):=by
 refine List.ext_getElem? fun y=> ?_
 rw [List.getElem?_set,wtps_length]
 by_cases hy:y<g.n.toNat
 ·rw [oq hy,oq hy]
  have ht:((iZ g x).take (j+1)).countP (fun e=>decide (hd g e.toNat=(y:Int)))=((iZ g x).take j).countP (fun e=>decide (hd g e.toNat=(y:Int)))+if hd g i=(y:Int) then 1 else 0:=by
   rw [List.take_add_one,List.countP_append,hj]
   simp [List.countP_cons]
  by_cases hq:(hd g i).toNat=y
  ·subst hq
   have he:((hd g i).toNat:Int)=hd g i:=by omega
   rw [if_pos rfl,if_pos (by assumption)]
   rw [he,if_pos rfl] at ht
   simp only [DP,he,hn,if_false,ht]
   congr 1;omega
  ·rw [if_neg hq]
   have l7:¬hd g i=(y:Int):=by omega
   simp only [DP,ht,l7,if_false,Nat.add_zero]
 ·rw [List.getElem?_eq_none (by rw [wtps_length];omega),List.getElem?_eq_none (by rw [wtps_length];omega)]
  split
  ·rw [if_neg (by omega)]
  ·rfl
def Hp (f:Edge→Int) (g:Gr):List (List D):=(c7 f g).map fun l=> [sI l]
theorem ot {f:Edge→Int} {g:Gr} {x:Nat} (h:x<g.n.toNat) (d:List D):(Hp f g).getD x d= [sI (eZ f g.es g.es.length x)]:=by
 simp [Hp,c7,List.getD_eq_getElem?_getD,List.getElem?_range h]
theorem vwl_length {f:Edge→Int} {g:Gr} :(Hp f g).length=g.n.toNat:=by simp [Hp,c7]
def J5 (g:Gr):D:= .pt [.sc (.int .i64 g.n),sE g.es, .sl 1 (Hp (·.1) g), .sl 1 (Hp (·.2) g)]
theorem au (g:Gr):vw g=J5 g:=rfl
attribute [go_sem] J5 wtps_length wts_length vwl_length
theorem E9 {g:Gr} {k:Nat} (h:k<g.n.toNat):(cy g []).take (k+1)=(cy g []).take k++ [((pP g k).length:Int)]:=by
 rw [List.take_add_one,kD h]
 simp [wt,pP,eZ,hd,List.countP_eq_length_filter]
theorem C0 {g:Gr} (hm:aH g=true) {out:List Int} {x j y:Nat} : -1000≤DP g out x j y∧DP g out x j y≤1000:=by
 have hn:=aB hm
 have h1:=List.countP_le_length (p:=fun i=>decide (hd g i=(y:Int))&& !decide (tl g i∈out)) (l:=List.range g.es.length)
 have h2:=List.countP_le_length (p:=fun e:Int=>decide (hd g e.toNat=(y:Int))) (l:=(iZ g x).take j)
 have h3:((iZ g x).take j).length≤g.es.length:=Nat.le_trans (List.length_take_le' _ _) ir
 simp only [List.length_range] at h1
 unfold DP
 split<;>omega
theorem y5 {g:Gr} {out:List Int} (h:fu (cy g out) 0<0):∀f,u5 g f out=out
 |0=>rfl
 |f+1=>by simp [u5,h]
def left (g:Gr) (out:List Int):Nat:=(List.range g.n.toNat).countP (fun y:Nat=> !decide ((y:Int)∈out))
theorem vr {g:Gr} {out:List Int} {x:Nat} (h:ej g out) (h':ej g (out++ [(x:Int)])):left g out=left g (out++ [(x:Int)])+1:=by
 have h1:=h.fuel
 have h2:=h'.fuel
 rw [List.length_append,List.length_singleton] at h2
 unfold left;omega
theorem LD {g:Gr} (out:List Int):fu (cy g out) 0= -1∨∃x:Nat,fu (cy g out) 0=x∧x<g.n.toNat∧wt g out x=0:=by
 rcases fZ (f:=fun y:Int=>decide (0=y)) (l:=cy g out) 0 with ⟨h,_⟩|⟨k,h1,h2,h3,_⟩
 ·exact .inl h
 ·rw [wts_length] at h2
  rw [lG h2] at h3
  exact .inr ⟨k,h1,h2,by simpa using (of_decide_eq_true h3).symm⟩
theorem jG (g:Gr) (hm:aH g=true):Spec Tryz.prog 176 (Args [.d (vw g)]) [] (.tup [.d (sI (aN g)), .d (sI (cy g (aN g)))]) []:=by
 rw [au]
 have hn:=aB hm
 (refine Spec.hd (C:=T.cfg [22] []) (rs:= [.t 2, .t 3]) (T.ah _ _) Tryz.func176 rfl rfl Tryz.ntmps176 Tryz.results176 (by simp [AObj.isNest]) (by simp [AObj.isNest]) (by kernel_rfl) T.mixed fun X hX hP hC aJ bQ=> ?_)
 repeat' (first|refine Rn.p ?_|(with_reducible apply And.intro)|((first|(refine hK _ ?_;clear hK K)|with_reducible intro K hK|refine Rs.p ?_|((with_reducible first|apply oP|apply oQ);exact rfl)|(refine ag hX hC hP (aR (cy g out) 0 BL) rfl rfl rfl ?_ ?_ ?_ ?_;iterate 3 (focus (simp only [go_sem,simprocAttr];done))));try simp only [go_sem,simprocAttr])|((with_reducible refine oD ?_ ?_);kernel_rfl)|((with_reducible intro h);try simp only [go_sem,simprocAttr] at h)|omega|intro h)
 (refine dD hX 3 22 (.own 3 1 []) (by simp only [go_sem,simprocAttr]) (by simp only [go_sem,simprocAttr]) (by decide) ⟨3,1,by decide, .inl rfl⟩ ?_;simp only [go_sem,simprocAttr])
 refine ai (fun k:Nat=>k≤g.n.toNat) (fun k=>⟨[(14,eN k),(13,eN g.n.toNat),(12, .d (.sl 1 (Hp (·.2) g))),(3, .ref 22),(2, .nil 3),(0, .d (J5 g))], [(22, .own 3 1 (((cy g []).take k).map rI))]⟩) (fun k=>g.n.toNat - k) 0 (by simp) ?_ ?_
 ·(refine Le.of ?_ ?_<;>simp [go_sem,simprocAttr])
 ·rintro k hk
  rcases Nat.lt_or_ge k g.n.toNat with hlt|hge
  ·have hb:decide ((k:Int)<(g.n.toNat:Int))=true:=decide_eq_true (by omega)
   have hv:=ot (f:=(·.2)) hlt
   have GA:(pP g k).length≤g.es.length:=ir
   have hlt':((cy g []).take k).length≤64:=by rw [List.length_take,wts_length];omega
   repeat' (first|refine Rn.p ?_|(with_reducible apply And.intro)|((first|(refine hK _ ?_;clear hK K)|with_reducible intro K hK|refine Rs.p ?_|((with_reducible first|apply oP|apply oQ);exact rfl)|(refine ag hX hC hP (aR (cy g out) 0 BL) rfl rfl rfl ?_ ?_ ?_ ?_;iterate 3 (focus (simp only [go_sem,simprocAttr,hb,hv];done))));try simp only [go_sem,simprocAttr,hb,hv])|((with_reducible refine oD ?_ ?_);kernel_rfl)|((with_reducible intro h);try simp only [go_sem,simprocAttr,hb,hv] at h)|omega|intro h)
   refine ⟨k+1,by omega, ?_,by omega⟩
   refine Le.of ?_ ?_<;>simp [go_sem,simprocAttr,hb,hv,E9 hlt]
   rfl
  ·obtain rfl:k=g.n.toNat:=by omega
   have hb:decide ((g.n.toNat:Int)<(g.n.toNat:Int))=false:=decide_eq_false (by omega)
   have ht:(cy g []).take g.n.toNat=cy g []:=List.take_of_length_le (by rw [wts_length];omega)
   repeat' (first|refine Rn.p ?_|(with_reducible apply And.intro)|((first|(refine hK _ ?_;clear hK K)|with_reducible intro K hK|refine Rs.p ?_|((with_reducible first|apply oP|apply oQ);exact rfl)|(refine ag hX hC hP (aR (cy g out) 0 BL) rfl rfl rfl ?_ ?_ ?_ ?_;iterate 3 (focus (simp only [go_sem,simprocAttr,hb,ht];done))));try simp only [go_sem,simprocAttr,hb,ht])|((with_reducible refine oD ?_ ?_);kernel_rfl)|((with_reducible intro h);try simp only [go_sem,simprocAttr,hb,ht] at h)|omega|intro h)
   (refine dD hX 2 33 (.tip 3 1 []) (by simp only [go_sem,simprocAttr,hb,ht]) (by simp only [go_sem,simprocAttr,hb,ht]) (by decide) ⟨3,1,by decide, .inr rfl⟩ ?_;simp only [go_sem,simprocAttr,hb,ht])
   refine ai (fun out:List Int=>ej g out∧u5 g (left g out) out=aN g) (fun out=>⟨[(3, .ref 22),(2, .ref 33),(0, .d (J5 g))], [(22, .own 3 1 ((cy g out).map rI)),(33, .tip 3 1 (out.map rI))]⟩) (left g) [] ⟨ej.nil g, ?_⟩ ?_ ?_
   ·have:=(ej.nil g).fuel
    simp only [List.length_nil,Nat.zero_add] at this
    unfold left aN
    rw [this]
   ·(refine Le.of ?_ ?_<;>simp [go_sem,simprocAttr,hb,ht])
   rintro out ⟨dn,hrun⟩
   have BL:(cy g out).length≤9223372036854775807:=by rw [wts_length];omega
   have hout:out.length≤64:=by have:=dn.fuel;omega
   rcases LD (g:=g) out with hx|⟨x,hx,BK,hw0⟩
   ·have hr:=y5 (g:=g) (out:=out) (by omega) (left g out)
    rw [hrun] at hr
    repeat' (first|refine Rn.p ?_|(with_reducible apply And.intro)|((first|(refine hK _ ?_;clear hK K)|with_reducible intro K hK|refine Rs.p ?_|((with_reducible first|apply oP|apply oQ);exact rfl)|(refine ag hX hC hP (aR (cy g out) 0 BL) rfl rfl rfl ?_ ?_ ?_ ?_;iterate 3 (focus (simp only [go_sem,simprocAttr,hx];done))));try simp only [go_sem,simprocAttr,hx])|((with_reducible refine oD ?_ ?_);kernel_rfl)|((with_reducible intro h);try simp only [go_sem,simprocAttr,hx] at h)|omega|intro h)
    ·rw [hr]
    ·rw [hr]
   ·obtain ⟨pI,k6,AJ⟩:=dn.next hm BK hw0
    have hb1:decide ((x:Int)<0)=false:=decide_eq_false (by omega)
    have hv:=ot (f:=(·.1)) BK
    have GA:(iZ g x).length≤g.es.length:=ir
    repeat' (first|refine Rn.p ?_|(with_reducible apply And.intro)|((first|(refine hK _ ?_;clear hK K)|with_reducible intro K hK|refine Rs.p ?_|((with_reducible first|apply oP|apply oQ);exact rfl)|(refine ag hX hC hP (aR (cy g out) 0 BL) rfl rfl rfl ?_ ?_ ?_ ?_;iterate 3 (focus (simp only [go_sem,simprocAttr,hx,hb1,hv];done))));try simp only [go_sem,simprocAttr,hx,hb1,hv])|((with_reducible refine oD ?_ ?_);kernel_rfl)|((with_reducible intro h);try simp only [go_sem,simprocAttr,hx,hb1,hv] at h)|omega|intro h)
    refine ai (fun j:Nat=>j≤(iZ g x).length) (fun j=>⟨[(45,eN j),(44,eN (iZ g x).length),(43, .d (sI (iZ g x))),(3, .ref 22),(2, .ref 33),(0, .d (J5 g))], [(22, .own 3 1 ((u6 g out x j).map rI)),(33, .tip 3 1 ((out++ [(x:Int)]).map rI))]⟩) (fun j=>(iZ g x).length - j) 0 (by simp) ?_ ?_
    ·refine Le.of ?_ ?_<;>simp [go_sem,simprocAttr,hx,hb1,hv,iZ,rI]
     rw [← CY,List.map_set];rfl
    rintro j hj
    rcases Nat.lt_or_ge j (iZ g x).length with hlt|hge
    ·have hb2:decide ((j:Int)<((iZ g x).length:Int))=true:=decide_eq_true (by omega)
     obtain ⟨i,hi,hil,hit⟩:=E7 (List.getElem_mem hlt)
     have hi1:(iZ g x)[j]? =some (i:Int):=by rw [List.getElem?_eq_getElem hlt,hi]
     have hi2:(iZ g x).getD j 0=(i:Int):=by rw [List.getD_eq_getElem?_getD,hi1];rfl
     have hnew:=Jm dn k6 AJ hil hit
     obtain ⟨_,Jn,x8⟩:=cH hm hil
     have hnext:=CZ hi1 Jn hnew
     have hw:(u6 g out x j).getD (g.es.getD i (0,0)).2.toNat 0=DP g out x j (hd g i).toNat:=by
      rw [List.getD_eq_getElem?_getD,oq (by omega)];rfl
     have hbd:=C0 hm (out:=out) (x:=x) (j:=j) (y:=(hd g i).toNat)
     repeat' (first|refine Rn.p ?_|(with_reducible apply And.intro)|((first|(refine hK _ ?_;clear hK K)|with_reducible intro K hK|refine Rs.p ?_|((with_reducible first|apply oP|apply oQ);exact rfl)|(refine ag hX hC hP (aR (cy g out) 0 BL) rfl rfl rfl ?_ ?_ ?_ ?_;iterate 3 (focus (simp only [go_sem,simprocAttr,hb2,hi2,hw];done))));try simp only [go_sem,simprocAttr,hb2,hi2,hw])|((with_reducible refine oD ?_ ?_);kernel_rfl)|((with_reducible intro h);try simp only [go_sem,simprocAttr,hb2,hi2,hw] at h)|omega|intro h)
     refine ⟨j+1,by omega, ?_,by omega⟩
     refine Le.of ?_ ?_<;>simp [go_sem,simprocAttr,hb2,hi2,hw]
     rw [← hnext,List.map_set];rfl
    ·have hb2:decide ((j:Int)<((iZ g x).length:Int))=false:=decide_eq_false (by omega)
     repeat' (first|refine Rn.p ?_|(with_reducible apply And.intro)|((first|(refine hK _ ?_;clear hK K)|with_reducible intro K hK|refine Rs.p ?_|((with_reducible first|apply oP|apply oQ);exact rfl)|(refine ag hX hC hP (aR (cy g out) 0 BL) rfl rfl rfl ?_ ?_ ?_ ?_;iterate 3 (focus (simp only [go_sem,simprocAttr,hb2];done))));try simp only [go_sem,simprocAttr,hb2])|((with_reducible refine oD ?_ ?_);kernel_rfl)|((with_reducible intro h);try simp only [go_sem,simprocAttr,hb2] at h)|omega|intro h)
     have Fa:=vr dn pI
     refine ⟨out++ [(x:Int)],⟨pI, ?_⟩, ?_,by omega⟩
     ·rw [← hrun,Fa]
      simp only [u5,hx]
      rw [if_neg (by omega)]
     ·refine Le.of ?_ ?_<;>simp [go_sem,simprocAttr,hb2,E8 k6 hge]
end Go.Ab
end
section
namespace Go.Ab
open Go.Proofs
attribute [local congr] ACall.congr gd.congr Nx.congr
set_option maxRecDepth 10000
def kT (l:List Int) (k:Nat):List Int:=(List.range l.length).map fun p=>if p<k∨l.length - 1<p+k then l.getD (l.length - 1 - p) 0 else l.getD p 0
theorem cT {l:List Int} {k:Nat} :(kT l k).length=l.length:=by simp [kT]
theorem jH {l:List Int} {k p:Nat} (h:p<l.length):(kT l k)[p]? =some (if p<k∨l.length - 1<p+k then l.getD (l.length - 1 - p) 0 else l.getD p 0):=by
 simp [kT,List.getElem?_range h]
theorem tE {l:List Int} {k p:Nat} (h:p<l.length) (d:Int):(kT l k).getD p d=if p<k∨l.length - 1<p+k then l.getD (l.length - 1 - p) 0 else l.getD p 0:=by
 rw [List.getD_eq_getElem?_getD,jH h];rfl
theorem AK {l:List Int} :kT l 0=l:=by
 refine List.ext_getElem? fun i=> ?_
 by_cases hi:i<l.length
 ·rw [jH hi,if_neg (by omega),List.getD_eq_getElem?_getD,List.getElem?_eq_getElem hi];rfl
 ·rw [List.getElem?_eq_none (by rw [cT];omega),List.getElem?_eq_none (by omega)]
theorem C1 {l:List Int} {k:Nat} (h:l.length≤2*k+1):kT l k=l.reverse:=by
 refine List.ext_getElem? fun i=> ?_
 by_cases hi:i<l.length
 ·rw [jH hi,List.getElem?_reverse hi]
  split
  ·rw [List.getD_eq_getElem?_getD,List.getElem?_eq_getElem (by omega)];rfl
  ·have:i=l.length - 1 - i:=by omega
   rw [← this,List.getD_eq_getElem?_getD,List.getElem?_eq_getElem hi];rfl
 ·rw [List.getElem?_eq_none (by rw [cT];omega),List.getElem?_eq_none (by rw [List.length_reverse];omega)]
theorem AL {l:List Int} {k:Nat} (h:k<l.length - 1 - k):((kT l k).set k ((kT l k).getD (l.length - 1 - k) 0)).set (l.length - 1 - k) ((kT l k).getD k 0)=kT l (k+1):=by
 refine List.ext_getElem? fun i=> ?_
 rw [List.getElem?_set,List.length_set,cT,List.getElem?_set,cT]
 by_cases hi:i<l.length
 ·rw [jH hi,jH hi,tE (by omega),tE (by omega)]
  by_cases h1:l.length - 1 - k=i
  ·rw [if_pos h1,if_pos (by omega),if_neg (by omega),if_pos (by omega)]
   congr 2;omega
  ·rw [if_neg h1]
   by_cases h2:k=i
   ·rw [if_pos h2,if_pos (by omega),if_neg (by omega),if_pos (by omega)]
    congr 2;omega
   ·rw [if_neg h2]
    congr 1
    by_cases h3:i<k∨l.length - 1<i+k
    ·rw [if_pos h3,if_pos (by omega)]
    ·rw [if_neg h3,if_neg (by omega)]
 ·rw [List.getElem?_eq_none (by rw [cT];omega),List.getElem?_eq_none (by rw [cT];omega),if_neg (by omega),if_neg (by omega)]
theorem dV (l:List Int) (hl:l.length≤1000000):Spec Tryz.prog 86 (Args [.ref 10000]) [(10000, .part 3 1 (l.map rI))] (.tup []) [(10000, .part 3 1 (l.reverse.map rI))]:=by
 (refine Spec.hd (C:=T.cfg [] []) (rs:= []) (T.ah _ _) Tryz.func86 rfl rfl Tryz.ntmps86 Tryz.results86 (by simp [AObj.isNest]) (by simp [AObj.isNest]) (by kernel_rfl) T.mixed fun X hX hP hC aJ bQ=> ?_)
 repeat' (first|refine Rn.p ?_|(with_reducible apply And.intro)|((first|(refine hK _ ?_;clear hK K)|with_reducible intro K hK|refine Rs.p ?_|((with_reducible first|apply oP|apply oQ);exact rfl));try simp only [go_sem,simprocAttr])|((with_reducible refine oD ?_ ?_);kernel_rfl)|((with_reducible intro h);try simp only [go_sem,simprocAttr] at h)|omega|intro h)
 refine ai (fun k:Nat=>2*k≤l.length+1) (fun k=>⟨[(0, .ref 10000),(2,eN k),(3,eN ((l.length:Int) - 1 - k))], [(10000, .part 3 1 ((kT l k).map rI))]⟩) (fun k=>l.length+1 - k) 0 (by omega) ?_ ?_
 ·refine Le.of ?_ ?_<;>simp [go_sem,simprocAttr,AK]
 rintro k hk
 rcases Nat.lt_or_ge (2*k+1) l.length with hlt|hge
 ·have hb:decide ((k:Int)<(l.length:Int) - 1 - (k:Int))=true:=decide_eq_true (by omega)
  have ht:((l.length:Int) - 1 - (k:Int)).toNat=l.length - 1 - k:=by omega
  repeat' (first|refine Rn.p ?_|(with_reducible apply And.intro)|((first|(refine hK _ ?_;clear hK K)|with_reducible intro K hK|refine Rs.p ?_|((with_reducible first|apply oP|apply oQ);exact rfl));try simp only [go_sem,simprocAttr,hb,ht,cT,EP])|((with_reducible refine oD ?_ ?_);kernel_rfl)|((with_reducible intro h);try simp only [go_sem,simprocAttr,hb,ht,cT,EP] at h)|omega|intro h)
  refine ⟨k+1,by omega, ?_,by omega⟩
  refine Le.of ?_ ?_<;>simp [go_sem,simprocAttr]
  ·omega
  ·rw [← AL (by omega),List.map_set,List.map_set]
   simp only [List.getD_eq_getElem?_getD]
 ·have hb:decide ((k:Int)<(l.length:Int) - 1 - (k:Int))=false:=decide_eq_false (by omega)
  repeat' (first|refine Rn.p ?_|(with_reducible apply And.intro)|((first|(refine hK _ ?_;clear hK K)|with_reducible intro K hK|refine Rs.p ?_|((with_reducible first|apply oP|apply oQ);exact rfl));try simp only [go_sem,simprocAttr,hb])|((with_reducible refine oD ?_ ?_);kernel_rfl)|((with_reducible intro h);try simp only [go_sem,simprocAttr,hb] at h)|omega|intro h)
  simp only [go_sem,simprocAttr,hb,C1 hge]
def gT:List Int→Int
 | []=>0
 |a::r=>r.foldl min a
theorem C2 {l:List Int} {k:Nat} (h0:0<k) (h:k<l.length):gT (l.take (k+1))=min (gT (l.take k)) (l.getD k 0):=by
 cases l with
 |nil=>simp at h
 |cons a r=>
  obtain ⟨k,rfl⟩:∃j,k=j+1:=⟨k - 1,by omega⟩
  simp only [List.length_cons] at h
  simp only [List.take_succ_cons,gT,List.getD_cons_succ]
  rw [List.take_add_one,List.foldl_append,List.getElem?_eq_getElem (by omega),List.getD_eq_getElem?_getD,List.getElem?_eq_getElem (by omega)]
  rfl
theorem Fb {l:List Int} (h:0<l.length):gT (l.take 1)=l.getD 0 0:=by
 cases l with
 |nil=>simp at h
 |cons a r=>simp [gT]
theorem jI (l:List Int) (h0:0<l.length) (hl:l.length≤1000000):Spec Tryz.prog 179 (Args [.d (sI l)]) [] (eN (gT l)) []:=by
 (refine Spec.hd (C:=T.cfg [] []) (rs:= [.t 2]) (T.ah _ _) Tryz.func179 rfl rfl Tryz.ntmps179 Tryz.results179 (by simp [AObj.isNest]) (by simp [AObj.isNest]) (by kernel_rfl) T.mixed fun X hX hP hC aJ bQ=> ?_)
 repeat' (first|refine Rn.p ?_|(with_reducible apply And.intro)|((first|(refine hK _ ?_;clear hK K)|with_reducible intro K hK|refine Rs.p ?_|((with_reducible first|apply oP|apply oQ);exact rfl));try simp only [go_sem,simprocAttr])|((with_reducible refine oD ?_ ?_);kernel_rfl)|((with_reducible intro h);try simp only [go_sem,simprocAttr] at h)|omega|intro h)
 refine ai (fun k:Nat=>0<k∧k≤l.length) (fun k=>⟨[(0, .d (sI l)),(3,eN (gT (l.take k))),(4,eN k)], []⟩) (fun k=>l.length - k) 1 (by omega) ?_ ?_
 ·refine Le.of ?_ ?_<;>simp [go_sem,simprocAttr,Fb h0]
 rintro k ⟨z8,hk⟩
 repeat' (first|refine Rn.p ?_|(with_reducible apply And.intro)|((first|(refine hK _ ?_;clear hK K)|with_reducible intro K hK|refine Rs.p ?_|((with_reducible first|apply oP|apply oQ);exact rfl));try simp only [go_sem,simprocAttr])|((with_reducible refine oD ?_ ?_);kernel_rfl)|((with_reducible intro h);try simp only [go_sem,simprocAttr] at h)|omega|intro h)
 ·refine ⟨k+1,by omega, ?_,by omega⟩
  refine Le.of ?_ ?_<;>simp [go_sem,simprocAttr]
  rw [C2 z8 (by omega),List.getD_eq_getElem?_getD]
 ·rw [List.take_of_length_le (by omega)]
theorem e8 (n:Int) (h0:0<n) (hl:n≤1000000):Spec Tryz.prog 116 (Args [.nil 3,eN n]) [] (.ref 10000) [(10000, .own 3 1 [])]:=by
 (refine Spec.s7 (C:=T.cfg [] []) (rs:= [.t 4]) [(10000,25)] (T.ah _ _) Tryz.func116 rfl rfl Tryz.ntmps116 Tryz.results116 (by simp [AObj.isNest]) (by simp [AObj.isNest]) (by first|(simp [look];done)|(simp [asN];done)|(intro l hl;simp only [asN];repeat (rw [if_neg (fun e=>by subst e;simp [look] at hl)]))) (by first|(simp [look];done)|(simp [asN];done)|(intro l hl;simp only [asN];repeat (rw [if_neg (fun e=>by subst e;simp [look] at hl)]))) (by kernel_rfl) T.mixed fun X hX hP hC aJ bQ=> ?_)
 repeat' (first|refine Rn.p ?_|(with_reducible apply And.intro)|((first|(refine hK _ ?_;clear hK K)|with_reducible intro K hK|refine Rs.p ?_|((with_reducible first|apply oP|apply oQ);exact rfl));try simp only [go_sem,simprocAttr])|((with_reducible refine oD ?_ ?_);kernel_rfl)|((with_reducible intro h);try simp only [go_sem,simprocAttr] at h)|omega|intro h)
end Go.Ab
end
section
namespace Go.Ab
open Go.Proofs
attribute [local congr] ACall.congr gd.congr Nx.congr
set_option maxRecDepth 10000
def vL (ls:List (List Int)):List (List D):=ls.map fun l=> [sI l]
theorem vL_length {ls:List (List Int)} :(vL ls).length=ls.length:=by simp [vL]
theorem xA {ls:List (List Int)} {k:Nat} (h:k<ls.length) (d:List D):(vL ls).getD k d= [sI (ls.getD k [])]:=by
 simp [vL,List.getD_eq_getElem?_getD,List.getElem?_eq_getElem h]
attribute [go_sem] vL_length
theorem vt {ls:List (List Int)} {k:Nat} (h:k<ls.length):(ls.take (k+1)).flatten=(ls.take k).flatten++ls.getD k []:=by
 rw [List.take_add_one,List.flatten_append,List.getElem?_eq_getElem h,List.getD_eq_getElem?_getD,List.getElem?_eq_getElem h]
 simp
theorem rK {ls:List (List Int)} {k:Nat} :(ls.take k).flatten.length≤ls.flatten.length:=by
 have:=congrArg (fun x=>x.flatten.length) (List.take_append_drop k ls)
 simp only [List.flatten_append,List.length_append] at this
 omega
theorem e9 (ls:List (List Int)) (hn:ls.length≤1000) (h0:0<ls.flatten.length) (hl:ls.flatten.length≤1000000):Spec Tryz.prog 72 (Args [.d (.sl 1 (vL ls))]) [] (.d (sI ls.flatten)) []:=by
 (refine Spec.hd (C:=T.cfg [] []) (rs:= [.t 2]) (T.ah _ _) Tryz.func72 rfl rfl Tryz.ntmps72 Tryz.results72 (by simp [AObj.isNest]) (by simp [AObj.isNest]) (by kernel_rfl) T.mixed fun X hX hP hC aJ bQ=> ?_)
 repeat' (first|refine Rn.p ?_|(with_reducible apply And.intro)|((first|(refine hK _ ?_;clear hK K)|with_reducible intro K hK|refine Rs.p ?_|((with_reducible first|apply oP|apply oQ);exact rfl)|(refine ak hX hC hP [(10000,33)] (e8 (ls.flatten.length:Int) (by omega) (by omega)) rfl rfl rfl ?_ ?_ ?_ ?_ ?_ ?_ ?_ ?_ ?_ ?_ ?_ ?_ ?_ ?_;(focus (simp only [go_sem,simprocAttr];done));(iterate 12 (focus (simp [go_sem,simprocAttr];done)));try simp only [List.map_cons,List.map_nil]));try simp only [go_sem,simprocAttr])|((with_reducible refine oD ?_ ?_);kernel_rfl)|((with_reducible intro h);try simp only [go_sem,simprocAttr] at h)|omega|intro h)
 refine ai (fun k:Nat=>k≤ls.length) (fun k=>⟨[(0, .d (.sl 1 (vL ls))),(9, .d (.sl 1 (vL ls))),(10,eN ls.length),(11,eN k),(3,eN ((ls.take k).flatten.length))], []⟩) (fun k=>ls.length - k) 0 (by omega) ?_ ?_
 ·(refine Le.of ?_ ?_<;>simp [go_sem,simprocAttr])
 ·rintro k hk
  rcases Nat.lt_or_ge k ls.length with hlt|hge
  ·have hb:decide ((k:Int)<(ls.length:Int))=true:=decide_eq_true (by omega)
   have hv:=xA hlt
   have hf:=vt hlt
   have MC:=rK (ls:=ls) (k:=k)
   have Jo:=rK (ls:=ls) (k:=k+1)
   rw [hf,List.length_append] at Jo
   have hneg:decide (((ls.take k).flatten.length:Int)+((ls.getD k []).length:Int)<0)=false:=decide_eq_false (by omega)
   repeat' (first|refine Rn.p ?_|(with_reducible apply And.intro)|((first|(refine hK _ ?_;clear hK K)|with_reducible intro K hK|refine Rs.p ?_|((with_reducible first|apply oP|apply oQ);exact rfl)|(refine ak hX hC hP [(10000,33)] (e8 (ls.flatten.length:Int) (by omega) (by omega)) rfl rfl rfl ?_ ?_ ?_ ?_ ?_ ?_ ?_ ?_ ?_ ?_ ?_ ?_ ?_ ?_;(focus (simp only [go_sem,simprocAttr,hb,hv,hneg];done));(iterate 12 (focus (simp [go_sem,simprocAttr,hb,hv,hneg];done)));try simp only [List.map_cons,List.map_nil]));try simp only [go_sem,simprocAttr,hb,hv,hneg])|((with_reducible refine oD ?_ ?_);kernel_rfl)|((with_reducible intro h);try simp only [go_sem,simprocAttr,hb,hv,hneg] at h)|omega|intro h)
   refine ⟨k+1,by omega, ?_,by omega⟩
   simp only [hf]
   refine Le.of ?_ ?_<;>simp [go_sem,simprocAttr,hb,hv,hneg]
  ·have hb:decide ((k:Int)<(ls.length:Int))=false:=decide_eq_false (by omega)
   have ht:ls.take k=ls:=List.take_of_length_le (by omega)
   repeat' (first|refine Rn.p ?_|(with_reducible apply And.intro)|((first|(refine hK _ ?_;clear hK K)|with_reducible intro K hK|refine Rs.p ?_|((with_reducible first|apply oP|apply oQ);exact rfl)|(refine ak hX hC hP [(10000,33)] (e8 (ls.flatten.length:Int) (by omega) (by omega)) rfl rfl rfl ?_ ?_ ?_ ?_ ?_ ?_ ?_ ?_ ?_ ?_ ?_ ?_ ?_ ?_;(focus (simp only [go_sem,simprocAttr,hb,ht];done));(iterate 12 (focus (simp [go_sem,simprocAttr,hb,ht];done)));try simp only [List.map_cons,List.map_nil]));try simp only [go_sem,simprocAttr,hb,ht])|((with_reducible refine oD ?_ ?_);kernel_rfl)|((with_reducible intro h);try simp only [go_sem,simprocAttr,hb,ht] at h)|omega|intro h)
   refine ai (fun k:Nat=>k≤ls.length) (fun k=>⟨[(25, .d (.sl 1 (vL ls))),(26,eN ls.length),(27,eN k),(6, .ref 33)], [(33, .own 3 1 ((ls.take k).flatten.map rI))]⟩) (fun k=>ls.length - k) 0 (by omega) ?_ ?_
   ·(refine Le.of ?_ ?_<;>simp [go_sem,simprocAttr,hb,ht])
   ·clear hb ht hk hge
    rintro k hk
    rcases Nat.lt_or_ge k ls.length with hlt|hge
    ·have hb:decide ((k:Int)<(ls.length:Int))=true:=decide_eq_true (by omega)
     have hv:=xA hlt
     have hf:=vt hlt
     have MC:=rK (ls:=ls) (k:=k)
     have Jo:=rK (ls:=ls) (k:=k+1)
     rw [hf,List.length_append] at Jo
     repeat' (first|refine Rn.p ?_|(with_reducible apply And.intro)|((first|(refine hK _ ?_;clear hK K)|with_reducible intro K hK|refine Rs.p ?_|((with_reducible first|apply oP|apply oQ);exact rfl)|(refine ak hX hC hP [(10000,33)] (e8 (ls.flatten.length:Int) (by omega) (by omega)) rfl rfl rfl ?_ ?_ ?_ ?_ ?_ ?_ ?_ ?_ ?_ ?_ ?_ ?_ ?_ ?_;(focus (simp only [go_sem,simprocAttr,hb,hv];done));(iterate 12 (focus (simp [go_sem,simprocAttr,hb,hv];done)));try simp only [List.map_cons,List.map_nil]));try simp only [go_sem,simprocAttr,hb,hv])|((with_reducible refine oD ?_ ?_);kernel_rfl)|((with_reducible intro h);try simp only [go_sem,simprocAttr,hb,hv] at h)|omega|intro h)
     refine ⟨k+1,by omega, ?_,by omega⟩
     simp only [hf]
     refine Le.of ?_ ?_<;>simp [go_sem,simprocAttr,hb,hv]
    ·have hb:decide ((k:Int)<(ls.length:Int))=false:=decide_eq_false (by omega)
     have ht:ls.take k=ls:=List.take_of_length_le (by omega)
     repeat' (first|refine Rn.p ?_|(with_reducible apply And.intro)|((first|(refine hK _ ?_;clear hK K)|with_reducible intro K hK|refine Rs.p ?_|((with_reducible first|apply oP|apply oQ);exact rfl)|(refine ak hX hC hP [(10000,33)] (e8 (ls.flatten.length:Int) (by omega) (by omega)) rfl rfl rfl ?_ ?_ ?_ ?_ ?_ ?_ ?_ ?_ ?_ ?_ ?_ ?_ ?_ ?_;(focus (simp only [go_sem,simprocAttr,hb,ht];done));(iterate 12 (focus (simp [go_sem,simprocAttr,hb,ht];done)));try simp only [List.map_cons,List.map_nil]));try simp only [go_sem,simprocAttr,hb,ht])|((with_reducible refine oD ?_ ?_);kernel_rfl)|((with_reducible intro h);try simp only [go_sem,simprocAttr,hb,ht] at h)|omega|intro h)
def iK (ls:List (List Int)) (k:Nat):List Int:=((List.range k).filter fun x=>decide ((ls.getD x []).length=0)).map Int.ofNat
theorem nr {ls:List (List Int)} {k:Nat} :iK ls (k+1)=iK ls k++if (ls.getD k []).length=0 then [(k:Int)] else []:=by
 simp only [iK,List.range_succ,List.filter_append,List.map_append,List.filter_cons,List.filter_nil]
 split<;>simp_all
theorem vu {ls:List (List Int)} {k:Nat} :(iK ls k).length≤k:=by
 simpa [iK] using List.length_filter_le (fun x=>decide ((ls.getD x []).length=0)) (List.range k)
theorem vv (ls:List (List Int)) (hn:ls.length≤1000):Spec Tryz.prog 115 (Args [.d (.sl 1 (vL ls))]) [] (.d (sI (iK ls ls.length))) []:=by
 (refine Spec.hd (C:=T.cfg [] []) (rs:= [.t 2]) (T.ah _ _) Tryz.func115 rfl rfl Tryz.ntmps115 Tryz.results115 (by simp [AObj.isNest]) (by simp [AObj.isNest]) (by kernel_rfl) T.mixed fun X hX hP hC aJ bQ=> ?_)
 repeat' (first|refine Rn.p ?_|(with_reducible apply And.intro)|((first|(refine hK _ ?_;clear hK K)|with_reducible intro K hK|refine Rs.p ?_|((with_reducible first|apply oP|apply oQ);exact rfl)|(refine ak hX hC hP [(10000,33)] (e8 (ls.flatten.length:Int) (by omega) (by omega)) rfl rfl rfl ?_ ?_ ?_ ?_ ?_ ?_ ?_ ?_ ?_ ?_ ?_ ?_ ?_ ?_;(focus (simp only [go_sem,simprocAttr];done));(iterate 12 (focus (simp [go_sem,simprocAttr];done)));try simp only [List.map_cons,List.map_nil]));try simp only [go_sem,simprocAttr])|((with_reducible refine oD ?_ ?_);kernel_rfl)|((with_reducible intro h);try simp only [go_sem,simprocAttr] at h)|omega|intro h)
 (refine dD hX 2 18 (.tip 3 1 []) (by simp only [go_sem,simprocAttr]) (by simp only [go_sem,simprocAttr]) (by decide) ⟨3,1,by decide, .inr rfl⟩ ?_;simp only [go_sem,simprocAttr])
 refine ai (fun k:Nat=>k≤ls.length) (fun k=>⟨[(5, .d (.sl 1 (vL ls))),(6,eN ls.length),(7,eN k),(2, .ref 18)], [(18, .tip 3 1 ((iK ls k).map rI))]⟩) (fun k=>ls.length - k) 0 (by omega) ?_ ?_
 ·refine Le.of ?_ ?_<;>simp [go_sem,simprocAttr,iK]
 ·rintro k hk
  rcases Nat.lt_or_ge k ls.length with hlt|hge
  ·have hb:decide ((k:Int)<(ls.length:Int))=true:=decide_eq_true (by omega)
   have hv:=xA hlt
   have hlen:=vu (ls:=ls) (k:=k)
   repeat' (first|refine Rn.p ?_|(with_reducible apply And.intro)|((first|(refine hK _ ?_;clear hK K)|with_reducible intro K hK|refine Rs.p ?_|((with_reducible first|apply oP|apply oQ);exact rfl)|(refine ak hX hC hP [(10000,33)] (e8 (ls.flatten.length:Int) (by omega) (by omega)) rfl rfl rfl ?_ ?_ ?_ ?_ ?_ ?_ ?_ ?_ ?_ ?_ ?_ ?_ ?_ ?_;(focus (simp only [go_sem,simprocAttr,hb,hv];done));(iterate 12 (focus (simp [go_sem,simprocAttr,hb,hv];done)));try simp only [List.map_cons,List.map_nil]));try simp only [go_sem,simprocAttr,hb,hv])|((with_reducible refine oD ?_ ?_);kernel_rfl)|((with_reducible intro h);try simp only [go_sem,simprocAttr,hb,hv] at h)|omega|intro h)
   ·refine ⟨k+1,by omega, ?_,by omega⟩
    rw [nr,if_pos (by omega)]
    refine Le.of ?_ ?_<;>simp [go_sem,simprocAttr,hb,hv]
    rfl
   ·refine ⟨k+1,by omega, ?_,by omega⟩
    rw [nr,if_neg (by omega),List.append_nil]
    refine Le.of ?_ ?_<;>simp [go_sem,simprocAttr,hb,hv]
  ·have hb:decide ((k:Int)<(ls.length:Int))=false:=decide_eq_false (by omega)
   obtain rfl:k=ls.length:=by omega
   repeat' (first|refine Rn.p ?_|(with_reducible apply And.intro)|((first|(refine hK _ ?_;clear hK K)|with_reducible intro K hK|refine Rs.p ?_|((with_reducible first|apply oP|apply oQ);exact rfl)|(refine ak hX hC hP [(10000,33)] (e8 (ls.flatten.length:Int) (by omega) (by omega)) rfl rfl rfl ?_ ?_ ?_ ?_ ?_ ?_ ?_ ?_ ?_ ?_ ?_ ?_ ?_ ?_;(focus (simp only [go_sem,simprocAttr,hb];done));(iterate 12 (focus (simp [go_sem,simprocAttr,hb];done)));try simp only [List.map_cons,List.map_nil]));try simp only [go_sem,simprocAttr,hb])|((with_reducible refine oD ?_ ?_);kernel_rfl)|((with_reducible intro h);try simp only [go_sem,simprocAttr,hb] at h)|omega|intro h)
theorem Fe {f:Edge→Int} {g:Gr} :Hp f g=vL (c7 f g):=rfl
theorem gU {f:Edge→Int} {g:Gr} :(c7 f g).length=g.n.toNat:=by simp [c7]
def bC (f:Edge→Int) (g:Gr):List Int:=iK (c7 f g) g.n.toNat
theorem fE (g:Gr) (hm:aH g=true):Spec Tryz.prog 68 (Args [.d (vw g)]) [] (.d (sI (bC (·.2) g))) []:=by
 rw [au]
 have hn:=aB hm
 have hle:(c7 (·.2) g).length≤1000:=by rw [gU];omega
 (refine Spec.hd (C:=T.cfg [] []) (rs:= [.t 2]) (T.ah _ _) Tryz.func68 rfl rfl Tryz.ntmps68 Tryz.results68 (by simp [AObj.isNest]) (by simp [AObj.isNest]) (by kernel_rfl) T.mixed fun X hX hP hC aJ bQ=> ?_)
 repeat' (first|refine Rn.p ?_|(with_reducible apply And.intro)|((first|(refine hK _ ?_;clear hK K)|with_reducible intro K hK|refine Rs.p ?_|((with_reducible first|apply oP|apply oQ);exact rfl)|(rw [Fe];refine aa hX hC hP (vv (c7 (·.2) g) hle) rfl rfl rfl (by simp only [go_sem,simprocAttr]) rfl ?_));try simp only [go_sem,simprocAttr])|((with_reducible refine oD ?_ ?_);kernel_rfl)|((with_reducible intro h);try simp only [go_sem,simprocAttr] at h)|omega|intro h)
 rw [gU];rfl
theorem AM (g:Gr) (hm:aH g=true):Spec Tryz.prog 69 (Args [.d (vw g)]) [] (.d (sI (bC (·.1) g))) []:=by
 rw [au]
 have hn:=aB hm
 have hle:(c7 (·.1) g).length≤1000:=by rw [gU];omega
 (refine Spec.hd (C:=T.cfg [] []) (rs:= [.t 2]) (T.ah _ _) Tryz.func69 rfl rfl Tryz.ntmps69 Tryz.results69 (by simp [AObj.isNest]) (by simp [AObj.isNest]) (by kernel_rfl) T.mixed fun X hX hP hC aJ bQ=> ?_)
 repeat' (first|refine Rn.p ?_|(with_reducible apply And.intro)|((first|(refine hK _ ?_;clear hK K)|with_reducible intro K hK|refine Rs.p ?_|((with_reducible first|apply oP|apply oQ);exact rfl)|(rw [Fe];refine aa hX hC hP (vv (c7 (·.1) g) hle) rfl rfl rfl (by simp only [go_sem,simprocAttr]) rfl ?_));try simp only [go_sem,simprocAttr])|((with_reducible refine oD ?_ ?_);kernel_rfl)|((with_reducible intro h);try simp only [go_sem,simprocAttr] at h)|omega|intro h)
 rw [gU];rfl
end Go.Ab
end
section
namespace Go.Ab
open Go.Proofs
attribute [local congr] ACall.congr gd.congr Nx.congr
set_option maxRecDepth 10000
def fc (g:Gr) (ws:List Int) (b:Int) (e:Int):Int:=if 0<ws.getD (tl g e.toNat).toNat 0∧(b<0∨tl g e.toNat<b) then tl g e.toNat else b
theorem Ff (g:Gr) (ws:List Int) (b:Int) (i:Nat):fc g ws b (i:Int)=if 0<ws.getD (g.es.getD i (0,0)).1.toNat 0∧(b<0∨(g.es.getD i (0,0)).1<b) then (g.es.getD i (0,0)).1 else b:=rfl
def vA (g:Gr) (ws:List Int) (es:List Int):Int:=es.foldl (fc g ws) (-1)
def jj (g:Gr) (ws:List Int) (at_:Int):Int:=vA g ws (pP g at_.toNat)
def kF (g:Gr) (ws:List Int):Nat→List Int→Int→List Int × Int
 |0,way,at_=>(way,at_)
 |f+1,way,at_=>if at_<0∨at_∈way then (way,at_) else kF g ws f (way++ [at_]) (jj g ws at_)
def jJ (g:Gr):List Int × Int:=kF g (cy g (aN g)) g.n.toNat [] (bI (fun n=>decide (0<n)) (cy g (aN g)))
def kU (l:List Int):List Int:=l.drop (fu l (gT l)).toNat++l.take (fu l (gT l)).toNat
def jK (g:Gr):List Int:=if (jJ g).2<0 then [] else kU ((jJ g).1.drop (fu (jJ g).1 (jJ g).2).toNat).reverse
theorem iu (n:Int):Spec Tryz.prog 178 (Args [eN n]) [] (eB (decide (0<n))) []:=by
 (refine Spec.hd (C:=T.cfg [] []) (rs:= [.t 2]) (T.ah _ _) Tryz.func178 rfl rfl Tryz.ntmps178 Tryz.results178 (by simp [AObj.isNest]) (by simp [AObj.isNest]) (by kernel_rfl) T.mixed fun X hX hP hC aJ bQ=> ?_)
 repeat' (first|refine Rn.p ?_|(with_reducible apply And.intro)|((first|(refine hK _ ?_;clear hK K)|with_reducible intro K hK|refine Rs.p ?_|((with_reducible first|apply oP|apply oQ);exact rfl));try simp only [go_sem,simprocAttr])|((with_reducible refine oD ?_ ?_);kernel_rfl)|((with_reducible intro h);try simp only [go_sem,simprocAttr] at h)|omega|intro h)
structure Way (g:Gr) (way:List Int):Prop where
 lo:∀x∈way,0≤x∧x<g.n
 fuel:way.length+left g way=g.n.toNat
theorem ou {g:Gr} :left g []=g.n.toNat:=by
 have:=(ej.nil g).fuel
 rw [List.length_nil,Nat.zero_add] at this
 exact this
theorem iL {g:Gr} {way:List Int} {a:Nat} (ha:a<g.n.toNat) (hn:(a:Int)∉way):left g way=left g (way++ [(a:Int)])+1:=by
 unfold left
 rw [← lH (p:=fun y:Nat=> !decide ((y:Int)∈way)) (x:=a) (by simp [hn]) ha]
 congr 1
 refine List.countP_congr fun y _=> ?_
 simp;omega
theorem Way.nil (g:Gr):Way g []:=⟨by simp,by rw [ou];simp⟩
theorem Way.next {g:Gr} {way:List Int} {a:Nat} (h:Way g way) (ha:a<g.n.toNat) (hn:(a:Int)∉way):Way g (way++ [(a:Int)]):=by
 refine ⟨fun x hx=> ?_, ?_⟩
 ·rcases List.mem_append.1 hx with hx|hx
  ·exact h.lo x hx
  ·simp at hx;omega
 ·have h1:=h.fuel
  have h2:=iL ha hn
  rw [List.length_append,List.length_singleton];omega
theorem xB {g:Gr} {x:Nat} {e:Int} (h:e∈pP g x):∃i:Nat,e=i∧i<g.es.length∧hd g i=x:=by
 simp only [pP,eZ,List.mem_map,List.mem_filter,List.mem_range,decide_eq_true_eq] at h
 obtain ⟨i,⟨h1,h2⟩,rfl⟩:=h
 exact ⟨i,rfl,h1,h2⟩
theorem C3 {α β:Type} {f:β→α→β} {b:β} {l:List α} {j:Nat} {x:α} (h:l[j]? =some x):(l.take (j+1)).foldl f b=f ((l.take j).foldl f b) x:=by
 rw [List.take_add_one,List.foldl_append,h];rfl
theorem qx {g:Gr} (hm:aH g=true) (ws:List Int):∀(l:List Int) (b:Int),(b= -1∨(0≤b∧b<g.n))→(∀e∈l,∃i:Nat,e=i∧i<g.es.length)→l.foldl (fc g ws) b= -1∨(0≤l.foldl (fc g ws) b∧l.foldl (fc g ws) b<g.n)
 | [],b,hb,_=>hb
 |e::l,b,hb,h=>by
  refine qx hm ws l _ ?_ fun e he=>h e (List.mem_cons_of_mem _ he)
  obtain ⟨i,rfl,hi⟩:=h e List.mem_cons_self
  obtain ⟨⟨h1,h2⟩,_⟩:=cH hm hi
  unfold fc
  split
  ·exact .inr ⟨h1,h2⟩
  ·exact hb
theorem Fg {g:Gr} {x:Nat} :∀e∈pP g x,∃i:Nat,e=i∧i<g.es.length:=fun e he=>by
 obtain ⟨i,h1,h2,_⟩:=xB he;exact ⟨i,h1,h2⟩
theorem jL {g:Gr} {ws way:List Int} {a:Int} (h:a<0∨a∈way):∀f,kF g ws f way a=(way,a)
 |0=>rfl
 |f+1=>by simp only [kF];rw [if_pos h]
theorem dN {l:List Int} {x:Int} (h:x∈l):∃k:Nat,fu l x=k∧k<l.length∧l.getD k 0=x:=by
 rcases fZ (f:=fun y:Int=>decide (x=y)) (l:=l) 0 with ⟨h1,h2⟩|⟨k,h1,h2,h3,_⟩
 ·exact absurd (h2 x h) (by simp)
 ·exact ⟨k,h1,h2,(of_decide_eq_true h3).symm⟩
theorem iM:∀ {l:List Int},0<l.length→gT l∈l
 |a::r,_=>by
  have:∀(r:List Int) (a:Int),r.foldl min a=a∨r.foldl min a∈r:=by
   intro r
   induction r with
   |nil=>intro a;exact .inl rfl
   |cons b r ih=>
    intro a
    simp only [List.foldl_cons]
    rcases ih (min a b) with h|h
    ·by_cases hab:a≤b
     ·left;rw [h];omega
     ·right;rw [h];simp;omega
    ·right;simp [h]
  rcases this r a with h|h
  ·simp [gT,h]
  ·simp [gT,h]
theorem iN (g:Gr) (hm:aH g=true):Spec Tryz.prog 133 (Args [.d (vw g)]) [] (.d (sI (jK g))) []:=by
 have hn:=aB hm
 have BL:(cy g (aN g)).length≤9223372036854775807:=by rw [wts_length];omega
 (refine Spec.hd (C:=T.cfg [30] []) (rs:= [.t 2]) (T.ah _ _) Tryz.func133 rfl rfl Tryz.ntmps133 Tryz.results133 (by simp [AObj.isNest]) (by simp [AObj.isNest]) (by kernel_rfl) T.mixed fun X hX hP hC aJ bQ=> ?_)
 repeat' (first|refine Rn.p ?_|(with_reducible apply And.intro)|((first|(refine hK _ ?_;clear hK K)|with_reducible intro K hK|refine Rs.p ?_|((with_reducible first|apply oP|apply oQ);exact rfl)|refine aa hX hC hP (jG g hm) rfl rfl rfl (by simp only [go_sem,simprocAttr]) rfl ?_|refine aa hX hC hP (cI bz.nil _ [] _ iu (cy g (aN g)) BL) rfl rfl rfl (by simp only [go_sem,simprocAttr]) rfl ?_|(refine ag hX hC hP (aX way a bU) rfl rfl rfl ?_ ?_ ?_ ?_;iterate 3 (focus (simp only [go_sem,simprocAttr];done)))|(refine ag hX hC hP (aR way a bU) rfl rfl rfl ?_ ?_ ?_ ?_;iterate 3 (focus (simp only [go_sem,simprocAttr];done)))|(refine ak hX hC hP [(10000,75)] (dV (way.drop k) hlr) rfl rfl rfl ?_ ?_ ?_ ?_ ?_ ?_ ?_ ?_ ?_ ?_ ?_ ?_ ?_ ?_;(focus (simp only [go_sem,simprocAttr];done));(iterate 12 (focus (simp [go_sem,simprocAttr];done)));try simp only [List.map_cons,List.map_nil])|(refine ag hX hC hP (jI rev tF hrev) rfl rfl rfl ?_ ?_ ?_ ?_;iterate 3 (focus (simp only [go_sem,simprocAttr];done)))|(refine ag hX hC hP (aR rev (gT rev) vB) rfl rfl rfl ?_ ?_ ?_ ?_;iterate 3 (focus (simp only [go_sem,simprocAttr];done)))|(refine cz hX hC hP (e9 [rev.drop k2,rev.take k2] hc1 BM Hq) rfl rfl rfl ?_ ?_ rfl ?_;iterate 2 (focus (simp only [go_sem,simprocAttr];done))));try simp only [go_sem,simprocAttr])|((with_reducible refine oD ?_ ?_);kernel_rfl)|((with_reducible intro h);try simp only [go_sem,simprocAttr] at h)|omega|intro h)
 (refine dD hX 6 30 (.own 3 1 []) (by simp only [go_sem,simprocAttr]) (by simp only [go_sem,simprocAttr]) (by decide) ⟨3,1,by decide, .inl rfl⟩ ?_;simp only [go_sem,simprocAttr])
 refine ai (fun i:List Int × Int=>Way g i.1∧(i.2= -1∨(0≤i.2∧i.2<g.n))∧kF g (cy g (aN g)) (left g i.1) i.1 i.2=jJ g) (fun i=>⟨[(0, .d (vw g)),(4, .d (sI (cy g (aN g)))),(5,eN i.2),(6, .ref 30)], [(30, .own 3 1 (i.1.map rI))]⟩) (fun i=>left g i.1) ([],bI (fun n=>decide (0<n)) (cy g (aN g))) ⟨Way.nil g, ?_, ?_⟩ ?_ ?_
 ·rcases yR (fun n:Int=>decide (0<n)) (cy g (aN g)) with h|h
  ·exact .inl h
  ·rw [wts_length] at h;exact .inr (by simp only;omega)
 ·rw [ou];rfl
 ·(refine Le.of ?_ ?_<;>simp [go_sem,simprocAttr])
 rintro ⟨way,at_⟩ ⟨y6,pn,hrun⟩
 simp only at y6 pn hrun ⊢
 have Q7:way.length≤64:=by have:=y6.fuel;omega
 have bU:way.length≤9223372036854775807:=by omega
 by_cases h0:at_<0
 ·have hb1:decide (0≤at_)=false:=decide_eq_false (by omega)
  have hb3:decide (at_<0)=true:=decide_eq_true h0
  have he:jK g= []:=by
   have:=jL (g:=g) (ws:=cy g (aN g)) (way:=way) (.inl h0) (left g way)
   rw [hrun] at this
   simp only [jK,this];rw [if_pos h0]
  repeat' (first|refine Rn.p ?_|(with_reducible apply And.intro)|((first|(refine hK _ ?_;clear hK K)|with_reducible intro K hK|refine Rs.p ?_|((with_reducible first|apply oP|apply oQ);exact rfl)|refine aa hX hC hP (jG g hm) rfl rfl rfl (by simp only [go_sem,simprocAttr,hb1,hb3]) rfl ?_|refine aa hX hC hP (cI bz.nil _ [] _ iu (cy g (aN g)) BL) rfl rfl rfl (by simp only [go_sem,simprocAttr,hb1,hb3]) rfl ?_|(refine ag hX hC hP (aX way a bU) rfl rfl rfl ?_ ?_ ?_ ?_;iterate 3 (focus (simp only [go_sem,simprocAttr,hb1,hb3];done)))|(refine ag hX hC hP (aR way a bU) rfl rfl rfl ?_ ?_ ?_ ?_;iterate 3 (focus (simp only [go_sem,simprocAttr,hb1,hb3];done)))|(refine ak hX hC hP [(10000,75)] (dV (way.drop k) hlr) rfl rfl rfl ?_ ?_ ?_ ?_ ?_ ?_ ?_ ?_ ?_ ?_ ?_ ?_ ?_ ?_;(focus (simp only [go_sem,simprocAttr,hb1,hb3];done));(iterate 12 (focus (simp [go_sem,simprocAttr,hb1,hb3];done)));try simp only [List.map_cons,List.map_nil])|(refine ag hX hC hP (jI rev tF hrev) rfl rfl rfl ?_ ?_ ?_ ?_;iterate 3 (focus (simp only [go_sem,simprocAttr,hb1,hb3];done)))|(refine ag hX hC hP (aR rev (gT rev) vB) rfl rfl rfl ?_ ?_ ?_ ?_;iterate 3 (focus (simp only [go_sem,simprocAttr,hb1,hb3];done)))|(refine cz hX hC hP (e9 [rev.drop k2,rev.take k2] hc1 BM Hq) rfl rfl rfl ?_ ?_ rfl ?_;iterate 2 (focus (simp only [go_sem,simprocAttr,hb1,hb3];done))));try simp only [go_sem,simprocAttr,hb1,hb3])|((with_reducible refine oD ?_ ?_);kernel_rfl)|((with_reducible intro h);try simp only [go_sem,simprocAttr,hb1,hb3] at h)|omega|intro h)
  rw [he];rfl
 obtain ⟨a,rfl⟩:∃a:Nat,at_=a:=⟨at_.toNat,by omega⟩
 have Iu:a<g.n.toNat:=by omega
 have hb1:decide (0≤(a:Int))=true:=decide_eq_true (by omega)
 by_cases hmem:(a:Int)∈way
 ·have hb2:decide ((a:Int)∈way)=true:=decide_eq_true hmem
  have hb3:decide ((a:Int)<0)=false:=decide_eq_false h0
  have hend:=jL (g:=g) (ws:=cy g (aN g)) (.inr hmem) (left g way)
  rw [hrun] at hend
  obtain ⟨k,hk,cu,_⟩:=dN hmem
  obtain ⟨rev,jk⟩:∃rev,rev=(way.drop k).reverse:=⟨_,rfl⟩
  have hrl:rev.length=way.length - k:=by rw [jk];simp
  have tF:0<rev.length:=by omega
  have hrev:rev.length≤1000000:=by omega
  have vB:rev.length≤9223372036854775807:=by omega
  have hlr:(way.drop k).length≤1000000:=by simp;omega
  obtain ⟨k2,hk2,Q8,_⟩:=dN (iM tF)
  have hc1: [rev.drop k2,rev.take k2].length≤1000:=by simp
  have BM:0< [rev.drop k2,rev.take k2].flatten.length:=by simp;omega
  have Hq: [rev.drop k2,rev.take k2].flatten.length≤1000000:=by simp;omega
  have Jp:jK g= [rev.drop k2,rev.take k2].flatten:=by
   simp only [jK,hend]
   rw [if_neg h0,hk]
   simp only [Int.toNat_natCast, ← jk,kU,hk2,List.flatten_cons,List.flatten_nil,List.append_nil]
  repeat' (first|(show bV _ (.seq (.region 20 _ _) _) _ _;(refine cE hX 75 rfl (.inr rfl) ?_;simp only [go_sem,simprocAttr,hb1,hb2,hb3,hk,hk2, ← List.map_take, ← List.map_drop,List.take_length, ← jk,vL]))|refine Rn.p ?_|(with_reducible apply And.intro)|((first|(refine hK _ ?_;clear hK K)|with_reducible intro K hK|refine Rs.p ?_|((with_reducible first|apply oP|apply oQ);exact rfl)|refine aa hX hC hP (jG g hm) rfl rfl rfl (by simp only [go_sem,simprocAttr,hb1,hb2,hb3,hk,hk2, ← List.map_take, ← List.map_drop,List.take_length, ← jk,vL]) rfl ?_|refine aa hX hC hP (cI bz.nil _ [] _ iu (cy g (aN g)) BL) rfl rfl rfl (by simp only [go_sem,simprocAttr,hb1,hb2,hb3,hk,hk2, ← List.map_take, ← List.map_drop,List.take_length, ← jk,vL]) rfl ?_|(refine ag hX hC hP (aX way a bU) rfl rfl rfl ?_ ?_ ?_ ?_;iterate 3 (focus (simp only [go_sem,simprocAttr,hb1,hb2,hb3,hk,hk2, ← List.map_take, ← List.map_drop,List.take_length, ← jk,vL];done)))|(refine ag hX hC hP (aR way a bU) rfl rfl rfl ?_ ?_ ?_ ?_;iterate 3 (focus (simp only [go_sem,simprocAttr,hb1,hb2,hb3,hk,hk2, ← List.map_take, ← List.map_drop,List.take_length, ← jk,vL];done)))|(refine ak hX hC hP [(10000,75)] (dV (way.drop k) hlr) rfl rfl rfl ?_ ?_ ?_ ?_ ?_ ?_ ?_ ?_ ?_ ?_ ?_ ?_ ?_ ?_;(focus (simp only [go_sem,simprocAttr,hb1,hb2,hb3,hk,hk2, ← List.map_take, ← List.map_drop,List.take_length, ← jk,vL];done));(iterate 12 (focus (simp [go_sem,simprocAttr,hb1,hb2,hb3,hk,hk2, ← List.map_take, ← List.map_drop,List.take_length, ← jk,vL];done)));try simp only [List.map_cons,List.map_nil])|(refine ag hX hC hP (jI rev tF hrev) rfl rfl rfl ?_ ?_ ?_ ?_;iterate 3 (focus (simp only [go_sem,simprocAttr,hb1,hb2,hb3,hk,hk2, ← List.map_take, ← List.map_drop,List.take_length, ← jk,vL];done)))|(refine ag hX hC hP (aR rev (gT rev) vB) rfl rfl rfl ?_ ?_ ?_ ?_;iterate 3 (focus (simp only [go_sem,simprocAttr,hb1,hb2,hb3,hk,hk2, ← List.map_take, ← List.map_drop,List.take_length, ← jk,vL];done)))|(refine cz hX hC hP (e9 [rev.drop k2,rev.take k2] hc1 BM Hq) rfl rfl rfl ?_ ?_ rfl ?_;iterate 2 (focus (simp only [go_sem,simprocAttr,hb1,hb2,hb3,hk,hk2, ← List.map_take, ← List.map_drop,List.take_length, ← jk,vL];done))));try simp only [go_sem,simprocAttr,hb1,hb2,hb3,hk,hk2, ← List.map_take, ← List.map_drop,List.take_length, ← jk,vL])|((with_reducible refine oD ?_ ?_);kernel_rfl)|((with_reducible intro h);try simp only [go_sem,simprocAttr,hb1,hb2,hb3,hk,hk2, ← List.map_take, ← List.map_drop,List.take_length, ← jk,vL] at h)|omega|intro h)
  rw [Jp]
 ·have hb2:decide ((a:Int)∈way)=false:=decide_eq_false hmem
  have hv:=ot (f:=(·.2)) Iu
  have GA:(pP g a).length≤g.es.length:=ir
  repeat' (first|refine Rn.p ?_|(with_reducible apply And.intro)|((first|(refine hK _ ?_;clear hK K)|with_reducible intro K hK|refine Rs.p ?_|((with_reducible first|apply oP|apply oQ);exact rfl)|refine aa hX hC hP (jG g hm) rfl rfl rfl (by simp only [go_sem,simprocAttr,hb1,hb2,hv,au]) rfl ?_|refine aa hX hC hP (cI bz.nil _ [] _ iu (cy g (aN g)) BL) rfl rfl rfl (by simp only [go_sem,simprocAttr,hb1,hb2,hv,au]) rfl ?_|(refine ag hX hC hP (aX way a bU) rfl rfl rfl ?_ ?_ ?_ ?_;iterate 3 (focus (simp only [go_sem,simprocAttr,hb1,hb2,hv,au];done)))|(refine ag hX hC hP (aR way a bU) rfl rfl rfl ?_ ?_ ?_ ?_;iterate 3 (focus (simp only [go_sem,simprocAttr,hb1,hb2,hv,au];done)))|(refine ak hX hC hP [(10000,75)] (dV (way.drop k) hlr) rfl rfl rfl ?_ ?_ ?_ ?_ ?_ ?_ ?_ ?_ ?_ ?_ ?_ ?_ ?_ ?_;(focus (simp only [go_sem,simprocAttr,hb1,hb2,hv,au];done));(iterate 12 (focus (simp [go_sem,simprocAttr,hb1,hb2,hv,au];done)));try simp only [List.map_cons,List.map_nil])|(refine ag hX hC hP (jI rev tF hrev) rfl rfl rfl ?_ ?_ ?_ ?_;iterate 3 (focus (simp only [go_sem,simprocAttr,hb1,hb2,hv,au];done)))|(refine ag hX hC hP (aR rev (gT rev) vB) rfl rfl rfl ?_ ?_ ?_ ?_;iterate 3 (focus (simp only [go_sem,simprocAttr,hb1,hb2,hv,au];done)))|(refine cz hX hC hP (e9 [rev.drop k2,rev.take k2] hc1 BM Hq) rfl rfl rfl ?_ ?_ rfl ?_;iterate 2 (focus (simp only [go_sem,simprocAttr,hb1,hb2,hv,au];done))));try simp only [go_sem,simprocAttr,hb1,hb2,hv,au])|((with_reducible refine oD ?_ ?_);kernel_rfl)|((with_reducible intro h);try simp only [go_sem,simprocAttr,hb1,hb2,hv,au] at h)|omega|intro h)
  refine ai (fun j:Nat=>j≤(pP g a).length) (fun j=>⟨[(39,eN j),(38,eN (pP g a).length),(37, .d (sI (pP g a))),(7,eN (vA g (cy g (aN g)) ((pP g a).take j))),(0, .d (J5 g)),(4, .d (sI (cy g (aN g)))),(6, .ref 30)], [(30, .own 3 1 ((way++ [(a:Int)]).map rI))]⟩) (fun j=>(pP g a).length - j) 0 (by simp) ?_ ?_
  ·refine Le.of ?_ ?_<;>simp [go_sem,simprocAttr,hb1,hb2,hv,au,pP,rI,vA]
  rintro j hj
  rcases Nat.lt_or_ge j (pP g a).length with hlt|hge
  ·have hb4:decide ((j:Int)<((pP g a).length:Int))=true:=decide_eq_true (by omega)
   obtain ⟨i,hi,hil,hit⟩:=xB (List.getElem_mem hlt)
   have hi1:(pP g a)[j]? =some (i:Int):=by rw [List.getElem?_eq_getElem hlt,hi]
   have hi2:(pP g a).getD j 0=(i:Int):=by rw [List.getD_eq_getElem?_getD,hi1];rfl
   obtain ⟨⟨Jn,x8⟩,_⟩:=cH hm hil
   have hstep:vA g (cy g (aN g)) ((pP g a).take (j+1))=fc g (cy g (aN g)) (vA g (cy g (aN g)) ((pP g a).take j)) i:=C3 hi1
   rw [Ff] at hstep
   repeat' (first|refine Rn.p ?_|(with_reducible apply And.intro)|((first|(refine hK _ ?_;clear hK K)|with_reducible intro K hK|refine Rs.p ?_|((with_reducible first|apply oP|apply oQ);exact rfl)|refine aa hX hC hP (jG g hm) rfl rfl rfl (by simp only [go_sem,simprocAttr,hb4,hi2,wts_length]) rfl ?_|refine aa hX hC hP (cI bz.nil _ [] _ iu (cy g (aN g)) BL) rfl rfl rfl (by simp only [go_sem,simprocAttr,hb4,hi2,wts_length]) rfl ?_|(refine ag hX hC hP (aX way a bU) rfl rfl rfl ?_ ?_ ?_ ?_;iterate 3 (focus (simp only [go_sem,simprocAttr,hb4,hi2,wts_length];done)))|(refine ag hX hC hP (aR way a bU) rfl rfl rfl ?_ ?_ ?_ ?_;iterate 3 (focus (simp only [go_sem,simprocAttr,hb4,hi2,wts_length];done)))|(refine ak hX hC hP [(10000,75)] (dV (way.drop k) hlr) rfl rfl rfl ?_ ?_ ?_ ?_ ?_ ?_ ?_ ?_ ?_ ?_ ?_ ?_ ?_ ?_;(focus (simp only [go_sem,simprocAttr,hb4,hi2,wts_length];done));(iterate 12 (focus (simp [go_sem,simprocAttr,hb4,hi2,wts_length];done)));try simp only [List.map_cons,List.map_nil])|(refine ag hX hC hP (jI rev tF hrev) rfl rfl rfl ?_ ?_ ?_ ?_;iterate 3 (focus (simp only [go_sem,simprocAttr,hb4,hi2,wts_length];done)))|(refine ag hX hC hP (aR rev (gT rev) vB) rfl rfl rfl ?_ ?_ ?_ ?_;iterate 3 (focus (simp only [go_sem,simprocAttr,hb4,hi2,wts_length];done)))|(refine cz hX hC hP (e9 [rev.drop k2,rev.take k2] hc1 BM Hq) rfl rfl rfl ?_ ?_ rfl ?_;iterate 2 (focus (simp only [go_sem,simprocAttr,hb4,hi2,wts_length];done))));try simp only [go_sem,simprocAttr,hb4,hi2,wts_length])|((with_reducible refine oD ?_ ?_);kernel_rfl)|((with_reducible intro h);try simp only [go_sem,simprocAttr,hb4,hi2,wts_length] at h)|omega|intro h)
   all_goals (refine ⟨j+1,by omega, ?_,by omega⟩;first|rw [if_pos (by omega)] at hstep|rw [if_neg (by omega)] at hstep)
   all_goals (refine Le.of ?_ ?_<;>simp [go_sem,simprocAttr,hb4,hi2,wts_length,hstep])
  ·have hb4:decide ((j:Int)<((pP g a).length:Int))=false:=decide_eq_false (by omega)
   have ht:(pP g a).take j=pP g a:=List.take_of_length_le (by omega)
   repeat' (first|refine Rn.p ?_|(with_reducible apply And.intro)|((first|(refine hK _ ?_;clear hK K)|with_reducible intro K hK|refine Rs.p ?_|((with_reducible first|apply oP|apply oQ);exact rfl)|refine aa hX hC hP (jG g hm) rfl rfl rfl (by simp only [go_sem,simprocAttr,hb4,ht]) rfl ?_|refine aa hX hC hP (cI bz.nil _ [] _ iu (cy g (aN g)) BL) rfl rfl rfl (by simp only [go_sem,simprocAttr,hb4,ht]) rfl ?_|(refine ag hX hC hP (aX way a bU) rfl rfl rfl ?_ ?_ ?_ ?_;iterate 3 (focus (simp only [go_sem,simprocAttr,hb4,ht];done)))|(refine ag hX hC hP (aR way a bU) rfl rfl rfl ?_ ?_ ?_ ?_;iterate 3 (focus (simp only [go_sem,simprocAttr,hb4,ht];done)))|(refine ak hX hC hP [(10000,75)] (dV (way.drop k) hlr) rfl rfl rfl ?_ ?_ ?_ ?_ ?_ ?_ ?_ ?_ ?_ ?_ ?_ ?_ ?_ ?_;(focus (simp only [go_sem,simprocAttr,hb4,ht];done));(iterate 12 (focus (simp [go_sem,simprocAttr,hb4,ht];done)));try simp only [List.map_cons,List.map_nil])|(refine ag hX hC hP (jI rev tF hrev) rfl rfl rfl ?_ ?_ ?_ ?_;iterate 3 (focus (simp only [go_sem,simprocAttr,hb4,ht];done)))|(refine ag hX hC hP (aR rev (gT rev) vB) rfl rfl rfl ?_ ?_ ?_ ?_;iterate 3 (focus (simp only [go_sem,simprocAttr,hb4,ht];done)))|(refine cz hX hC hP (e9 [rev.drop k2,rev.take k2] hc1 BM Hq) rfl rfl rfl ?_ ?_ rfl ?_;iterate 2 (focus (simp only [go_sem,simprocAttr,hb4,ht];done))));try simp only [go_sem,simprocAttr,hb4,ht])|((with_reducible refine oD ?_ ?_);kernel_rfl)|((with_reducible intro h);try simp only [go_sem,simprocAttr,hb4,ht] at h)|omega|intro h)
   refine ⟨(way++ [(a:Int)],jj g (cy g (aN g)) a),⟨y6.next Iu hmem,qx hm _ _ _ (.inl rfl) Fg, ?_⟩, ?_, ?_⟩
   ·simp only
    rw [← hrun,iL Iu hmem]
    simp only [kF]
    rw [if_neg (by intro h;rcases h with h|h;omega;exact hmem h)]
   ·refine Le.of ?_ ?_<;>simp [go_sem,simprocAttr,hb4,ht,jj]
   ·have:=iL Iu hmem;simp only;omega
end Go.Ab
end
section
namespace Go.Ab
open Go.Proofs
attribute [local congr] ACall.congr gd.congr Nx.congr
set_option maxRecDepth 10000
def eF (f:Int × Int × List Int):AV:= .agg [eN f.1,eN f.2.1, .d (sI f.2.2)]
attribute [go_sem] eF
def iO (g:Gr):Int:=bI (fun e:Edge=>decide (e.1=e.2)) g.es
def nt (g:Gr) (i:Nat):Bool:=decide (g.es.getD i (0,0)∈g.es.take i)
def dF (g:Gr):Int:=bI (nt g) (List.range g.es.length)
def fe (g:Gr) (Pq bare:List Int):Int × Int × List Int:=
 if aH g=false then (1,0, []) else
 if 0≤iO g then (13,iO g, []) else
 if 0≤dF g then (14,dF g, []) else
 if 0<Pq.length then (15,0,Pq) else
 if 1<bare.length then (16,0,bare.take 2) else (0,0, [])
def bN (g:Gr):Int × Int × List Int:=fe g (jK g) (bC (·.2) g)
theorem jM (e:Edge):Spec Tryz.prog 131 (Args [eE e]) [] (eB (decide (e.1=e.2))) []:=by
 (refine Spec.hd (C:=T.cfg [] []) (rs:= [.t 2]) (T.ah _ _) Tryz.func131 rfl rfl Tryz.ntmps131 Tryz.results131 (by simp [AObj.isNest]) (by simp [AObj.isNest]) (by kernel_rfl) T.mixed fun X hX hP hC aJ bQ=> ?_)
 repeat' (first|refine Rn.p ?_|(with_reducible apply And.intro)|((first|(refine hK _ ?_;clear hK K)|with_reducible intro K hK|refine Rs.p ?_|((with_reducible first|apply oP|apply oQ);exact rfl));try simp only [go_sem,simprocAttr])|((with_reducible refine oD ?_ ?_);kernel_rfl)|((with_reducible intro h);try simp only [go_sem,simprocAttr] at h)|omega|intro h)
theorem ga {n k:Nat} (h:k<n) (d:Nat):(List.range n).getD k d=k:=by
 simp [List.getD_eq_getElem?_getD,List.getElem?_range h]
theorem kG (g:Gr) (hl:g.es.length≤1000):Spec Tryz.prog 88 (Args [eG g]) [] (eF (bN g)) []:=by
 have hl:g.es.length≤9223372036854775807:=by omega
 (refine Spec.hd (C:=T.cfg [] []) (rs:= [.c 2 66]) (T.ah _ _) Tryz.func88 rfl rfl Tryz.ntmps88 Tryz.results88 (by simp [AObj.isNest]) (by simp [AObj.isNest]) (by kernel_rfl) T.mixed fun X hX hP hC aJ bQ=> ?_)
 cases hm:aH g with
 |false=>
  repeat' (first|refine Rn.p ?_|(with_reducible apply And.intro)|((first|(refine hK _ ?_;clear hK K)|with_reducible intro K hK|refine Rs.p ?_|((with_reducible first|apply oP|apply oQ);exact rfl)|refine aa hX hC hP (fD g hl) rfl rfl rfl (by simp only [go_sem,simprocAttr,hm]) rfl ?_|refine aa hX hC hP (bH bz.nil _ [] _ jM g.es hl) rfl rfl rfl (by simp only [go_sem,simprocAttr,hm]) rfl ?_|refine aa hX hC hP (gS g hm) rfl rfl rfl (by simp only [go_sem,simprocAttr,hm]) rfl ?_|refine aa hX hC hP (iN g hm) rfl rfl rfl (by simp only [go_sem,simprocAttr,hm]) rfl ?_|refine aa hX hC hP (fE g hm) rfl rfl rfl (by simp only [go_sem,simprocAttr,hm]) rfl ?_|refine aa hX hC hP (dM (g.es.take k) (g.es.getD k (0,0)) hlk) rfl rfl rfl (by simp only [go_sem,simprocAttr,hm]) rfl ?_);try simp only [go_sem,simprocAttr,hm])|((with_reducible refine oD ?_ ?_);kernel_rfl)|((with_reducible intro h);try simp only [go_sem,simprocAttr,hm] at h)|omega|intro h)
  all_goals simp [bN,fe,hm]
 |true=>
 have hn:=aB hm
 by_cases hlo:0≤iO g
 ·have hb1:decide (0≤bI (fun p:Edge=>decide (p.1=p.2)) g.es)=true:=decide_eq_true hlo
  repeat' (first|refine Rn.p ?_|(with_reducible apply And.intro)|((first|(refine hK _ ?_;clear hK K)|with_reducible intro K hK|refine Rs.p ?_|((with_reducible first|apply oP|apply oQ);exact rfl)|refine aa hX hC hP (fD g hl) rfl rfl rfl (by simp only [go_sem,simprocAttr,hm,hb1]) rfl ?_|refine aa hX hC hP (bH bz.nil _ [] _ jM g.es hl) rfl rfl rfl (by simp only [go_sem,simprocAttr,hm,hb1]) rfl ?_|refine aa hX hC hP (gS g hm) rfl rfl rfl (by simp only [go_sem,simprocAttr,hm,hb1]) rfl ?_|refine aa hX hC hP (iN g hm) rfl rfl rfl (by simp only [go_sem,simprocAttr,hm,hb1]) rfl ?_|refine aa hX hC hP (fE g hm) rfl rfl rfl (by simp only [go_sem,simprocAttr,hm,hb1]) rfl ?_|refine aa hX hC hP (dM (g.es.take k) (g.es.getD k (0,0)) hlk) rfl rfl rfl (by simp only [go_sem,simprocAttr,hm,hb1]) rfl ?_);try simp only [go_sem,simprocAttr,hm,hb1])|((with_reducible refine oD ?_ ?_);kernel_rfl)|((with_reducible intro h);try simp only [go_sem,simprocAttr,hm,hb1] at h)|omega|intro h)
  all_goals (
   have hc:bN g=(13,iO g, []):=by
    simp only [bN,fe];rw [if_neg (by simp [hm]),if_pos hlo]
   rw [hc]<;>rfl)
 have hb1:decide (0≤bI (fun p:Edge=>decide (p.1=p.2)) g.es)=false:=decide_eq_false hlo
 repeat' (first|refine Rn.p ?_|(with_reducible apply And.intro)|((first|(refine hK _ ?_;clear hK K)|with_reducible intro K hK|refine Rs.p ?_|((with_reducible first|apply oP|apply oQ);exact rfl)|refine aa hX hC hP (fD g hl) rfl rfl rfl (by simp only [go_sem,simprocAttr,hm,hb1]) rfl ?_|refine aa hX hC hP (bH bz.nil _ [] _ jM g.es hl) rfl rfl rfl (by simp only [go_sem,simprocAttr,hm,hb1]) rfl ?_|refine aa hX hC hP (gS g hm) rfl rfl rfl (by simp only [go_sem,simprocAttr,hm,hb1]) rfl ?_|refine aa hX hC hP (iN g hm) rfl rfl rfl (by simp only [go_sem,simprocAttr,hm,hb1]) rfl ?_|refine aa hX hC hP (fE g hm) rfl rfl rfl (by simp only [go_sem,simprocAttr,hm,hb1]) rfl ?_|refine aa hX hC hP (dM (g.es.take k) (g.es.getD k (0,0)) hlk) rfl rfl rfl (by simp only [go_sem,simprocAttr,hm,hb1]) rfl ?_);try simp only [go_sem,simprocAttr,hm,hb1])|((with_reducible refine oD ?_ ?_);kernel_rfl)|((with_reducible intro h);try simp only [go_sem,simprocAttr,hm,hb1] at h)|omega|intro h)
 refine ai (fun k:Nat=>k≤g.es.length∧∀j,j<k→nt g j=false) (fun k=>⟨[(23,eN k),(22,eN g.es.length),(21, .d (sE g.es)),(1, .ptr 1 0),(2, .ptr 2 0)], [(1, .box [eN g.n, .d (sE g.es)]),(2, .box [eN 0,eN 0, .nil 3])]⟩) (fun k=>g.es.length - k) 0 (by simp) ?_ ?_
 ·(refine Le.of ?_ ?_<;>simp [go_sem,simprocAttr,hm,hb1])
 rintro k ⟨hk,Fh⟩
 rcases Nat.lt_or_ge k g.es.length with hlt|hge
 ·have hb2:decide ((k:Int)<(g.es.length:Int))=true:=decide_eq_true (by omega)
  have hlk:(g.es.take k).length≤9223372036854775807:=by rw [List.length_take];omega
  repeat' (first|refine Rn.p ?_|(with_reducible apply And.intro)|((first|(refine hK _ ?_;clear hK K)|with_reducible intro K hK|refine Rs.p ?_|((with_reducible first|apply oP|apply oQ);exact rfl)|refine aa hX hC hP (fD g hl) rfl rfl rfl (by simp only [go_sem,simprocAttr,hm,hb1,hb2, ← List.map_take]) rfl ?_|refine aa hX hC hP (bH bz.nil _ [] _ jM g.es hl) rfl rfl rfl (by simp only [go_sem,simprocAttr,hm,hb1,hb2, ← List.map_take]) rfl ?_|refine aa hX hC hP (gS g hm) rfl rfl rfl (by simp only [go_sem,simprocAttr,hm,hb1,hb2, ← List.map_take]) rfl ?_|refine aa hX hC hP (iN g hm) rfl rfl rfl (by simp only [go_sem,simprocAttr,hm,hb1,hb2, ← List.map_take]) rfl ?_|refine aa hX hC hP (fE g hm) rfl rfl rfl (by simp only [go_sem,simprocAttr,hm,hb1,hb2, ← List.map_take]) rfl ?_|refine aa hX hC hP (dM (g.es.take k) (g.es.getD k (0,0)) hlk) rfl rfl rfl (by simp only [go_sem,simprocAttr,hm,hb1,hb2, ← List.map_take]) rfl ?_);try simp only [go_sem,simprocAttr,hm,hb1,hb2, ← List.map_take])|((with_reducible refine oD ?_ ?_);kernel_rfl)|((with_reducible intro h);try simp only [go_sem,simprocAttr,hm,hb1,hb2, ← List.map_take] at h)|omega|intro h)
  any_goals (
   have Og:dF g=(k:Int):=cQ (d:=0) (by simpa using hlt) (fun j hj=>by rw [ga (by omega)];exact Fh j hj) (by rw [ga hlt];exact decide_eq_true h)
   have hc:bN g=(14,dF g, []):=by
    simp only [bN,fe];rw [if_neg (by simp [hm]),if_neg hlo,if_pos (by omega)]
   rw [hc]<;>first|rfl|exact Og.symm)
  refine ⟨k+1,⟨by omega,fun j hj=> ?_⟩, ?_,by omega⟩
  ·by_cases hjk:j=k
   ·subst hjk;exact decide_eq_false h
   ·exact Fh j (by omega)
  ·(refine Le.of ?_ ?_<;>simp [go_sem,simprocAttr,hm,hb1,hb2, ← List.map_take])
 ·have hb2:decide ((k:Int)<(g.es.length:Int))=false:=decide_eq_false (by omega)
  have Fi:¬0≤dF g:=by
   have:dF g= -1:=cA 0 fun j hj=>by
    rw [List.length_range] at hj
    rw [ga hj];exact Fh j (by omega)
   omega
  repeat' (first|refine Rn.p ?_|(with_reducible apply And.intro)|((first|(refine hK _ ?_;clear hK K)|with_reducible intro K hK|refine Rs.p ?_|((with_reducible first|apply oP|apply oQ);exact rfl)|refine aa hX hC hP (fD g hl) rfl rfl rfl (by simp only [go_sem,simprocAttr,hm,hb1,hb2]) rfl ?_|refine aa hX hC hP (bH bz.nil _ [] _ jM g.es hl) rfl rfl rfl (by simp only [go_sem,simprocAttr,hm,hb1,hb2]) rfl ?_|refine aa hX hC hP (gS g hm) rfl rfl rfl (by simp only [go_sem,simprocAttr,hm,hb1,hb2]) rfl ?_|refine aa hX hC hP (iN g hm) rfl rfl rfl (by simp only [go_sem,simprocAttr,hm,hb1,hb2]) rfl ?_|refine aa hX hC hP (fE g hm) rfl rfl rfl (by simp only [go_sem,simprocAttr,hm,hb1,hb2]) rfl ?_|refine aa hX hC hP (dM (g.es.take k) (g.es.getD k (0,0)) hlk) rfl rfl rfl (by simp only [go_sem,simprocAttr,hm,hb1,hb2]) rfl ?_);try simp only [go_sem,simprocAttr,hm,hb1,hb2])|((with_reducible refine oD ?_ ?_);kernel_rfl)|((with_reducible intro h);try simp only [go_sem,simprocAttr,hm,hb1,hb2] at h)|omega|intro h)
  all_goals (
   have hc:bN g=if 0<(jK g).length then (15,0,jK g) else if 1<(bC (·.2) g).length then (16,0,(bC (·.2) g).take 2) else (0,0, []):=by
    simp only [bN,fe];rw [if_neg (by simp [hm]),if_neg hlo,if_neg Fi]
   first|rw [if_pos (by omega)] at hc|(rw [if_neg (by omega)] at hc;first|rw [if_pos (by omega)] at hc|rw [if_neg (by omega)] at hc)
   rw [hc]<;>first|rfl|simp only [List.map_take])
end Go.Ab
end
section
namespace Go.Ab
open Go.Proofs
attribute [local congr] ACall.congr gd.congr Nx.congr
set_option maxRecDepth 10000
theorem bu (ps:List Int) (x:Int) (hl:ps.length≤9223372036854775807):
 Spec Tryz.prog 192 (Args [.d (sI ps),eN x]) [] (eN (fu ps x)) []:=by
 (refine Spec.hd (C:=T.cfg [] []) (rs:= [.t 4]) (T.ah _ _) Tryz.func192 rfl rfl Tryz.ntmps192 Tryz.results192 (by simp [AObj.isNest]) (by simp [AObj.isNest]) (by kernel_rfl) T.mixed fun X hX hP hC aJ bQ=> ?_)
 repeat' (first|refine Rn.p ?_|(with_reducible apply And.intro)|((first|(refine hK _ ?_;clear hK K)|with_reducible intro K hK|refine Rs.p ?_|((with_reducible first|apply oP|apply oQ);exact rfl));try simp only [go_sem,simprocAttr])|((with_reducible refine oD ?_ ?_);kernel_rfl)|((with_reducible intro h);try simp only [go_sem,simprocAttr] at h)|omega|intro h)
 refine ai (fun k:Nat=>k≤ps.length∧∀j,j<k→decide (x=ps.getD j 0)=false) (fun k=>⟨[(0, .d (sI ps)),(1,eN x),(5,eN k)], []⟩) (fun k=>ps.length - k) 0 (by simp) ?_ ?_
 ·(refine ⟨cP ?_,fun _ _ h=>h⟩;simp [go_sem,simprocAttr])
 rintro k ⟨hk,hg⟩
 repeat' (first|refine Rn.p ?_|(with_reducible apply And.intro)|((first|(refine hK _ ?_;clear hK K)|with_reducible intro K hK|refine Rs.p ?_|((with_reducible first|apply oP|apply oQ);exact rfl));try simp only [go_sem,simprocAttr])|((with_reducible refine oD ?_ ?_);kernel_rfl)|((with_reducible intro h);try simp only [go_sem,simprocAttr] at h)|omega|intro h)
 ·exact (cQ (by omega) hg (by simpa using h.symm)).symm
 ·refine ⟨k+1,⟨by omega,fun j hj=> ?_⟩, ?_,by omega⟩
  ·by_cases hjk:j=k
   ·subst hjk;exact fun e=>h (Eq.symm e)
   ·simpa using hg j (by omega)
  ·(refine ⟨cP ?_,fun _ _ h=>h⟩;simp [go_sem,simprocAttr])
 ·exact (cA 0 fun j hj=>hg j (by omega)).symm
def aK (f:Edge→Int) (es:List Edge) (k:Nat) (x:Int):List Int:=((List.range k).filter fun i=>decide (f (es.getD i (0,0))=x)).map Int.ofNat
theorem lI (f:Edge→Int) (es:List Edge) (k x:Nat):eZ f es k x=aK f es k (x:Int):=rfl
theorem iw {f:Edge→Int} {es:List Edge} {k:Nat} {x:Int} :(aK f es k x).length≤k:=by
 simpa [aK] using List.length_filter_le (fun i=>decide (f (es.getD i (0,0))=x)) (List.range k)
theorem tG {f:Edge→Int} {es:List Edge} {k:Nat} {x:Int} :aK f es (k+1) x=aK f es k x++if f (es.getD k (0,0))=x then [(k:Int)] else []:=by
 simp only [aK,List.range_succ,List.filter_append,List.map_append,List.filter_cons,List.filter_nil]
 split<;>simp_all
def lJ (b:Bool) (e:Edge):Int:=if b then e.1 else e.2
theorem pQ (g:Gr) (x:Int) (b:Bool) (hl:g.es.length≤1000):Spec Tryz.prog 56 (Args [eG g,eN x,eB b]) [] (.d (sI (aK (lJ b) g.es g.es.length x))) []:=by
 (refine Spec.hd (C:=T.cfg [] []) (rs:= [.t 6]) (T.ah _ _) Tryz.func56 rfl rfl Tryz.ntmps56 Tryz.results56 (by simp [AObj.isNest]) (by simp [AObj.isNest]) (by kernel_rfl) T.mixed fun X hX hP hC aJ bQ=> ?_)
 repeat' (first|refine Rn.p ?_|(with_reducible apply And.intro)|((first|(refine hK _ ?_;clear hK K)|with_reducible intro K hK|refine Rs.p ?_|((with_reducible first|apply oP|apply oQ);exact rfl));try simp only [go_sem,simprocAttr])|((with_reducible refine oD ?_ ?_);kernel_rfl)|((with_reducible intro h);try simp only [go_sem,simprocAttr] at h)|omega|intro h)
 (refine pM hX 7 9 45 (by simp only [go_sem,simprocAttr]) rfl (by first|exact .inl rfl|exact .inr rfl) (by decide) ?_;simp only [go_sem,simprocAttr])
 refine ai (fun k:Nat=>k≤g.es.length) (fun k=>⟨[(1,eN x),(2,eB b),(3, .ptr 3 0),(8,eN k),(7, .ref 45)], [(3, .box [eN g.n, .d (sE g.es)]),(45, .tip 3 1 ((aK (lJ b) g.es k x).map rI))]⟩) (fun k=>g.es.length - k) 0 (by simp) ?_ ?_
 ·refine Le.of ?_ ?_<;>simp [go_sem,simprocAttr,aK]
 rintro k hk
 rcases Nat.lt_or_ge k g.es.length with hlt|hge
 ·have hb:decide ((k:Int)<(g.es.length:Int))=true:=decide_eq_true (by omega)
  have jh:=iw (f:=lJ b) (es:=g.es) (k:=k) (x:=x)
  cases b
  ·have cn:aK (lJ false) g.es (k+1) x=aK (lJ false) g.es k x++if (g.es.getD k (0,0)).2=x then [(k:Int)] else []:=tG
   repeat' (first|refine Rn.p ?_|(with_reducible apply And.intro)|((first|(refine hK _ ?_;clear hK K)|with_reducible intro K hK|refine Rs.p ?_|((with_reducible first|apply oP|apply oQ);exact rfl));try simp only [go_sem,simprocAttr,hb])|((with_reducible refine oD ?_ ?_);kernel_rfl)|((with_reducible intro h);try simp only [go_sem,simprocAttr,hb] at h)|omega|intro h)
   all_goals (first|rw [if_pos (by assumption)] at cn|rw [if_neg (by assumption),List.append_nil] at cn)
   all_goals (refine ⟨k+1,by omega, ?_,by omega⟩;refine Le.of ?_ ?_<;>simp [go_sem,simprocAttr,hb,cn,rI])
  ·have cn:aK (lJ true) g.es (k+1) x=aK (lJ true) g.es k x++if (g.es.getD k (0,0)).1=x then [(k:Int)] else []:=tG
   repeat' (first|refine Rn.p ?_|(with_reducible apply And.intro)|((first|(refine hK _ ?_;clear hK K)|with_reducible intro K hK|refine Rs.p ?_|((with_reducible first|apply oP|apply oQ);exact rfl));try simp only [go_sem,simprocAttr,hb])|((with_reducible refine oD ?_ ?_);kernel_rfl)|((with_reducible intro h);try simp only [go_sem,simprocAttr,hb] at h)|omega|intro h)
   all_goals (first|rw [if_pos (by assumption)] at cn|rw [if_neg (by assumption),List.append_nil] at cn)
   all_goals (refine ⟨k+1,by omega, ?_,by omega⟩;refine Le.of ?_ ?_<;>simp [go_sem,simprocAttr,hb,cn,rI])
 ·have hb:decide ((k:Int)<(g.es.length:Int))=false:=decide_eq_false (by omega)
  obtain rfl:k=g.es.length:=by omega
  repeat' (first|refine Rn.p ?_|(with_reducible apply And.intro)|((first|(refine hK _ ?_;clear hK K)|with_reducible intro K hK|refine Rs.p ?_|((with_reducible first|apply oP|apply oQ);exact rfl));try simp only [go_sem,simprocAttr,hb])|((with_reducible refine oD ?_ ?_);kernel_rfl)|((with_reducible intro h);try simp only [go_sem,simprocAttr,hb] at h)|omega|intro h)
theorem cq (g:Gr) (b:Bool) (hl:g.es.length≤1000) (hn:0≤g.n∧g.n≤1000):Spec Tryz.prog 31 (Args [eG g,eB b]) [] (.d (sI (bC (lJ (!b)) g))) []:=by
 (refine Spec.hd (C:=T.cfg [] []) (rs:= [.t 4]) (T.ah _ _) Tryz.func31 rfl rfl Tryz.ntmps31 Tryz.results31 (by simp [AObj.isNest]) (by simp [AObj.isNest]) (by kernel_rfl) T.mixed fun X hX hP hC aJ bQ=> ?_)
 repeat' (first|refine Rn.p ?_|(with_reducible apply And.intro)|((first|(refine hK _ ?_;clear hK K)|with_reducible intro K hK|refine Rs.p ?_|((with_reducible first|apply oP|apply oQ);exact rfl)|refine aa hX hC hP (pQ g (k:Int) (!b) hl) rfl rfl rfl (by simp only [go_sem,simprocAttr]) rfl ?_);try simp only [go_sem,simprocAttr])|((with_reducible refine oD ?_ ?_);kernel_rfl)|((with_reducible intro h);try simp only [go_sem,simprocAttr] at h)|omega|intro h)
 (refine pM hX 5 7 24 (by simp only [go_sem,simprocAttr]) rfl (by first|exact .inl rfl|exact .inr rfl) (by decide) ?_;simp only [go_sem,simprocAttr])
 refine ai (fun k:Nat=>k≤g.n.toNat) (fun k=>⟨[(1,eB b),(2, .ptr 2 0),(6,eN k),(5, .ref 24)], [(2, .box [eN g.n, .d (sE g.es)]),(24, .tip 3 1 ((iK (c7 (lJ (!b)) g) k).map rI))]⟩) (fun k=>g.n.toNat - k) 0 (by simp) ?_ ?_
 ·refine Le.of ?_ ?_<;>simp [go_sem,simprocAttr,iK]
 rintro k hk
 rcases Nat.lt_or_ge k g.n.toNat with hlt|hge
 ·have hb:decide ((k:Int)<g.n)=true:=decide_eq_true (by omega)
  have jh:=vu (ls:=c7 (lJ (!b)) g) (k:=k)
  have he:(c7 (lJ (!b)) g).getD k []=aK (lJ (!b)) g.es g.es.length (k:Int):=by
   simp [c7,List.getD_eq_getElem?_getD,List.getElem?_range hlt,lI]
  have cn:=nr (ls:=c7 (lJ (!b)) g) (k:=k)
  rw [he] at cn
  repeat' (first|refine Rn.p ?_|(with_reducible apply And.intro)|((first|(refine hK _ ?_;clear hK K)|with_reducible intro K hK|refine Rs.p ?_|((with_reducible first|apply oP|apply oQ);exact rfl)|refine aa hX hC hP (pQ g (k:Int) (!b) hl) rfl rfl rfl (by simp only [go_sem,simprocAttr,hb]) rfl ?_);try simp only [go_sem,simprocAttr,hb])|((with_reducible refine oD ?_ ?_);kernel_rfl)|((with_reducible intro h);try simp only [go_sem,simprocAttr,hb] at h)|omega|intro h)
  all_goals (first|rw [if_pos (by omega)] at cn|rw [if_neg (by omega),List.append_nil] at cn)
  all_goals (refine ⟨k+1,by omega, ?_,by omega⟩;refine Le.of ?_ ?_<;>simp [go_sem,simprocAttr,hb,cn,rI])
 ·have hb:decide ((k:Int)<g.n)=false:=decide_eq_false (by omega)
  obtain rfl:k=g.n.toNat:=by omega
  repeat' (first|refine Rn.p ?_|(with_reducible apply And.intro)|((first|(refine hK _ ?_;clear hK K)|with_reducible intro K hK|refine Rs.p ?_|((with_reducible first|apply oP|apply oQ);exact rfl)|refine aa hX hC hP (pQ g (k:Int) (!b) hl) rfl rfl rfl (by simp only [go_sem,simprocAttr,hb]) rfl ?_);try simp only [go_sem,simprocAttr,hb])|((with_reducible refine oD ?_ ?_);kernel_rfl)|((with_reducible intro h);try simp only [go_sem,simprocAttr,hb] at h)|omega|intro h)
  rfl
end Go.Ab
end
section
namespace Go.Ab
open Go.Proofs
attribute [local congr] ACall.congr gd.congr Nx.congr
set_option maxRecDepth 10000
def rB (b:Bool):List D:= [.sc (.bool b)]
def sB (l:List Bool):D:= .sl 1 (l.map rB)
theorem getD_rB (l:List Bool) (i:Nat):(l.map rB).getD i [.sc (.bool false)]= [.sc (.bool (l.getD i false))]:=by
 simp only [List.getD_eq_getElem?_getD,List.getElem?_map]
 cases l[i]? <;>rfl
attribute [go_sem] getD_rB sB
theorem lK (l:List Bool) (k:Nat) (v:Bool):(l.map rB).set k [.sc (.bool v)]=(l.set k v).map rB:=by
 rw [List.map_set];rfl
theorem vC {α:Type} {n k:Nat} {f:Nat→α} {v:α} :((List.range n).map f).set k v=(List.range n).map fun y=>if y=k then v else f y:=by
 refine List.ext_getElem? fun i=> ?_
 rw [List.getElem?_set,List.length_map,List.length_range]
 by_cases hi:i<n
 ·rw [List.getElem?_map,List.getElem?_map,List.getElem?_range hi]
  by_cases h:k=i
  ·subst h;simp [hi]
  ·have:¬i=k:=fun e=>h e.symm
   simp [h,this]
 ·rw [List.getElem?_eq_none (by simp;omega),List.getElem?_eq_none (by simp;omega)]
  split
  ·rw [if_neg (by omega)]
  ·rfl
def jN (n k:Nat):List Bool:=(List.range n).map fun y=>decide (y<k)
def er (g:Gr) (l:List Bool) (j:Nat):List Bool:=(List.range g.n.toNat).map fun y:Nat=>(List.range j).any fun i=>decide (hd g i=(y:Int))&&(l.getD (tl g i).toNat false&&l.getD (hd g i).toNat false)
def ff (g:Gr):Nat→List Bool
 |0=>jN g.n.toNat g.n.toNat
 |k+1=>er g (ff g k) g.es.length
theorem trueK_length {n k:Nat} :(jN n k).length=n:=by simp [jN]
theorem nextK_length {g:Gr} {l:List Bool} {j:Nat} :(er g l j).length=g.n.toNat:=by simp [er]
theorem leftK_length {g:Gr} {k:Nat} :(ff g k).length=g.n.toNat:=by
 cases k
 ·exact trueK_length
 ·exact nextK_length
theorem AO {n:Nat} :List.replicate n [D.sc (.bool false)]=(jN n 0).map rB:=by
 refine List.ext_getElem? fun i=> ?_
 by_cases hi:i<n
 ·simp [jN,hi,rB,List.getElem?_range hi]
 ·rw [List.getElem?_eq_none (by simp;omega),List.getElem?_eq_none (by simp [jN];omega)]
theorem kH {n k:Nat} :(jN n k).set k true=jN n (k+1):=by
 unfold jN;rw [vC]
 refine List.map_congr_left fun y _=> ?_
 split
 ·rename_i h;subst h;simp
 ·rename_i h
  rw [Bool.eq_iff_iff];simp;omega
theorem AQ {g:Gr} {l:List Bool} :List.replicate g.n.toNat [D.sc (.bool false)]=(er g l 0).map rB:=by
 refine List.ext_getElem? fun i=> ?_
 by_cases hi:i<g.n.toNat
 ·simp [er,hi,rB,List.getElem?_range hi]
 ·rw [List.getElem?_eq_none (by simp;omega),List.getElem?_eq_none (by simp [er];omega)]
theorem C4 {g:Gr} {l:List Bool} {j:Nat} (h0:0≤hd g j) (h:(l.getD (tl g j).toNat false&&l.getD (hd g j).toNat false)=true):(er g l j).set (hd g j).toNat true=er g l (j+1):=by
 unfold er;rw [vC]
 refine List.map_congr_left fun y _=> ?_
 rw [List.range_succ,List.any_append]
 simp only [List.any_cons,List.any_nil,h,Bool.and_true,Bool.or_false]
 split
 ·rename_i e
  have:hd g j=(y:Int):=by omega
  simp [this]
 ·rename_i e
  have:¬hd g j=(y:Int):=by omega
  simp [this]
theorem Fj {g:Gr} {l:List Bool} {j:Nat} (h:(l.getD (tl g j).toNat false&&l.getD (hd g j).toNat false)=false):er g l j=er g l (j+1):=by
 unfold er
 refine List.map_congr_left fun y _=> ?_
 rw [List.range_succ,List.any_append]
 simp only [List.any_cons,List.any_nil,h,Bool.and_false,Bool.or_false]
attribute [go_sem] trueK_length nextK_length leftK_length
theorem cJ (g:Gr) (hm:aH g=true):Spec Tryz.prog 191 (Args [eG g]) [] (.d (sB (ff g g.n.toNat))) []:=by
 have hn:=aB hm
 (refine Spec.hd (C:=T.cfg [] []) (rs:= [.t 2]) (T.ah _ _) Tryz.func191 rfl rfl Tryz.ntmps191 Tryz.results191 (by simp [AObj.isNest]) (by simp [AObj.isNest]) (by kernel_rfl) T.mixed fun X hX hP hC aJ bQ=> ?_)
 repeat' (first|(show bV _ (.seq (.region 6 _ _) _) _ _;(refine cE hX 11 rfl (.inl rfl) ?_;simp only [go_sem,simprocAttr]))|(show bV _ (.region 8 _ _) _ _;(refine cE hX 29 rfl (.inl rfl) ?_;simp only [go_sem,simprocAttr]))|refine Rn.p ?_|(with_reducible apply And.intro)|((first|(refine hK _ ?_;clear hK K)|with_reducible intro K hK|refine Rs.p ?_|((with_reducible first|apply oP|apply oQ);exact rfl));try simp only [go_sem,simprocAttr])|((with_reducible refine oD ?_ ?_);kernel_rfl)|((with_reducible intro h);try simp only [go_sem,simprocAttr] at h)|omega|intro h)
 refine ai (fun k:Nat=>k≤g.n.toNat) (fun k=>⟨[(1, .ptr 1 0),(4,eN k),(3, .ref 11)], [(1, .box [eN g.n, .d (sE g.es)]),(11, .own 4 1 ((jN g.n.toNat k).map rB))]⟩) (fun k=>g.n.toNat - k) 0 (by simp) ?_ ?_
 ·refine Le.of ?_ ?_<;>simp [go_sem,simprocAttr]
  exact AO
 rintro k hk
 rcases Nat.lt_or_ge k g.n.toNat with hlt|hge
 ·have hb:decide ((k:Int)<g.n)=true:=decide_eq_true (by omega)
  repeat' (first|(show bV _ (.seq (.region 6 _ _) _) _ _;(refine cE hX 11 rfl (.inl rfl) ?_;simp only [go_sem,simprocAttr,hb,lK,kH]))|(show bV _ (.region 8 _ _) _ _;(refine cE hX 29 rfl (.inl rfl) ?_;simp only [go_sem,simprocAttr,hb,lK,kH]))|refine Rn.p ?_|(with_reducible apply And.intro)|((first|(refine hK _ ?_;clear hK K)|with_reducible intro K hK|refine Rs.p ?_|((with_reducible first|apply oP|apply oQ);exact rfl));try simp only [go_sem,simprocAttr,hb,lK,kH])|((with_reducible refine oD ?_ ?_);kernel_rfl)|((with_reducible intro h);try simp only [go_sem,simprocAttr,hb,lK,kH] at h)|omega|intro h)
  refine ⟨k+1,by omega, ?_,by omega⟩
  (refine Le.of ?_ ?_<;>simp [go_sem,simprocAttr])
 ·have hb:decide ((k:Int)<g.n)=false:=decide_eq_false (by omega)
  obtain rfl:k=g.n.toNat:=by omega
  repeat' (first|(show bV _ (.seq (.region 6 _ _) _) _ _;(refine cE hX 11 rfl (.inl rfl) ?_;simp only [go_sem,simprocAttr,hb]))|(show bV _ (.region 8 _ _) _ _;(refine cE hX 29 rfl (.inl rfl) ?_;simp only [go_sem,simprocAttr,hb]))|refine Rn.p ?_|(with_reducible apply And.intro)|((first|(refine hK _ ?_;clear hK K)|with_reducible intro K hK|refine Rs.p ?_|((with_reducible first|apply oP|apply oQ);exact rfl));try simp only [go_sem,simprocAttr,hb])|((with_reducible refine oD ?_ ?_);kernel_rfl)|((with_reducible intro h);try simp only [go_sem,simprocAttr,hb] at h)|omega|intro h)
  clear hb hk hge
  refine ai (fun k:Nat=>k≤g.n.toNat) (fun k=>⟨[(1, .ptr 1 0),(5,eN k),(3, .d (sB (ff g k)))], [(1, .box [eN g.n, .d (sE g.es)])]⟩) (fun k=>g.n.toNat - k) 0 (by simp) ?_ ?_
  ·refine Le.of ?_ ?_<;>simp [go_sem,simprocAttr,ff]
  rintro k hk
  rcases Nat.lt_or_ge k g.n.toNat with hlt|hge
  ·have hb:decide ((k:Int)<g.n)=true:=decide_eq_true (by omega)
   repeat' (first|(show bV _ (.seq (.region 6 _ _) _) _ _;(refine cE hX 11 rfl (.inl rfl) ?_;simp only [go_sem,simprocAttr,hb]))|(show bV _ (.region 8 _ _) _ _;(refine cE hX 29 rfl (.inl rfl) ?_;simp only [go_sem,simprocAttr,hb]))|refine Rn.p ?_|(with_reducible apply And.intro)|((first|(refine hK _ ?_;clear hK K)|with_reducible intro K hK|refine Rs.p ?_|((with_reducible first|apply oP|apply oQ);exact rfl));try simp only [go_sem,simprocAttr,hb])|((with_reducible refine oD ?_ ?_);kernel_rfl)|((with_reducible intro h);try simp only [go_sem,simprocAttr,hb] at h)|omega|intro h)
   refine ai (fun j:Nat=>j≤g.es.length) (fun j=>⟨[(1, .ptr 1 0),(5,eN k),(3, .d (sB (ff g k))),(7,eN j),(6, .ref 29)], [(1, .box [eN g.n, .d (sE g.es)]),(29, .own 4 1 ((er g (ff g k) j).map rB))]⟩) (fun j=>g.es.length - j) 0 (by simp) ?_ ?_
   ·refine Le.of ?_ ?_<;>simp [go_sem,simprocAttr]
    exact AQ
   rintro j hj
   rcases Nat.lt_or_ge j g.es.length with hjl|ME
   ·have hb2:decide ((j:Int)<(g.es.length:Int))=true:=decide_eq_true (by omega)
    obtain ⟨⟨Jn,x8⟩,⟨Cx,wX⟩⟩:=cH hm hjl
    repeat' (first|(show bV _ (.seq (.region 6 _ _) _) _ _;(refine cE hX 11 rfl (.inl rfl) ?_;simp only [go_sem,simprocAttr,hb2,lK]))|(show bV _ (.region 8 _ _) _ _;(refine cE hX 29 rfl (.inl rfl) ?_;simp only [go_sem,simprocAttr,hb2,lK]))|refine Rn.p ?_|(with_reducible apply And.intro)|((first|(refine hK _ ?_;clear hK K)|with_reducible intro K hK|refine Rs.p ?_|((with_reducible first|apply oP|apply oQ);exact rfl));try simp only [go_sem,simprocAttr,hb2,lK])|((with_reducible refine oD ?_ ?_);kernel_rfl)|((with_reducible intro h);try simp only [go_sem,simprocAttr,hb2,lK] at h)|omega|intro h)
    ·have hy:(er g (ff g k) j).set (g.es.getD j (0,0)).2.toNat true=er g (ff g k) (j+1):=C4 Cx (by rw [Bool.and_eq_true];exact ⟨by assumption,by assumption⟩)
     refine ⟨j+1,by omega, ?_,by omega⟩
     refine Le.of ?_ ?_<;>simp [go_sem,simprocAttr]
     rw [← hy,List.map_set];rfl
    all_goals (
     have hy:er g (ff g k) j=er g (ff g k) (j+1):=Fj (Bool.and_eq_false_iff.2 (by first|exact .inl (by assumption)|exact .inr (by assumption)))
     refine ⟨j+1,by omega, ?_,by omega⟩
     refine Le.of ?_ ?_<;>simp [go_sem,simprocAttr, ← hy])
   ·have hb2:decide ((j:Int)<(g.es.length:Int))=false:=decide_eq_false (by omega)
    obtain rfl:j=g.es.length:=by omega
    repeat' (first|(show bV _ (.seq (.region 6 _ _) _) _ _;(refine cE hX 11 rfl (.inl rfl) ?_;simp only [go_sem,simprocAttr,hb2]))|(show bV _ (.region 8 _ _) _ _;(refine cE hX 29 rfl (.inl rfl) ?_;simp only [go_sem,simprocAttr,hb2]))|refine Rn.p ?_|(with_reducible apply And.intro)|((first|(refine hK _ ?_;clear hK K)|with_reducible intro K hK|refine Rs.p ?_|((with_reducible first|apply oP|apply oQ);exact rfl));try simp only [go_sem,simprocAttr,hb2])|((with_reducible refine oD ?_ ?_);kernel_rfl)|((with_reducible intro h);try simp only [go_sem,simprocAttr,hb2] at h)|omega|intro h)
    refine ⟨k+1,by omega, ?_,by omega⟩
    refine Le.of ?_ ?_<;>simp [go_sem,simprocAttr,ff]
  ·have hb:decide ((k:Int)<g.n)=false:=decide_eq_false (by omega)
   obtain rfl:k=g.n.toNat:=by omega
   repeat' (first|(show bV _ (.seq (.region 6 _ _) _) _ _;(refine cE hX 11 rfl (.inl rfl) ?_;simp only [go_sem,simprocAttr,hb]))|(show bV _ (.region 8 _ _) _ _;(refine cE hX 29 rfl (.inl rfl) ?_;simp only [go_sem,simprocAttr,hb]))|refine Rn.p ?_|(with_reducible apply And.intro)|((first|(refine hK _ ?_;clear hK K)|with_reducible intro K hK|refine Rs.p ?_|((with_reducible first|apply oP|apply oQ);exact rfl));try simp only [go_sem,simprocAttr,hb])|((with_reducible refine oD ?_ ?_);kernel_rfl)|((with_reducible intro h);try simp only [go_sem,simprocAttr,hb] at h)|omega|intro h)
end Go.Ab
end
section
namespace Go.Ab
open Go.Proofs
attribute [local congr] ACall.congr gd.congr Nx.congr
set_option maxRecDepth 10000
def xC (g:Gr):List Bool:=ff g g.n.toNat
theorem tH {g:Gr} :ff g g.n.toNat=xC g:=rfl
def GB (g:Gr):Int:=if bI (fun b:Bool=>b) (xC g)<0 then g.n else bI (fun b:Bool=>b) (xC g)
def xD (g:Gr) (x:Int) (b:Int) (i:Nat):Int:=if hd g i=x∧(xC g).getD (tl g i).toNat false=true then min b (tl g i) else b
def dO (g:Gr) (x:Int) (k:Nat):Int:=(List.range k).foldl (xD g x) g.n
def nu (g:Gr):Nat→List Int→Int→List Int × Int
 |0,way,x=>(way,x)
 |f+1,way,x=>if x∈way then (way,x) else nu g f (way++ [x]) (dO g x g.es.length)
def gx (g:Gr):Gr:=⟨g.n+1,g.es⟩
def ow (g:Gr):List Int × Int:=nu g (g.n.toNat+1) [] (GB g)
def qO (l:List Int) (m k:Nat):List Int:=(List.range k).map fun i=>l.getD ((m+l.length - i) % l.length) 0
def vD (l:List Int):List Int:=qO l (fu l (gT l)).toNat l.length
def lM (g:Gr):List Int:=if GB g=g.n then [] else vD ((ow g).1.drop (fu (ow g).1 (ow g).2).toNat)
theorem nv {g:Gr} {x:Int} {k:Nat} :dO g x (k+1)=xD g x (dO g x k) k:=by
 simp [dO,List.range_succ]
theorem qy {g:Gr} (hm:aH g=true) {x:Int} :∀ {k:Nat},k≤g.es.length→0≤dO g x k∧dO g x k≤g.n
 |0,_=>by have:=aB hm;simp [dO];omega
 |k+1,h=>by
  have ih:=qy hm (x:=x) (k:=k) (by omega)
  obtain ⟨⟨h1,h2⟩,_⟩:=cH hm (k:=k) (by omega)
  rw [nv];unfold xD tl
  split<;>omega
theorem C5 {l:List Int} {m k:Nat} :qO l m (k+1)=qO l m k++ [l.getD ((m+l.length - k) % l.length) 0]:=by
 simp [qO,List.range_succ]
theorem y7 {g:Gr} {way:List Int} {a:Int} (h:a∈way):∀f,nu g f way a=(way,a)
 |0=>rfl
 |f+1=>by simp only [nu];rw [if_pos h]
theorem xE:∀ {l:List Int} {x:Int},x∈l→gT l≤x
 |a::r,x,h=>by
  have:∀(r:List Int) (a:Int),r.foldl min a≤a∧∀x∈r,r.foldl min a≤x:=by
   intro r
   induction r with
   |nil=>intro a;exact ⟨Int.le_refl _,by simp⟩
   |cons b r ih=>
    intro a
    obtain ⟨h1,h2⟩:=ih (min a b)
    simp only [List.foldl_cons]
    refine ⟨by omega,fun x hx=> ?_⟩
    rcases List.mem_cons.1 hx with rfl|hx
    ·omega
    ·exact h2 x hx
  obtain ⟨h1,h2⟩:=this r a
  rcases List.mem_cons.1 h with rfl|h
  ·exact h1
  ·exact h2 x h
theorem iP {l:List Int} {m:Nat} (h:m<l.length):l.getD m 0∈l:=by
 rw [List.getD_eq_getElem?_getD,List.getElem?_eq_getElem h];exact List.getElem_mem h
theorem Fk {l:List Int} {m:Nat} (hm:m<l.length) (h1:∀j,j<l.length→l.getD m 0≤l.getD j 0) (h2:∀j,j<m→l.getD m 0<l.getD j 0):fu l (gT l)=m:=by
 have hmin:gT l=l.getD m 0:=by
  have g1:=xE (iP hm)
  obtain ⟨j,hj,e⟩:=List.getElem_of_mem (iM (l:=l) (by omega))
  have g2:=h1 j hj
  rw [List.getD_eq_getElem?_getD (l:=l) (i:=j),List.getElem?_eq_getElem hj,Option.getD_some,e] at g2
  omega
 refine cQ (d:=0) hm (fun j hj=> ?_) ?_
 ·have:=h2 j hj
  rw [hmin];simp only [decide_eq_false_iff_not];omega
 ·rw [hmin];simp
theorem dx (g:Gr) (hm:aH g=true):Spec Tryz.prog 161 (Args [eG g]) [] (.d (sI (lM g))) []:=by
 have hn:=aB hm
 have hlf:(xC g).length=g.n.toNat:=leftK_length
 (refine Spec.hd (C:=T.cfg [] []) (rs:= [.t 2]) (T.ah _ _) Tryz.func161 rfl rfl Tryz.ntmps161 Tryz.results161 (by simp [AObj.isNest]) (by simp [AObj.isNest]) (by kernel_rfl) T.mixed fun X hX hP hC aJ bQ=> ?_)
 repeat' (first|refine Rn.p ?_|(with_reducible apply And.intro)|((first|(refine hK _ ?_;clear hK K)|with_reducible intro K hK|refine Rs.p ?_|((with_reducible first|apply oP|apply oQ);exact rfl)|refine aa hX hC hP (cJ g hm) rfl rfl rfl (by simp only [go_sem,simprocAttr,tH]) rfl ?_|(refine ag hX hC hP (bu way x bU) rfl rfl rfl ?_ ?_ ?_ ?_;iterate 3 (focus (simp only [go_sem,simprocAttr,tH];done)))|(refine ag hX hC hP (bu way (a:Int) bU) rfl rfl rfl ?_ ?_ ?_ ?_;iterate 3 (focus (simp only [go_sem,simprocAttr,tH];done))));try simp only [go_sem,simprocAttr,tH])|((with_reducible refine oD ?_ ?_);kernel_rfl)|((with_reducible intro h);try simp only [go_sem,simprocAttr,tH] at h)|omega|intro h)
 refine ai (fun k:Nat=>k≤g.n.toNat∧∀j,j<k→(xC g).getD j false=false) (fun k=>⟨[(1, .ptr 1 0),(4,eN k),(3, .d (sB (xC g)))], [(1, .box [eN g.n, .d (sE g.es)])]⟩) (fun k=>g.n.toNat - k) 0 (by simp) ?_ ?_
 ·refine Le.of ?_ ?_<;>simp [go_sem,simprocAttr,xC]
 rintro k ⟨hk,hno⟩
 rcases Nat.lt_or_ge k g.n.toNat with hlt|hge
 ·have hb:decide ((k:Int)<g.n)=true:=decide_eq_true (by omega)
  cases hkb:(xC g).getD k false with
  |false=>
   repeat' (first|refine Rn.p ?_|(with_reducible apply And.intro)|((first|(refine hK _ ?_;clear hK K)|with_reducible intro K hK|refine Rs.p ?_|((with_reducible first|apply oP|apply oQ);exact rfl)|refine aa hX hC hP (cJ g hm) rfl rfl rfl (by simp only [go_sem,simprocAttr,hb,hkb,hlf]) rfl ?_|(refine ag hX hC hP (bu way x bU) rfl rfl rfl ?_ ?_ ?_ ?_;iterate 3 (focus (simp only [go_sem,simprocAttr,hb,hkb,hlf];done)))|(refine ag hX hC hP (bu way (a:Int) bU) rfl rfl rfl ?_ ?_ ?_ ?_;iterate 3 (focus (simp only [go_sem,simprocAttr,hb,hkb,hlf];done))));try simp only [go_sem,simprocAttr,hb,hkb,hlf])|((with_reducible refine oD ?_ ?_);kernel_rfl)|((with_reducible intro h);try simp only [go_sem,simprocAttr,hb,hkb,hlf] at h)|omega|intro h)
   refine ⟨k+1,⟨by omega,fun j hj=> ?_⟩, ?_,by omega⟩
   ·by_cases hjk:j=k
    ·subst hjk;exact hkb
    ·exact hno j (by omega)
   ·(refine Le.of ?_ ?_<;>simp [go_sem,simprocAttr,hb,hkb,hlf])
  |true=>
   have hst:GB g=k:=by
    have:bI (fun b:Bool=>b) (xC g)=k:=cQ (d:=false) (by omega) hno hkb
    unfold GB;rw [this,if_neg (by omega)]
   have hne:decide ((k:Int)=g.n)=false:=decide_eq_false (by omega)
   repeat' (first|refine Rn.p ?_|(with_reducible apply And.intro)|((first|(refine hK _ ?_;clear hK K)|with_reducible intro K hK|refine Rs.p ?_|((with_reducible first|apply oP|apply oQ);exact rfl)|refine aa hX hC hP (cJ g hm) rfl rfl rfl (by simp only [go_sem,simprocAttr,hb,hkb,hlf,hne]) rfl ?_|(refine ag hX hC hP (bu way x bU) rfl rfl rfl ?_ ?_ ?_ ?_;iterate 3 (focus (simp only [go_sem,simprocAttr,hb,hkb,hlf,hne];done)))|(refine ag hX hC hP (bu way (a:Int) bU) rfl rfl rfl ?_ ?_ ?_ ?_;iterate 3 (focus (simp only [go_sem,simprocAttr,hb,hkb,hlf,hne];done))));try simp only [go_sem,simprocAttr,hb,hkb,hlf,hne])|((with_reducible refine oD ?_ ?_);kernel_rfl)|((with_reducible intro h);try simp only [go_sem,simprocAttr,hb,hkb,hlf,hne] at h)|omega|intro h)
   clear hno hb hne hkb
   (refine pM hX 5 31 39 (by simp only [go_sem,simprocAttr]) rfl (by first|exact .inl rfl|exact .inr rfl) (by decide) ?_;simp only [go_sem,simprocAttr])
   refine ai (fun i:List Int × Int=>Way (gx g) i.1∧(0≤i.2∧i.2≤g.n)∧nu g (left (gx g) i.1) i.1 i.2=ow g) (fun i=>⟨[(1, .ptr 1 0),(4,eN i.2),(3, .d (sB (xC g))),(5, .ref 39)], [(1, .box [eN g.n, .d (sE g.es)]),(39, .tip 3 1 (i.1.map rI))]⟩) (fun i=>left (gx g) i.1) ([],(k:Int)) ⟨Way.nil _,by simp only;omega, ?_⟩ ?_ ?_
   ·simp only [ou,ow,gx,hst]
    rw [show (g.n+1).toNat=g.n.toNat+1 from by omega]
   ·refine Le.of ?_ ?_<;>simp [go_sem,simprocAttr]
   rintro ⟨way,x⟩ ⟨y6,hx,hrun⟩
   simp only at y6 hx hrun ⊢
   have Q7:way.length≤65:=by have:=y6.fuel;simp only [gx] at this;omega
   have bU:way.length≤9223372036854775807:=by omega
   by_cases hmem:x∈way
   ·have hend:=y7 (g:=g) hmem (left (gx g) way)
    rw [hrun] at hend
    obtain ⟨m,w4,hm2,_⟩:=dN hmem
    have hneg:decide ((m:Int)<0)=false:=decide_eq_false (by omega)
    obtain ⟨l,Iv⟩:∃l,l=way.drop m:=⟨_,rfl⟩
    have jh:l.length=way.length - m:=by rw [Iv];simp
    have Jp:lM g=vD l:=by
     simp only [lM,hend,w4,Int.toNat_natCast, ← Iv]
     rw [if_neg (by omega)]
    repeat' (first|refine Rn.p ?_|(with_reducible apply And.intro)|((first|(refine hK _ ?_;clear hK K)|with_reducible intro K hK|refine Rs.p ?_|((with_reducible first|apply oP|apply oQ);exact rfl)|refine aa hX hC hP (cJ g hm) rfl rfl rfl (by simp only [go_sem,simprocAttr,w4,hneg, ← List.map_take, ← List.map_drop,List.take_length, ← Iv]) rfl ?_|(refine ag hX hC hP (bu way x bU) rfl rfl rfl ?_ ?_ ?_ ?_;iterate 3 (focus (simp only [go_sem,simprocAttr,w4,hneg, ← List.map_take, ← List.map_drop,List.take_length, ← Iv];done)))|(refine ag hX hC hP (bu way (a:Int) bU) rfl rfl rfl ?_ ?_ ?_ ?_;iterate 3 (focus (simp only [go_sem,simprocAttr,w4,hneg, ← List.map_take, ← List.map_drop,List.take_length, ← Iv];done))));try simp only [go_sem,simprocAttr,w4,hneg, ← List.map_take, ← List.map_drop,List.take_length, ← Iv])|((with_reducible refine oD ?_ ?_);kernel_rfl)|((with_reducible intro h);try simp only [go_sem,simprocAttr,w4,hneg, ← List.map_take, ← List.map_drop,List.take_length, ← Iv] at h)|omega|intro h)
    clear hrun y6 hend w4 hneg Iv
    have hl0:0<l.length:=by omega
    have hlm:l.length≤65:=by omega
    refine ai (fun i:Nat × Nat=>i.1≤l.length∧i.2<l.length∧(∀j,j<i.1→l.getD i.2 0≤l.getD j 0)∧(∀j,j<i.2→l.getD i.2 0<l.getD j 0)) (fun i=>⟨[(9,eN i.1),(8,eN i.2),(5, .d (sI l))], []⟩) (fun i=>l.length - i.1) (0,0) ⟨by simp,hl0,by simp,by simp⟩ ?_ ?_
    ·refine Le.of ?_ ?_<;>simp [go_sem,simprocAttr]
    rintro ⟨i,q⟩ ⟨hi,hq,hq1,Gx⟩
    simp only at hi hq hq1 Gx ⊢
    rcases Nat.lt_or_ge i l.length with hil|J6
    ·have hb:decide ((i:Int)<(l.length:Int))=true:=decide_eq_true (by omega)
     repeat' (first|refine Rn.p ?_|(with_reducible apply And.intro)|((first|(refine hK _ ?_;clear hK K)|with_reducible intro K hK|refine Rs.p ?_|((with_reducible first|apply oP|apply oQ);exact rfl)|refine aa hX hC hP (cJ g hm) rfl rfl rfl (by simp only [go_sem,simprocAttr,hb]) rfl ?_|(refine ag hX hC hP (bu way x bU) rfl rfl rfl ?_ ?_ ?_ ?_;iterate 3 (focus (simp only [go_sem,simprocAttr,hb];done)))|(refine ag hX hC hP (bu way (a:Int) bU) rfl rfl rfl ?_ ?_ ?_ ?_;iterate 3 (focus (simp only [go_sem,simprocAttr,hb];done))));try simp only [go_sem,simprocAttr,hb])|((with_reducible refine oD ?_ ?_);kernel_rfl)|((with_reducible intro h);try simp only [go_sem,simprocAttr,hb] at h)|omega|intro h)
     ·refine ⟨(i+1,i),⟨by simp only;omega,hil,fun j hj=> ?_,fun j hj=> ?_⟩, ?_,by simp only;omega⟩
      ·simp only at hj ⊢
       by_cases hji:j=i
       ·subst hji;exact Int.le_refl _
       ·have:=hq1 j (by omega);omega
      ·simp only at hj ⊢
       have:=hq1 j hj;omega
      ·refine Le.of ?_ ?_<;>simp [go_sem,simprocAttr]
     ·refine ⟨(i+1,q),⟨by simp only;omega,hq,fun j hj=> ?_,Gx⟩, ?_,by simp only;omega⟩
      ·simp only at hj ⊢
       by_cases hji:j=i
       ·subst hji;omega
       ·exact hq1 j (by omega)
      ·refine Le.of ?_ ?_<;>simp [go_sem,simprocAttr]
    ·have hb:decide ((i:Int)<(l.length:Int))=false:=decide_eq_false (by omega)
     obtain rfl:i=l.length:=by omega
     have hidx:=Fk hq hq1 Gx
     repeat' (first|refine Rn.p ?_|(with_reducible apply And.intro)|((first|(refine hK _ ?_;clear hK K)|with_reducible intro K hK|refine Rs.p ?_|((with_reducible first|apply oP|apply oQ);exact rfl)|refine aa hX hC hP (cJ g hm) rfl rfl rfl (by simp only [go_sem,simprocAttr,hb]) rfl ?_|(refine ag hX hC hP (bu way x bU) rfl rfl rfl ?_ ?_ ?_ ?_;iterate 3 (focus (simp only [go_sem,simprocAttr,hb];done)))|(refine ag hX hC hP (bu way (a:Int) bU) rfl rfl rfl ?_ ?_ ?_ ?_;iterate 3 (focus (simp only [go_sem,simprocAttr,hb];done))));try simp only [go_sem,simprocAttr,hb])|((with_reducible refine oD ?_ ?_);kernel_rfl)|((with_reducible intro h);try simp only [go_sem,simprocAttr,hb] at h)|omega|intro h)
     clear hi hb J6
     (refine pM hX 10 98 119 (by simp only [go_sem,simprocAttr]) rfl (by first|exact .inl rfl|exact .inr rfl) (by decide) ?_;simp only [go_sem,simprocAttr])
     refine ai (fun i:Nat=>i≤l.length) (fun i=>⟨[(5, .d (sI l)),(8,eN q),(11,eN i),(10, .ref 119)], [(119, .tip 3 1 ((qO l q i).map rI))]⟩) (fun i=>l.length - i) 0 (by simp) ?_ ?_
     ·refine Le.of ?_ ?_<;>simp [go_sem,simprocAttr,qO]
     rintro i hi
     have hrl:(qO l q i).length=i:=by simp [qO]
     rcases Nat.lt_or_ge i l.length with hil|J6
     ·have hb:decide ((i:Int)<(l.length:Int))=true:=decide_eq_true (by omega)
      have Hr:((q:Int)+(l.length:Int) - (i:Int)).tmod (l.length:Int)=(((q+l.length - i) % l.length:Nat):Int):=by
       rw [show (q:Int)+(l.length:Int) - (i:Int)=((q+l.length - i:Nat):Int) from by omega]
       rw [Int.tmod_eq_emod_of_nonneg (by omega)];rfl
      have hmod:(q+l.length - i) % l.length<l.length:=Nat.mod_lt _ hl0
      repeat' (first|refine Rn.p ?_|(with_reducible apply And.intro)|((first|(refine hK _ ?_;clear hK K)|with_reducible intro K hK|refine Rs.p ?_|((with_reducible first|apply oP|apply oQ);exact rfl)|refine aa hX hC hP (cJ g hm) rfl rfl rfl (by simp only [go_sem,simprocAttr,hb,Hr]) rfl ?_|(refine ag hX hC hP (bu way x bU) rfl rfl rfl ?_ ?_ ?_ ?_;iterate 3 (focus (simp only [go_sem,simprocAttr,hb,Hr];done)))|(refine ag hX hC hP (bu way (a:Int) bU) rfl rfl rfl ?_ ?_ ?_ ?_;iterate 3 (focus (simp only [go_sem,simprocAttr,hb,Hr];done))));try simp only [go_sem,simprocAttr,hb,Hr])|((with_reducible refine oD ?_ ?_);kernel_rfl)|((with_reducible intro h);try simp only [go_sem,simprocAttr,hb,Hr] at h)|omega|intro h)
      refine ⟨i+1,by omega, ?_,by omega⟩
      rw [C5]
      refine Le.of ?_ ?_<;>simp [go_sem,simprocAttr,rI]
     ·have hb:decide ((i:Int)<(l.length:Int))=false:=decide_eq_false (by omega)
      obtain rfl:i=l.length:=by omega
      repeat' (first|refine Rn.p ?_|(with_reducible apply And.intro)|((first|(refine hK _ ?_;clear hK K)|with_reducible intro K hK|refine Rs.p ?_|((with_reducible first|apply oP|apply oQ);exact rfl)|refine aa hX hC hP (cJ g hm) rfl rfl rfl (by simp only [go_sem,simprocAttr,hb]) rfl ?_|(refine ag hX hC hP (bu way x bU) rfl rfl rfl ?_ ?_ ?_ ?_;iterate 3 (focus (simp only [go_sem,simprocAttr,hb];done)))|(refine ag hX hC hP (bu way (a:Int) bU) rfl rfl rfl ?_ ?_ ?_ ?_;iterate 3 (focus (simp only [go_sem,simprocAttr,hb];done))));try simp only [go_sem,simprocAttr,hb])|((with_reducible refine oD ?_ ?_);kernel_rfl)|((with_reducible intro h);try simp only [go_sem,simprocAttr,hb] at h)|omega|intro h)
      rw [Jp,vD,hidx];rfl
   ·have hi:fu way x= -1:=by
     rcases fZ (f:=fun y:Int=>decide (x=y)) (l:=way) 0 with ⟨h1,_⟩|⟨q,_,h2,h3,_⟩
     ·exact h1
     ·exact absurd (by rw [of_decide_eq_true h3,List.getD_eq_getElem?_getD,List.getElem?_eq_getElem h2];exact List.getElem_mem h2) hmem
    obtain ⟨a,rfl⟩:∃a:Nat,x=a:=⟨x.toNat,by omega⟩
    have Iu:a<(gx g).n.toNat:=by simp only [gx];omega
    repeat' (first|refine Rn.p ?_|(with_reducible apply And.intro)|((first|(refine hK _ ?_;clear hK K)|with_reducible intro K hK|refine Rs.p ?_|((with_reducible first|apply oP|apply oQ);exact rfl)|refine aa hX hC hP (cJ g hm) rfl rfl rfl (by simp only [go_sem,simprocAttr,hi]) rfl ?_|(refine ag hX hC hP (bu way x bU) rfl rfl rfl ?_ ?_ ?_ ?_;iterate 3 (focus (simp only [go_sem,simprocAttr,hi];done)))|(refine ag hX hC hP (bu way (a:Int) bU) rfl rfl rfl ?_ ?_ ?_ ?_;iterate 3 (focus (simp only [go_sem,simprocAttr,hi];done))));try simp only [go_sem,simprocAttr,hi])|((with_reducible refine oD ?_ ?_);kernel_rfl)|((with_reducible intro h);try simp only [go_sem,simprocAttr,hi] at h)|omega|intro h)
    refine ai (fun j:Nat=>j≤g.es.length) (fun j=>⟨[(1, .ptr 1 0),(4,eN a),(3, .d (sB (xC g))),(5, .ref 39),(6,eN (dO g a j)),(7,eN j)], [(1, .box [eN g.n, .d (sE g.es)]),(39, .tip 3 1 ((way++ [(a:Int)]).map rI))]⟩) (fun j=>g.es.length - j) 0 (by simp) ?_ ?_
    ·refine Le.of ?_ ?_<;>simp [go_sem,simprocAttr,rI,dO]
    rintro j hj
    rcases Nat.lt_or_ge j g.es.length with hjl|ME
    ·have hb2:decide ((j:Int)<(g.es.length:Int))=true:=decide_eq_true (by omega)
     obtain ⟨⟨Jn,x8⟩,_⟩:=cH hm hjl
     have cn:dO g a (j+1)=if (g.es.getD j (0,0)).2=(a:Int)∧(xC g).getD (g.es.getD j (0,0)).1.toNat false=true then min (dO g a j) (g.es.getD j (0,0)).1 else dO g a j:=nv
     repeat' (first|refine Rn.p ?_|(with_reducible apply And.intro)|((first|(refine hK _ ?_;clear hK K)|with_reducible intro K hK|refine Rs.p ?_|((with_reducible first|apply oP|apply oQ);exact rfl)|refine aa hX hC hP (cJ g hm) rfl rfl rfl (by simp only [go_sem,simprocAttr,hb2,hlf]) rfl ?_|(refine ag hX hC hP (bu way x bU) rfl rfl rfl ?_ ?_ ?_ ?_;iterate 3 (focus (simp only [go_sem,simprocAttr,hb2,hlf];done)))|(refine ag hX hC hP (bu way (a:Int) bU) rfl rfl rfl ?_ ?_ ?_ ?_;iterate 3 (focus (simp only [go_sem,simprocAttr,hb2,hlf];done))));try simp only [go_sem,simprocAttr,hb2,hlf])|((with_reducible refine oD ?_ ?_);kernel_rfl)|((with_reducible intro h);try simp only [go_sem,simprocAttr,hb2,hlf] at h)|omega|intro h)
     all_goals (first|rw [if_pos ⟨by assumption,by assumption⟩] at cn|rw [if_neg (fun e=>by first|exact absurd e.1 (by assumption)|simp_all)] at cn)
     all_goals (refine ⟨j+1,by omega, ?_,by omega⟩;refine Le.of ?_ ?_<;>simp [go_sem,simprocAttr,cn])
    ·have hb2:decide ((j:Int)<(g.es.length:Int))=false:=decide_eq_false (by omega)
     obtain rfl:j=g.es.length:=by omega
     repeat' (first|refine Rn.p ?_|(with_reducible apply And.intro)|((first|(refine hK _ ?_;clear hK K)|with_reducible intro K hK|refine Rs.p ?_|((with_reducible first|apply oP|apply oQ);exact rfl)|refine aa hX hC hP (cJ g hm) rfl rfl rfl (by simp only [go_sem,simprocAttr,hb2]) rfl ?_|(refine ag hX hC hP (bu way x bU) rfl rfl rfl ?_ ?_ ?_ ?_;iterate 3 (focus (simp only [go_sem,simprocAttr,hb2];done)))|(refine ag hX hC hP (bu way (a:Int) bU) rfl rfl rfl ?_ ?_ ?_ ?_;iterate 3 (focus (simp only [go_sem,simprocAttr,hb2];done))));try simp only [go_sem,simprocAttr,hb2])|((with_reducible refine oD ?_ ?_);kernel_rfl)|((with_reducible intro h);try simp only [go_sem,simprocAttr,hb2] at h)|omega|intro h)
     refine ⟨(way++ [(a:Int)],dO g a g.es.length),⟨y6.next Iu hmem,qy hm (Nat.le_refl _), ?_⟩, ?_, ?_⟩
     ·simp only
      rw [← hrun,iL Iu hmem]
      simp only [nu]
      rw [if_neg hmem]
     ·refine Le.of ?_ ?_<;>simp [go_sem,simprocAttr]
     ·have:=iL Iu hmem;simp only;omega
 ·have hb:decide ((k:Int)<g.n)=false:=decide_eq_false (by omega)
  have hst:GB g=g.n:=by
   have:bI (fun b:Bool=>b) (xC g)= -1:=cA false fun j hj=>hno j (by omega)
   unfold GB;rw [this,if_pos (by omega)]
  have hne:decide ((k:Int)=g.n)=true:=decide_eq_true (by omega)
  repeat' (first|refine Rn.p ?_|(with_reducible apply And.intro)|((first|(refine hK _ ?_;clear hK K)|with_reducible intro K hK|refine Rs.p ?_|((with_reducible first|apply oP|apply oQ);exact rfl)|refine aa hX hC hP (cJ g hm) rfl rfl rfl (by simp only [go_sem,simprocAttr,hb,hne]) rfl ?_|(refine ag hX hC hP (bu way x bU) rfl rfl rfl ?_ ?_ ?_ ?_;iterate 3 (focus (simp only [go_sem,simprocAttr,hb,hne];done)))|(refine ag hX hC hP (bu way (a:Int) bU) rfl rfl rfl ?_ ?_ ?_ ?_;iterate 3 (focus (simp only [go_sem,simprocAttr,hb,hne];done))));try simp only [go_sem,simprocAttr,hb,hne])|((with_reducible refine oD ?_ ?_);kernel_rfl)|((with_reducible intro h);try simp only [go_sem,simprocAttr,hb,hne] at h)|omega|intro h)
  simp only [lM];rw [if_pos hst];rfl
end Go.Ab
end
section
namespace Go.Ab
open Go.Proofs
attribute [local congr] ACall.congr gd.congr Nx.congr
set_option maxRecDepth 10000
def fQ (g:Gr):Int × Int × List Int:=fe g (lM g) (bC (·.2) g)
theorem y8 {l:List Edge} {k:Nat} {x:Edge} :x∈l.take k↔∃j,j<k∧j<l.length∧l.getD j (0,0)=x:=by
 rw [List.mem_iff_getElem?]
 constructor
 ·rintro ⟨j,hj⟩
  rw [List.getElem?_take] at hj
  split at hj
  ·exact ⟨j,by assumption,(List.getElem?_eq_some_iff.1 hj).1,by rw [List.getD_eq_getElem?_getD,hj];rfl⟩
  ·cases hj
 ·rintro ⟨j,h1,h2,h3⟩
  refine ⟨j, ?_⟩
  rw [List.getElem?_take,if_pos h1,List.getElem?_eq_getElem h2]
  rw [List.getD_eq_getElem?_getD,List.getElem?_eq_getElem h2] at h3
  exact congrArg some h3
theorem u7 (g:Gr) (hl0:g.es.length≤1000):Spec Tryz.prog 104 (Args [eG g]) [] (.tup [eN (fQ g).1,eN (fQ g).2.1, .d (sI (fQ g).2.2)]) []:=by
 have hl:g.es.length≤9223372036854775807:=by omega
 (refine Spec.hd (C:=T.cfg [] []) (rs:= [.t 2, .t 3, .t 4]) (T.ah _ _) Tryz.func104 rfl rfl Tryz.ntmps104 Tryz.results104 (by simp [AObj.isNest]) (by simp [AObj.isNest]) (by kernel_rfl) T.mixed fun X hX hP hC aJ bQ=> ?_)
 cases hm:aH g with
 |false=>
  repeat' (first|refine Rn.p ?_|(with_reducible apply And.intro)|((first|(refine hK _ ?_;clear hK K)|with_reducible intro K hK|refine Rs.p ?_|((with_reducible first|apply oP|apply oQ);exact rfl)|refine aa hX hC hP (cR g hl) rfl rfl rfl (by simp only [go_sem,simprocAttr,hm]) rfl ?_|refine aa hX hC hP (dx g hm) rfl rfl rfl (by simp only [go_sem,simprocAttr,hm]) rfl ?_|refine aa hX hC hP (cq g true hl0 hn0) rfl rfl rfl (by simp only [go_sem,simprocAttr,hm]) rfl ?_);try simp only [go_sem,simprocAttr,hm])|((with_reducible refine oD ?_ ?_);kernel_rfl)|((with_reducible intro h);try simp only [go_sem,simprocAttr,hm] at h)|omega|intro h)
  all_goals simp [fQ,fe,hm]
 |true=>
 have hn:=aB hm
 have hn0:0≤g.n∧g.n≤1000:=by omega
 repeat' (first|refine Rn.p ?_|(with_reducible apply And.intro)|((first|(refine hK _ ?_;clear hK K)|with_reducible intro K hK|refine Rs.p ?_|((with_reducible first|apply oP|apply oQ);exact rfl)|refine aa hX hC hP (cR g hl) rfl rfl rfl (by simp only [go_sem,simprocAttr,hm]) rfl ?_|refine aa hX hC hP (dx g hm) rfl rfl rfl (by simp only [go_sem,simprocAttr,hm]) rfl ?_|refine aa hX hC hP (cq g true hl0 hn0) rfl rfl rfl (by simp only [go_sem,simprocAttr,hm]) rfl ?_);try simp only [go_sem,simprocAttr,hm])|((with_reducible refine oD ?_ ?_);kernel_rfl)|((with_reducible intro h);try simp only [go_sem,simprocAttr,hm] at h)|omega|intro h)
 refine ai (fun k:Nat=>k≤g.es.length∧∀j,j<k→decide ((g.es.getD j (0,0)).1=(g.es.getD j (0,0)).2)=false) (fun k=>⟨[(5,eN k),(1, .ptr 1 0)], [(1, .box [eN g.n, .d (sE g.es)])]⟩) (fun k=>g.es.length - k) 0 (by simp) ?_ ?_
 ·(refine Le.of ?_ ?_<;>simp [go_sem,simprocAttr,hm])
 rintro k ⟨hk,hno⟩
 rcases Nat.lt_or_ge k g.es.length with hlt|hge
 ·have hb2:decide ((k:Int)<(g.es.length:Int))=true:=decide_eq_true (by omega)
  repeat' (first|refine Rn.p ?_|(with_reducible apply And.intro)|((first|(refine hK _ ?_;clear hK K)|with_reducible intro K hK|refine Rs.p ?_|((with_reducible first|apply oP|apply oQ);exact rfl)|refine aa hX hC hP (cR g hl) rfl rfl rfl (by simp only [go_sem,simprocAttr,hm,hb2]) rfl ?_|refine aa hX hC hP (dx g hm) rfl rfl rfl (by simp only [go_sem,simprocAttr,hm,hb2]) rfl ?_|refine aa hX hC hP (cq g true hl0 hn0) rfl rfl rfl (by simp only [go_sem,simprocAttr,hm,hb2]) rfl ?_);try simp only [go_sem,simprocAttr,hm,hb2])|((with_reducible refine oD ?_ ?_);kernel_rfl)|((with_reducible intro h);try simp only [go_sem,simprocAttr,hm,hb2] at h)|omega|intro h)
  any_goals (
   have hlo:iO g=(k:Int):=cQ (d:=(0,0)) hlt hno (decide_eq_true h)
   have hc:fQ g=(13,iO g, []):=by
    simp only [fQ,fe];rw [if_neg (by simp [hm]),if_pos (by omega)]
   rw [hc]<;>first|rfl|exact hlo.symm)
  refine ⟨k+1,⟨by omega,fun j hj=> ?_⟩, ?_,by omega⟩
  ·by_cases hjk:j=k
   ·subst hjk;exact h
   ·simpa using hno j (by omega)
  ·(refine Le.of ?_ ?_<;>simp [go_sem,simprocAttr,hm,hb2])
 ·have hb2:decide ((k:Int)<(g.es.length:Int))=false:=decide_eq_false (by omega)
  have hlo:¬0≤iO g:=by
   have:iO g= -1:=cA (0,0) fun j hj=>hno j (by omega)
   omega
  repeat' (first|refine Rn.p ?_|(with_reducible apply And.intro)|((first|(refine hK _ ?_;clear hK K)|with_reducible intro K hK|refine Rs.p ?_|((with_reducible first|apply oP|apply oQ);exact rfl)|refine aa hX hC hP (cR g hl) rfl rfl rfl (by simp only [go_sem,simprocAttr,hm,hb2]) rfl ?_|refine aa hX hC hP (dx g hm) rfl rfl rfl (by simp only [go_sem,simprocAttr,hm,hb2]) rfl ?_|refine aa hX hC hP (cq g true hl0 hn0) rfl rfl rfl (by simp only [go_sem,simprocAttr,hm,hb2]) rfl ?_);try simp only [go_sem,simprocAttr,hm,hb2])|((with_reducible refine oD ?_ ?_);kernel_rfl)|((with_reducible intro h);try simp only [go_sem,simprocAttr,hm,hb2] at h)|omega|intro h)
  clear hno hb2 hk hge
  refine ai (fun k:Nat=>k≤g.es.length∧∀j,j<k→nt g j=false) (fun k=>⟨[(6,eN k),(1, .ptr 1 0)], [(1, .box [eN g.n, .d (sE g.es)])]⟩) (fun k=>g.es.length - k) 0 (by simp) ?_ ?_
  ·(refine Le.of ?_ ?_<;>simp [go_sem,simprocAttr])
  rintro k ⟨hk,Fh⟩
  rcases Nat.lt_or_ge k g.es.length with hlt|hge
  ·have hb2:decide ((k:Int)<(g.es.length:Int))=true:=decide_eq_true (by omega)
   repeat' (first|refine Rn.p ?_|(with_reducible apply And.intro)|((first|(refine hK _ ?_;clear hK K)|with_reducible intro K hK|refine Rs.p ?_|((with_reducible first|apply oP|apply oQ);exact rfl)|refine aa hX hC hP (cR g hl) rfl rfl rfl (by simp only [go_sem,simprocAttr,hm,hb2]) rfl ?_|refine aa hX hC hP (dx g hm) rfl rfl rfl (by simp only [go_sem,simprocAttr,hm,hb2]) rfl ?_|refine aa hX hC hP (cq g true hl0 hn0) rfl rfl rfl (by simp only [go_sem,simprocAttr,hm,hb2]) rfl ?_);try simp only [go_sem,simprocAttr,hm,hb2])|((with_reducible refine oD ?_ ?_);kernel_rfl)|((with_reducible intro h);try simp only [go_sem,simprocAttr,hm,hb2] at h)|omega|intro h)
   refine ai (fun q:Nat=>q≤k∧∀j,j<q→¬g.es.getD j (0,0)=g.es.getD k (0,0)) (fun q=>⟨[(6,eN k),(7,eN q),(1, .ptr 1 0)], [(1, .box [eN g.n, .d (sE g.es)])]⟩) (fun q=>k - q) 0 (by simp) ?_ ?_
   ·(refine Le.of ?_ ?_<;>simp [go_sem,simprocAttr,hm,hb2])
   rintro q ⟨hq,hne⟩
   rcases Nat.lt_or_ge q k with Pr|Pr
   ·have hb3:decide ((q:Int)<(k:Int))=true:=decide_eq_true (by omega)
    repeat' (first|refine Rn.p ?_|(with_reducible apply And.intro)|((first|(refine hK _ ?_;clear hK K)|with_reducible intro K hK|refine Rs.p ?_|((with_reducible first|apply oP|apply oQ);exact rfl)|refine aa hX hC hP (cR g hl) rfl rfl rfl (by simp only [go_sem,simprocAttr,hb3,tf]) rfl ?_|refine aa hX hC hP (dx g hm) rfl rfl rfl (by simp only [go_sem,simprocAttr,hb3,tf]) rfl ?_|refine aa hX hC hP (cq g true hl0 hn0) rfl rfl rfl (by simp only [go_sem,simprocAttr,hb3,tf]) rfl ?_);try simp only [go_sem,simprocAttr,hb3,tf])|((with_reducible refine oD ?_ ?_);kernel_rfl)|((with_reducible intro h);try simp only [go_sem,simprocAttr,hb3,tf] at h)|omega|intro h)
    any_goals (
     have Fi:nt g k=true:=decide_eq_true (y8.2 ⟨q,Pr,by omega,h⟩)
     have Og:dF g=(k:Int):=cQ (d:=0) (by simpa using hlt) (fun j hj=>by rw [ga (by omega)];exact Fh j hj) (by rw [ga hlt];exact Fi)
     have hc:fQ g=(14,dF g, []):=by
      simp only [fQ,fe];rw [if_neg (by simp [hm]),if_neg hlo,if_pos (by omega)]
     rw [hc]<;>first|rfl|exact Og.symm)
    refine ⟨q+1,⟨by omega,fun j hj=> ?_⟩, ?_,by omega⟩
    ·by_cases hjk:j=q
     ·subst hjk;exact h
     ·exact hne j (by omega)
    ·refine Le.of ?_ ?_<;>simp [go_sem,simprocAttr]
   ·have hb3:decide ((q:Int)<(k:Int))=false:=decide_eq_false (by omega)
    repeat' (first|refine Rn.p ?_|(with_reducible apply And.intro)|((first|(refine hK _ ?_;clear hK K)|with_reducible intro K hK|refine Rs.p ?_|((with_reducible first|apply oP|apply oQ);exact rfl)|refine aa hX hC hP (cR g hl) rfl rfl rfl (by simp only [go_sem,simprocAttr,hb3]) rfl ?_|refine aa hX hC hP (dx g hm) rfl rfl rfl (by simp only [go_sem,simprocAttr,hb3]) rfl ?_|refine aa hX hC hP (cq g true hl0 hn0) rfl rfl rfl (by simp only [go_sem,simprocAttr,hb3]) rfl ?_);try simp only [go_sem,simprocAttr,hb3])|((with_reducible refine oD ?_ ?_);kernel_rfl)|((with_reducible intro h);try simp only [go_sem,simprocAttr,hb3] at h)|omega|intro h)
    refine ⟨k+1,⟨by omega,fun j hj=> ?_⟩, ?_,by omega⟩
    ·by_cases hjk:j=k
     ·subst hjk
      refine decide_eq_false fun h=> ?_
      obtain ⟨i,h1,_,h3⟩:=y8.1 h
      exact hne i (by omega) h3
     ·exact Fh j (by omega)
    ·(refine Le.of ?_ ?_<;>simp [go_sem,simprocAttr,hb3])
  ·have hb2:decide ((k:Int)<(g.es.length:Int))=false:=decide_eq_false (by omega)
   have Fi:¬0≤dF g:=by
    have:dF g= -1:=cA 0 fun j hj=>by
     rw [List.length_range] at hj
     rw [ga hj];exact Fh j (by omega)
    omega
   repeat' (first|refine Rn.p ?_|(with_reducible apply And.intro)|((first|(refine hK _ ?_;clear hK K)|with_reducible intro K hK|refine Rs.p ?_|((with_reducible first|apply oP|apply oQ);exact rfl)|refine aa hX hC hP (cR g hl) rfl rfl rfl (by simp only [go_sem,simprocAttr,hm,hb2]) rfl ?_|refine aa hX hC hP (dx g hm) rfl rfl rfl (by simp only [go_sem,simprocAttr,hm,hb2]) rfl ?_|refine aa hX hC hP (cq g true hl0 hn0) rfl rfl rfl (by simp only [go_sem,simprocAttr,hm,hb2]) rfl ?_);try simp only [go_sem,simprocAttr,hm,hb2])|((with_reducible refine oD ?_ ?_);kernel_rfl)|((with_reducible intro h);try simp only [go_sem,simprocAttr,hm,hb2] at h)|omega|intro h)
   all_goals (
    have hc:fQ g=if 0<(lM g).length then (15,0,lM g) else if 1<(bC (lJ false) g).length then (16,0,(bC (lJ false) g).take 2) else (0,0, []):=by
     show fe g (lM g) (bC (lJ false) g)=_
     simp only [fe];rw [if_neg (by simp [hm]),if_neg hlo,if_neg Fi]
    first|rw [if_pos (by omega)] at hc|(rw [if_neg (by omega)] at hc;first|rw [if_pos (by omega)] at hc|rw [if_neg (by omega)] at hc)
    rw [hc]<;>first|rfl|simp only [List.map_take])
end Go.Ab
end
section
namespace Go.Ab
def Ord (g:Gr) (out:List Int):Prop:=∀p,p<out.length→∀i,i<g.es.length→hd g i=out.getD p 0→tl g i∈out.take p
theorem ox {l r:List Int} {p:Nat} (h:p<l.length):(l++r).getD p 0=l.getD p 0:=by
 rw [List.getD_eq_getElem?_getD,List.getD_eq_getElem?_getD,List.getElem?_append_left h]
theorem Ord.next {g:Gr} {out:List Int} (h:Ord g out) {x:Nat} (hb:∀i,i<g.es.length→hd g i=x→tl g i∈out):Ord g (out++ [(x:Int)]):=by
 intro p hp i hi hh
 rw [List.length_append,List.length_singleton] at hp
 by_cases dn:p<out.length
 ·rw [ox dn] at hh
  have:=h p dn i hi hh
  rw [List.take_append_of_le_length (by omega)]
  exact this
 ·have hpe:p=out.length:=by omega
  subst hpe
  rw [List.getD_eq_getElem?_getD,List.getElem?_append_right (by omega)] at hh
  simp at hh
  rw [List.take_append_of_le_length (by omega),List.take_of_length_le (by omega)]
  exact hb i hi hh
theorem tI {g:Gr} (hm:aH g=true):∀f out,ej g out→Ord g out→left g out≤f→ej g (u5 g f out)∧Ord g (u5 g f out)∧fu (cy g (u5 g f out)) 0<0
 |f,out,hP,hO,hl=>by
  rcases LD (g:=g) out with hx|⟨x,hx,BK,hw⟩
  ·rw [y5 (by omega)];exact ⟨hP,hO,by omega⟩
  ·obtain ⟨Pu,_,hb⟩:=hP.next hm BK hw
   have hn:=vr hP Pu
   cases f with
   |zero=>omega
   |succ f=>
    have:=tI hm f (out++ [(x:Int)]) Pu (hO.next hb) (by omega)
    simp only [u5,hx]
    rw [if_neg (by omega)]
    exact this
theorem gh {g:Gr} (hm:aH g=true):ej g (aN g)∧Ord g (aN g)∧fu (cy g (aN g)) 0<0:=
 tI hm _ _ (ej.nil g) (fun p hp=>by simp at hp) (by rw [ou];exact Nat.le_refl _)
theorem pR {g:Gr} (hm:aH g=true) {y:Nat} (hy:y<g.n.toNat):0<wt g (aN g) y↔(y:Int)∉aN g:=by
 obtain ⟨_,_,hi⟩:=gh hm
 constructor
 ·intro h hin;simp [wt,hin] at h
 ·intro h
  have h0:wt g (aN g) y≠0:=by
   intro e
   rcases fZ (f:=fun y:Int=>decide (0=y)) (l:=cy g (aN g)) 0 with ⟨_,h2⟩|⟨k,h1,_⟩
   ·have:=h2 _ (List.mem_of_getElem? (kD hy))
    rw [e] at this;simp at this
   ·have:fu (cy g (aN g)) 0=k:=h1
    omega
  have:0≤wt g (aN g) y:=by simp only [wt,h,if_false];omega
  omega
theorem tJ {g:Gr} {l:List Bool} {j y:Nat} (h:y<g.n.toNat):(er g l j).getD y false=(List.range j).any fun i=>decide (hd g i=(y:Int))&&(l.getD (tl g i).toNat false&&l.getD (hd g i).toNat false):=by
 simp [er,List.getD_eq_getElem?_getD,List.getElem?_range h]
theorem tK {g:Gr} (hm:aH g=true):∀k y,y<g.n.toNat→(y:Int)∉aN g→(ff g k).getD y false=true
 |0,y,hy,_=>by simp [ff,jN,List.getD_eq_getElem?_getD,List.getElem?_range hy];omega
 |k+1,y,hy,h=>by
  have hw:=(pR hm hy).2 h
  simp only [wt,h,if_false] at hw
  obtain ⟨i,hi,hp⟩:=List.countP_pos_iff.1 (Int.natCast_pos.1 hw)
  simp only [Bool.and_eq_true,decide_eq_true_eq,Bool.not_eq_true',decide_eq_false_iff_not] at hp
  have hil:=List.mem_range.1 hi
  obtain ⟨⟨h1,h2⟩,_⟩:=cH hm hil
  have ht:(g.es.getD i (0,0)).1=tl g i:=rfl
  rw [ht] at h1 h2
  have e:((tl g i).toNat:Int)=tl g i:=by omega
  have g1:=tK hm k (tl g i).toNat (by omega) (by rw [e];exact hp.2)
  have g2:=tK hm k y hy h
  show (er g (ff g k) g.es.length).getD y false=true
  rw [tJ hy,List.any_eq_true]
  refine ⟨i,hi, ?_⟩
  rw [hp.1,Int.toNat_natCast,g1,g2];simp
theorem BN {g:Gr} (hm:aH g=true):∀k p,p<k→p<(aN g).length→(ff g k).getD ((aN g).getD p 0).toNat false=false
 |0,p,h,_=>by omega
 |k+1,p,h,hp=>by
  obtain ⟨hP,hO,_⟩:=gh hm
  have hr:=hP.lo _ (iP hp)
  obtain ⟨y,hy⟩:∃y:Nat,(aN g).getD p 0=y:=⟨((aN g).getD p 0).toNat,by omega⟩
  have Jq:y<g.n.toNat:=by omega
  rw [hy,Int.toNat_natCast]
  show (er g (ff g k) g.es.length).getD y false=false
  rw [tJ Jq,List.any_eq_false]
  intro i hi
  have hil:=List.mem_range.1 hi
  simp only [Bool.and_eq_true,decide_eq_true_eq]
  rintro ⟨h1,h2,_⟩
  have ht:=hO p hp i hil (by rw [h1,hy])
  rw [List.mem_iff_getElem?] at ht
  obtain ⟨q,hq⟩:=ht
  rw [List.getElem?_take] at hq
  split at hq
  ·rename_i Q9
   have:=BN hm k q (by omega) (by omega)
   rw [List.getD_eq_getElem?_getD (l:=aN g),hq] at this
   rw [Option.getD_some,h2] at this
   cases this
  ·cases hq
theorem Fl {g:Gr} (hm:aH g=true) {y:Nat} (hy:y<g.n.toNat):(xC g).getD y false=true↔(y:Int)∉aN g:=by
 constructor
 ·intro h hin
  obtain ⟨hP,_,_⟩:=gh hm
  obtain ⟨p,hp,e⟩:=List.getElem_of_mem hin
  have hl:=hP.fuel
  have:=BN hm g.n.toNat p (by omega) hp
  rw [List.getD_eq_getElem?_getD (l:=aN g),List.getElem?_eq_getElem hp,Option.getD_some,e,Int.toNat_natCast] at this
  have h2:(ff g g.n.toNat).getD y false=true:=h
  rw [this] at h2;cases h2
 ·intro h;exact tK hm _ y hy h
theorem Fm {g:Gr} (hm:aH g=true) {y:Nat} (hy:y<g.n.toNat):(xC g).getD y false=decide (0<(cy g (aN g)).getD y 0):=by
 rw [lG hy,Bool.eq_iff_iff,Fl hm hy,decide_eq_true_eq,pR hm hy]
theorem start_eq {g:Gr} (hm:aH g=true):(bI (fun n=>decide (0<n)) (cy g (aN g))= -1∧GB g=g.n)∨∃a:Nat,a<g.n.toNat∧bI (fun n=>decide (0<n)) (cy g (aN g))=a∧GB g=a∧(a:Int)∉aN g:=by
 have hlf:(xC g).length=g.n.toNat:=leftK_length
 rcases fZ (f:=fun n:Int=>decide (0<n)) (l:=cy g (aN g)) 0 with ⟨h1,h2⟩|⟨k,h1,h2,h3,h4⟩
 ·refine .inl ⟨h1, ?_⟩
  have:bI (fun b:Bool=>b) (xC g)= -1:=cA false fun j hj=>by
   rw [hlf] at hj
   rw [Fm hm hj]
   exact h2 _ (by rw [List.getD_eq_getElem?_getD,kD hj];exact List.mem_of_getElem? (kD hj))
  unfold GB;rw [this,if_pos (by omega)]
 ·rw [wts_length] at h2
  refine .inr ⟨k,h2,h1, ?_, ?_⟩
  ·have:bI (fun b:Bool=>b) (xC g)=k:=cQ (d:=false) (by omega) (fun j hj=>by
    rw [Fm hm (by omega)];exact h4 j hj) (by rw [Fm hm h2];exact h3)
   unfold GB;rw [this,if_neg (by omega)]
  ·rw [← pR hm h2]
   rw [lG h2] at h3
   exact of_decide_eq_true h3
def Q (g:Gr) (a:Nat) (t:Int):Prop:=∃i,i<g.es.length∧hd g i=(a:Int)∧tl g i=t∧t∉aN g
theorem aU {g:Gr} (hm:aH g=true) {i:Nat} (hi:i<g.es.length):0≤tl g i∧tl g i<g.n:=(cH hm hi).1
theorem aZ {g:Gr} (hm:aH g=true) {i:Nat} (hi:i<g.es.length):0≤hd g i∧hd g i<g.n:=(cH hm hi).2
theorem C6 {g:Gr} (hm:aH g=true) {i:Nat} (hi:i<g.es.length):0<(cy g (aN g)).getD (tl g i).toNat 0↔tl g i∉aN g:=by
 have h:=aU hm hi
 have e:((tl g i).toNat:Int)=tl g i:=by omega
 rw [lG (by omega),pR hm (by omega),e]
theorem qz {g:Gr} (hm:aH g=true):∀(l:List Int) (b:Int),(∀e∈l,∃i:Nat,e=i∧i<g.es.length)→
 (b= -1∨0≤b)→(l.foldl (fc g (cy g (aN g))) b=b∨∃i:Nat,(i:Int)∈l∧tl g i∉aN g∧l.foldl (fc g (cy g (aN g))) b=tl g i)∧(0≤b→l.foldl (fc g (cy g (aN g))) b≤b)∧
   (∀i:Nat,(i:Int)∈l→tl g i∉aN g→0≤l.foldl (fc g (cy g (aN g))) b∧l.foldl (fc g (cy g (aN g))) b≤tl g i)
 | [],b,_,_=>⟨.inl rfl,fun _=>Int.le_refl _,by simp⟩
 |e::l,b,he,hb=>by
  obtain ⟨i,rfl,hi⟩:=he e List.mem_cons_self
  have htr:=aU hm hi
  have hw:=C6 hm hi
  have hstep:fc g (cy g (aN g)) b (i:Int)=if tl g i∉aN g∧(b<0∨tl g i<b) then tl g i else b:=by
   simp only [fc,Int.toNat_natCast,hw]
  have hb':fc g (cy g (aN g)) b (i:Int)= -1∨0≤fc g (cy g (aN g)) b (i:Int):=by
   rw [hstep];split
   ·exact .inr htr.1
   ·exact hb
  obtain ⟨h1,h2,h3⟩:=qz hm l (fc g (cy g (aN g)) b (i:Int)) (fun e h=>he e (List.mem_cons_of_mem _ h)) hb'
  simp only [List.foldl_cons]
  generalize hr:l.foldl (fc g (cy g (aN g))) (fc g (cy g (aN g)) b (i:Int))=r at h1 h2 h3 ⊢
  refine ⟨?_, ?_, ?_⟩
  ·rcases h1 with h1|⟨j,hj,h4,h5⟩
   ·rw [hstep] at h1
    split at h1
    ·rename_i hc
     exact .inr ⟨i,by simp,hc.1,h1⟩
    ·exact .inl h1
   ·exact .inr ⟨j,by simp [hj],h4,h5⟩
  ·intro h0
   rw [hstep] at h2
   split at h2
   ·rename_i hc;have:=h2 htr.1;omega
   ·exact h2 h0
  ·intro j hj hjn
   rcases List.mem_cons.1 hj with hj|hj
   ·have:j=i:=Int.ofNat.inj hj
    subst this
    rw [hstep] at h1 h2
    split at h1
    ·rename_i hc
     rw [if_pos hc] at h2
     have:=h2 htr.1
     rcases h1 with h1|⟨q,hq,h4,h5⟩
     ·omega
     ·obtain ⟨i',e',hi'⟩:=he q (List.mem_cons_of_mem _ hq)
      have:q=i':=Int.ofNat.inj e'
      subst this
      have:=aU hm hi';omega
    ·rename_i hc
     rw [if_neg hc] at h2
     have JZ:¬(b<0∨tl g j<b):=fun h=>hc ⟨hjn,h⟩
     have:=h2 (by omega)
     rcases h1 with h1|⟨q,hq,h4,h5⟩
     ·omega
     ·obtain ⟨i',e',hi'⟩:=he q (List.mem_cons_of_mem _ hq)
      have:q=i':=Int.ofNat.inj e'
      subst this
      have:=aU hm hi';omega
   ·exact h3 j hj hjn
theorem tL {g:Gr} (hm:aH g=true) {a:Nat} (h:∃t,Q g a t):Q g a (jj g (cy g (aN g)) a)∧∀t,Q g a t→jj g (cy g (aN g)) a≤t:=by
 have hin:∀i,i<g.es.length→hd g i=(a:Int)→(i:Int)∈pP g a:=by
  intro i hi hh
  simp only [pP,eZ,List.mem_map,List.mem_filter,List.mem_range,decide_eq_true_eq]
  exact ⟨i,⟨hi,hh⟩,rfl⟩
 obtain ⟨h1,_,h3⟩:=qz hm (pP g a) (-1) Fg (.inl rfl)
 have hG:jj g (cy g (aN g)) a=(pP g a).foldl (fc g (cy g (aN g))) (-1):=by simp [jj,vA]
 rw [← hG] at h1 h3
 have hle:∀t,Q g a t→0≤jj g (cy g (aN g)) a∧jj g (cy g (aN g)) a≤t:=by
  rintro t ⟨i,h4,h5,rfl,h6⟩
  exact h3 i (hin i h4 h5) h6
 obtain ⟨t,ht⟩:=h
 have h0:=(hle t ht).1
 refine ⟨?_,fun t ht=>(hle t ht).2⟩
 rcases h1 with h1|⟨i,hi,h4,h5⟩
 ·omega
 ·obtain ⟨i',e',hi',hh⟩:=xB hi
  have:i=i':=Int.ofNat.inj e'
  subst this
  exact ⟨i,hi',hh,h5.symm,by rw [h5];exact h4⟩
theorem tM {g:Gr} (hm:aH g=true) {a:Nat} :∀k,k≤g.es.length→(dO g a k=g.n∨Q g a (dO g a k))∧dO g a k≤g.n∧∀i,i<k→hd g i=(a:Int)→tl g i∉aN g→dO g a k≤tl g i
 |0,_=>⟨.inl rfl,Int.le_refl _,by simp⟩
 |k+1,hk=>by
  obtain ⟨h1,h2,h3⟩:=tM hm (a:=a) k (by omega)
  have htr:=aU hm (i:=k) (by omega)
  have e:((tl g k).toNat:Int)=tl g k:=by omega
  have hlf:=Fl hm (y:=(tl g k).toNat) (by omega)
  rw [e] at hlf
  rw [nv]
  unfold xD
  split
  ·rename_i hc0
   have hc:hd g k=(a:Int)∧tl g k∉aN g:=⟨hc0.1,hlf.1 hc0.2⟩
   refine ⟨?_,by omega, ?_⟩
   ·by_cases hle:dO g a k≤tl g k
    ·rw [Int.min_eq_left hle];exact h1
    ·rw [Int.min_eq_right (by omega)];exact .inr ⟨k,by omega,hc.1,rfl,hc.2⟩
   ·intro i hi hh hn
    by_cases hik:i=k
    ·subst hik;omega
    ·have:=h3 i (by omega) hh hn;omega
  ·rename_i hc
   refine ⟨h1,h2, ?_⟩
   intro i hi hh hn
   by_cases hik:i=k
   ·subst hik;exact absurd ⟨hh,hlf.2 hn⟩ hc
   ·exact h3 i (by omega) hh hn
theorem back_eq {g:Gr} (hm:aH g=true) {a:Nat} (h:∃t,Q g a t):jj g (cy g (aN g)) a=dO g a g.es.length∧Q g a (dO g a g.es.length):=by
 obtain ⟨h1,h2⟩:=tL hm h
 obtain ⟨h3,h4,h5⟩:=tM hm (a:=a) g.es.length (Nat.le_refl _)
 have hb:dO g a g.es.length≤jj g (cy g (aN g)) a:=by
  obtain ⟨i,h6,h7,h8,h9⟩:=h1
  rw [← h8] at h9 ⊢
  exact h5 i h6 h7 h9
 have hlt:jj g (cy g (aN g)) a<g.n:=by
  obtain ⟨i,h6,h7,h8,h9⟩:=h1
  rw [← h8];exact (aU hm h6).2
 rcases h3 with h3|h3
 ·omega
 ·exact ⟨by have:=h2 _ h3;omega,h3⟩
theorem Jr {g:Gr} (hm:aH g=true) {a:Nat} (ha:a<g.n.toNat) (h:(a:Int)∉aN g):∃t,Q g a t:=by
 have hw:=(pR hm ha).2 h
 simp only [wt,h,if_false] at hw
 obtain ⟨i,hi,hp⟩:=List.countP_pos_iff.1 (Int.natCast_pos.1 hw)
 simp only [Bool.and_eq_true,decide_eq_true_eq,Bool.not_eq_true',decide_eq_false_iff_not] at hp
 exact ⟨tl g i,i,List.mem_range.1 hi,hp.1,rfl,hp.2⟩
theorem Fo {g:Gr} (hm:aH g=true):∀(f f':Nat) (way:List Int) (a:Nat),way.Nodup→a<g.n.toNat→(a:Int)∉aN g→left g way≤f→left g way≤f'→
 kF g (cy g (aN g)) f way a=nu g f' way a∧(0≤(nu g f' way a).2∧(nu g f' way a).2∈(nu g f' way a).1∧(nu g f' way a).1.Nodup)
 |f,f',way,a,hd,ha,hn,h1,h2=>by
  by_cases hmem:(a:Int)∈way
  ·rw [jL (.inr hmem),y7 hmem]
   exact ⟨rfl,by simp only;omega,hmem,hd⟩
  ·have hla:=iL ha hmem
   cases f with
   |zero=>omega
   |succ f=>
    cases f' with
    |zero=>omega
    |succ f'=>
     obtain ⟨hb,hq⟩:=back_eq hm (Jr hm ha hn)
     obtain ⟨i,hi,_,ht,Js⟩:=hq
     have htr:=aU hm hi
     rw [ht] at htr
     obtain ⟨b,pg⟩:∃b:Nat,dO g a g.es.length=b:=⟨(dO g a g.es.length).toNat,by omega⟩
     rw [pg] at hb Js htr
     have hd':(way++ [(a:Int)]).Nodup:=by
      rw [List.nodup_append]
      refine ⟨hd,by simp, ?_⟩
      intro x hx y hy e
      simp at hy
      rw [← hy, ← e] at hmem;exact hmem hx
     have ih:=Fo hm f f' (way++ [(a:Int)]) b hd' (by omega) Js (by omega) (by omega)
     have e1:kF g (cy g (aN g)) (f+1) way a=kF g (cy g (aN g)) f (way++ [(a:Int)]) b:=by
      simp only [kF];rw [if_neg (by intro h;rcases h with h|h;omega;exact hmem h),hb]
     have e2:nu g (f'+1) way a=nu g f' (way++ [(a:Int)]) b:=by
      simp only [nu];rw [if_neg hmem,pg]
     rw [e1,e2];exact ih
theorem xF {g:Gr} {way:List Int} :left g way≤g.n.toNat:=by
 unfold left
 have:=List.countP_le_length (p:=fun y:Nat=> !decide ((y:Int)∈way)) (l:=List.range g.n.toNat)
 simpa using this
theorem iQ {l:List Int} (h:l.Nodup) {i j:Nat} (hi:i<l.length) (hj:j<l.length) (e:l.getD i 0=l.getD j 0):i=j:=by
 rw [List.getD_eq_getElem?_getD,List.getD_eq_getElem?_getD,List.getElem?_eq_getElem hi,List.getElem?_eq_getElem hj] at e
 exact (List.getElem_inj h).1 e
theorem Fp {l:List Int} {i:Nat} (hi:i<l.length):l.reverse.getD i 0=l.getD (l.length - 1 - i) 0:=by
 rw [List.getD_eq_getElem?_getD,List.getD_eq_getElem?_getD,List.getElem?_reverse hi]
theorem Hs {l:List Int} (hd:l.Nodup) (h0:0<l.length):kU l.reverse=vD l:=by
 obtain ⟨m,w4,hm2,MF⟩:=dN (iM h0)
 have MG:0<l.reverse.length:=by simpa using h0
 obtain ⟨k,x7,hk2,Lw⟩:=dN (iM MG)
 have hmin:gT l.reverse=gT l:=by
  have h1:=xE (List.mem_reverse.2 (iM h0))
  have h2:=xE (List.mem_reverse.1 (iM MG))
  omega
 rw [List.length_reverse] at hk2
 have hk:l.length - 1 - k=m:=iQ hd (by omega) hm2 (by rw [← Fp hk2,Lw,MF,hmin])
 have e1:kU l.reverse=l.reverse.drop k++l.reverse.take k:=by
  simp only [kU,x7,Int.toNat_natCast]
 have e2:vD l=qO l m l.length:=by simp only [vD,w4,Int.toNat_natCast]
 rw [e1,e2]
 refine List.ext_getElem? fun i=> ?_
 by_cases hi:i<l.length
 ·have hr:(qO l m l.length)[i]? =some (l.getD ((m+l.length - i) % l.length) 0):=by
   simp [qO,List.getElem?_range hi]
  rw [hr]
  by_cases hik:i<l.length - k
  ·rw [List.getElem?_append_left (by simp;omega),List.getElem?_drop,List.getElem?_reverse (by omega)]
   have:(m+l.length - i) % l.length=m - i:=by
    rw [show m+l.length - i=(m - i)+l.length from by omega,Nat.add_mod_right,Nat.mod_eq_of_lt (by omega)]
   rw [this,show l.length - 1 - (k+i)=m - i from by omega,List.getD_eq_getElem?_getD,List.getElem?_eq_getElem (by omega)];rfl
  ·rw [List.getElem?_append_right (by simp;omega),List.length_drop,List.length_reverse,List.getElem?_take,if_pos (by omega),List.getElem?_reverse (by omega)]
   have:(m+l.length - i) % l.length=m+l.length - i:=Nat.mod_eq_of_lt (by omega)
   rw [this,show l.length - 1 - (i - (l.length - k))=m+l.length - i from by omega,List.getD_eq_getElem?_getD,List.getElem?_eq_getElem (by omega)];rfl
 ·rw [List.getElem?_eq_none (by simp;omega),List.getElem?_eq_none (by simp [qO];omega)]
theorem Jt {g:Gr} (hm:aH g=true):jK g=lM g:=by
 have hn:=aB hm
 rcases start_eq hm with ⟨h1,h2⟩|⟨a,ha,h1,h2,h3⟩
 ·have:jJ g=([], -1):=by
   unfold jJ;rw [h1];exact jL (.inl (by omega)) _
  simp only [jK,lM,this]
  rw [if_pos (by omega),if_pos h2]
 ·obtain ⟨he,h4,h5,h6⟩:=Fo hm g.n.toNat (g.n.toNat+1) [] a (by simp) ha h3 xF (Nat.le_succ_of_le xF)
  have hw:jJ g=ow g:=by
   unfold jJ ow;rw [h1,h2];exact he
  have hr:nu g (g.n.toNat+1) [] a=ow g:=by unfold ow;rw [h2]
  rw [hr] at h4 h5 h6
  simp only [jK,lM,hw]
  rw [if_neg (by omega),if_neg (by omega)]
  obtain ⟨k,x7,hk2,_⟩:=dN h5
  rw [x7,Int.toNat_natCast]
  exact Hs (List.Pairwise.drop h6) (by simp;omega)
theorem Ju (g:Gr):bN g=fQ g:=by
 unfold bN fQ
 cases hm:aH g with
 |false=>simp [fe,hm]
 |true=>rw [Jt hm]
end Go.Ab
end
section
namespace Go.Ab
end Go.Ab
end
section
namespace Go.Ab
open Go.Proofs
attribute [local congr] ACall.congr gd.congr Nx.congr
set_option maxRecDepth 10000
def g0:Gr:=⟨3, [(0,1),(1,2),(2,1)]⟩
end Go.Ab
end
section
namespace Go.Ab
open Go.Proofs
attribute [local congr] ACall.congr gd.congr Nx.congr
set_option maxRecDepth 10000
def BO (g:Gr):Bool:=decide (g.n≤((aN g).length:Int))
def Ra (g:Gr):List Int:=if BO g then aN g else []
def lN (l:List Int) (n:Int):Bool:=decide ((l.length:Int)=n)&&(List.range n.toNat).all fun x:Nat=>decide ((x:Int)∈l)
end Go.Ab
end
