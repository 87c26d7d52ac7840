/- A part of the proof. -/
import Derived.WalkKit
import Derived.Deep.QuietTactic
import Derived.Tactics2
import Derived.LoopN
import Derived.LoopTactic
import Derived.Laws.IdiomRangeMap
import Derived.Test.YtchjjbfhlchpfaaGreatL3P14
set_option linter.unusedSimpArgs false
set_option linter.unusedVariables false
section
namespace Go.Ab
open Go.Proofs Go.RowKit
set_option maxRecDepth 10000
set_option maxHeartbeats 4000000
def J5:Value→Nat
 | .int _ k=>k.toNat
 |_=>0
def J6:Value→Int
 | .int _ v=>v
 |_=>0
def fu (T:Nat→Int) (x:Int) (e:Nat) (k:Nat) (v:Int):Bool:=decide (v=x)&&decide (k≠e)&&decide (T k=T e)
def jm {α:Type} (P:Program) (s:Sem α):Prop:=∀W v W',s.run P W= .ok v W'→W'.tape=W.tape
theorem jm.bind {α β:Type} {P:Program} {s:Sem α} {k:α→Sem β} (h:jm P s) (hk:∀a,jm P (k a)):jm P (s>>= k):=by
 intro W v W' e
 rw [Sem.run_bind] at e
 cases hs:s.run P W with
 |ok a W1=>
  rw [hs] at e
  exact (hk a W1 v W' e).trans (h W a W1 hs)
 |halt hh W1=>rw [hs] at e;cases e
theorem I5 {α:Type} {P:Program} (a:α):jm P (pure a:Sem α):=by
 intro W v W' e
 cases e;rfl
theorem I6 {α:Type} {P:Program} (h:Halt):jm P (.halt h:Sem α):=by
 intro W v W' e
 cases e
theorem KY {P:Program} (r:Nat):jm P (getObj r):=by
 intro W v W' e
 simp only [getObj,Sem.run] at e
 split at e
 ·cases e
 ·cases e;rfl
 ·cases e
theorem KZ {P:Program} (r:Nat) (o:Obj):jm P (setObj r o):=by
 intro W v W' e
 simp only [setObj,Sem.run] at e
 split at e
 ·cases e
 ·cases e;rfl
 ·cases e
theorem Eh {P:Program} (q:Question):jm P (choose q):=by
 intro W v W' e
 simp only [choose,Sem.run] at e
 split at e
 ·cases e;rfl
 ·cases e;rfl
theorem Ei {P:Program} (it:Value) (b:Bool) (ty:TypeId):jm P (Instr.next it b ty):=by
 unfold Instr.next
 repeat' (first|exact I5 _|exact I6 _|exact KY _|exact KZ _ _|exact Eh _|(refine jm.bind ?_ fun _=> ?_)|split)
theorem BZ (B bm be ne ce:Nat) (es:Array MapEntry) (T:Nat→Int) (x:Int) (e:Nat) (w:World) (hB:B<w.heap.size) (qC:be<w.heap.size)
 (h1:w.cell? ⟨B,1,none⟩=some (.slice (some ⟨be,0,none⟩) ne ce)) (h4:w.cell? ⟨B,4,none⟩=some (.map (some bm)))
 (hb:w.heap[bm]? =some (.map es es.size)) (hT:∀i,i<ne→w.cell? ⟨be,i*2,none⟩=some (.int .i64 (T i))) (he:e<ne) (hne:ne≤1000)
 (hst:(∀y∈es.toList,y.born<es.size)∧(es.toList.map (·.born)).Nodup) (hE:∀y∈es.toList,∃(k:Nat) (v:Int),y.key= .int .i64 k∧y.val= .int .i64 v∧k<ne):
 Calls Tryz.prog 167 #[.pointer (some ⟨B,0,none⟩), .int .i64 x, .int .i64 e] w fun en w'=>en= .returned (.bool (es.toList.any fun y=>fu T x e (J5 y.key) (J6 y.val)))∧
  ∃(w1:World) (seen:Array Nat),(w1.Alike w∧w1.tape=w.tape)∧w'=w1.alloc (.mapIter (some bm) es.size seen es.size):=by
 have P9:=run_range_map (P:=Tryz.prog) w 69 3 3 bm es es.size Tryz.underlying69 hb
 go_enter Tryz.func167,Tryz.ntmps167
 go_wp2
 go_loopw [] (fun w'=>∃(w1:World) (seen:Array Nat),(w1.Alike w∧w1.tape=w.tape)∧w'=w1.alloc (.mapIter (some bm) es.size seen es.size)∧∀y∈es.toList,seen.contains y.born=true→fu T x e (J5 y.key) (J6 y.val)=false) (fun w'=>(leftOf es (w'.iterSeen w.heap.size)).size)
 case atStart=>exact ⟨w, #[],⟨⟨rfl,rfl,rfl⟩,rfl⟩,rfl,fun y _ h=>by simp at h⟩
 case round=>
  obtain ⟨w1,seen,⟨sN,Ol⟩,rfl,hno⟩:=hrel
  have hsz:w1.heap.size=w.heap.size:=by rw [sN.1]
  have hb1:w1.heap[bm]? =some (.map es es.size):=by rw [sN.1];exact hb
  have law:=run_next_map (P:=Tryz.prog) w1 0 bm es.size es.size seen es es.size hb1 hst.1 (Nat.le_refl _)
  rw [hsz] at law
  rcases law with ⟨h0,hrun⟩|⟨y,hy,w2,GF,hrun⟩
  ·have bw:∀ty,(Instr.next (.pointer (some ⟨w.heap.size,0,none⟩)) false ty).run Tryz.prog (w1.alloc (.mapIter (some bm) es.size seen es.size))=_:=fun _=>hrun
   go_wp2
   go_ret
   have hf:(es.toList.any fun y=>fu T x e (J5 y.key) (J6 y.val))=false:=by
    rw [List.any_eq_false]
    intro y hy
    rw [hno y hy (all_seen es seen h0 y hy)];decide
   rw [hf]
   exact ⟨rfl,w1,seen,⟨sN,Ol⟩,rfl⟩
  ·obtain ⟨k,v,hkey,hval,hk⟩:=hE y (mem_left hy).1
   rw [hkey,hval] at hrun
   have bw:∀ty,(Instr.next (.pointer (some ⟨w.heap.size,0,none⟩)) false ty).run Tryz.prog (w1.alloc (.mapIter (some bm) es.size seen es.size))=_:=fun _=>hrun
   have K0:w2.heap.size=w.heap.size:=by rw [GF.1,sN.1]
   have hb2:w2.heap[bm]? =some (.map es es.size):=by rw [GF.1];exact hb1
   have SN:=run_entry_map (P:=Tryz.prog) w2 bm es.size seen es es.size y hb2 (mem_left hy).1 hst.2
   rw [K0,hkey,hval] at SN
   have I7:w2.tape=w.tape:=(Ei _ _ _ _ _ _ hrun).trans Ol
   have GG:w2.Alike w:=⟨GF.1.trans sN.1,GF.2.1.trans sN.2.1,GF.2.2.trans sN.2.2⟩
   have hc:∀(o:Obj) (a:Addr),a.block<w.heap.size→(w2.alloc o).cell? a=w.cell? a:=fun o a ha=>by
    have:(w2.alloc o).heap[a.block]? =w.heap[a.block]? :=by rw [m9 _ _ (by rw [K0];exact ha),GG.1]
    simp only [World.cell?,this]
   have g1:∀s,(w2.alloc (.mapIter (some bm) es.size s es.size)).cell? ⟨B,1,none⟩=some (.slice (some ⟨be,0,none⟩) ne ce):=fun s=>(hc _ _ hB).trans h1
   have g2:∀s,(w2.alloc (.mapIter (some bm) es.size s es.size)).cell? ⟨be,k*2,none⟩=some (.int .i64 (T k)):=fun s=>(hc _ _ qC).trans (hT k hk)
   have g3:∀s,(w2.alloc (.mapIter (some bm) es.size s es.size)).cell? ⟨be,e*2,none⟩=some (.int .i64 (T e)):=fun s=>(hc _ _ qC).trans (hT e he)
   have Rc:fu T x e (J5 y.key) (J6 y.val)=fu T x e k v:=by rw [hkey,hval];simp [J5,J6]
   have B0:fu T x e k v=false→∀z∈es.toList,(seen.push y.born).contains z.born=true→fu T x e (J5 z.key) (J6 z.val)=false:=fun hm z hz Re=>by
    rw [contains_push] at Re
    rcases Bool.or_eq_true _ _ ▸ Re with h1|h1
    ·exact hno z hz h1
    ·have:z=y:=born_inj hst.2 hz (mem_left hy).1 (beq_iff_eq.1 h1)
     subst this
     rw [Rc];exact hm
   have hyes:fu T x e k v=true→(es.toList.any fun y=>fu T x e (J5 y.key) (J6 y.val))=true:=fun hm=>List.any_eq_true.2 ⟨y,(mem_left hy).1,by rw [Rc];exact hm⟩
   have hi2:∀n,((w2.alloc (.mapIter (some bm) es.size (seen.push y.born) es.size)).drewN n).iterSeen w.heap.size=seen.push y.born:=fun n=>by
    show (w2.alloc _).iterSeen _=_
    rw [← K0,World.iterSeen_alloc]
   have hi1:(w1.alloc (.mapIter (some bm) es.size seen es.size)).iterSeen w.heap.size=seen:=by rw [← hsz,World.iterSeen_alloc]
   clear hE hT hno hc h1 h4 hst
   by_cases c1:v=x
   ·by_cases c2:k=e
    ·have hm:fu T x e k v=false:=by simp [fu,c1,c2]
     subst c1 c2
     go_wp2
     go_quiet (fail)
     go_wp2
     go_roundw
     case rel=>exact ⟨w2.drewN nq,seen.push y.born,⟨GG,I7⟩,rfl,B0 hm⟩
     case measure=>
      rw [hi2,hi1]
      exact left_shrinks es seen y hy
    ·have Uv:¬((k:Int)=(e:Int)):=by omega
     by_cases c3:T k=T e
     ·have hm:fu T x e k v=true:=by simp [fu,c1,c2,c3]
      go_wp2
      go_quiet (fail)
      go_wp2
      go_ret
      rw [hyes hm]
      exact ⟨rfl,w2.drewN nq,_,⟨GG,I7⟩,rfl⟩
     ·have hm:fu T x e k v=false:=by simp [fu,c3]
      have b3:(T k==T e)=false:=by simpa using c3
      go_wp2
      go_quiet (fail)
      go_wp2
      go_roundw
      case rel=>exact ⟨w2.drewN nq,seen.push y.born,⟨GG,I7⟩,rfl,B0 hm⟩
      case measure=>
       rw [hi2,hi1]
       exact left_shrinks es seen y hy
   ·have hm:fu T x e k v=false:=by simp [fu,c1]
    have b1:(v==x)=false:=by simpa using c1
    clear c1
    go_wp2
    go_quiet (fail)
    go_wp2
    go_roundw
    case rel=>exact ⟨w2.drewN nq,seen.push y.born,⟨GG,I7⟩,rfl,B0 hm⟩
    case measure=>
     rw [hi2,hi1]
     exact left_shrinks es seen y hy
end Go.Ab
end
section
namespace Go.Ab
set_option maxRecDepth 10000
structure PS where
 m:Nat
 src:Int
 Nl:Int
 tl:Int→Int
 hd:Int→Int
 ins:Int→List Int
 outs:Int→List Int
 Qa:Int→Nat
 Row:Nat→List Int→List Int→Prop
 k0:Nat
def PS.E (P:PS) (e:Int):Prop:=0≤e∧e<P.m
structure PS.Ok (P:PS):Prop where
 Ap:∀x e,e∈P.outs x↔P.E e∧P.tl e=x
 lG:∀x e,e∈P.ins x↔P.E e∧P.hd e=x
 tq:∀x,(P.outs x).Nodup
 GH:∀x,(P.ins x).Nodup
 GI:∀e,P.E e→P.Qa (P.tl e)<P.Qa (P.hd e)
 K5:P.Row P.k0 (P.outs P.src) [P.src]
 B1:∀ {k W D},P.Row k W D→W.Nodup
 tu:∀ {k W D},P.Row k W D→∀e,e∈W↔P.E e∧P.tl e∈D∧P.hd e∉D
 uM:∀ {k W D},P.Row (k+1) W D→∃x A C,W=A++P.ins x++C∧P.ins x≠ []
 row_step:∀ {k W D x A C},P.Row k W D→W=A++P.ins x++C→P.ins x≠ []→∃k',k=k'+1∧P.Row k' (A++P.outs x++C) (D++ [x])
 yN:∀ {W D},P.Row 0 W D→∀e,P.E e→P.hd e∈D
 C4:∀ {k W D},P.Row k W D→P.src∈D
 C5:∀ {k W D},P.Row k W D→P.Nl∈D→k=0
 B2:P.ins P.src= []
 C6:∀x,P.ins x≠ []→(P.outs x= []↔x=P.Nl)
theorem qN {l:List Int} :l.reverse.Nodup↔l.Nodup:=(List.reverse_perm l).nodup_iff
def PS.Fq (P:PS):PS:= {P with ins:=fun x=>(P.ins x).reverse,outs:=fun x=>(P.outs x).reverse,Row:=fun k W D=>P.Row k W.reverse D}
theorem PS.Ok.Fq {P:PS} (h:P.Ok):P.Fq.Ok:=
 {Ap:=fun x e=>by show e∈(P.outs x).reverse↔_;rw [List.mem_reverse];exact h.Ap x e
  lG:=fun x e=>by show e∈(P.ins x).reverse↔_;rw [List.mem_reverse];exact h.lG x e
  tq:=fun x=>by show (P.outs x).reverse.Nodup;exact qN.2 (h.tq x)
  GH:=fun x=>by show (P.ins x).reverse.Nodup;exact qN.2 (h.GH x)
  GI:=h.GI
  K5:=by show P.Row _ (P.outs P.src).reverse.reverse _;rw [List.reverse_reverse];exact h.K5
  B1:=fun {k W D} hr=>qN.1 (h.B1 (show P.Row k W.reverse D from hr))
  tu:=fun {k W D} hr e=>by
   have:=h.tu (show P.Row k W.reverse D from hr) e
   rw [List.mem_reverse] at this
   exact this
  uM:=fun {k W D} hr=>by
   obtain ⟨x,A,C,h1,h2⟩:=h.uM (show P.Row (k+1) W.reverse D from hr)
   refine ⟨x,C.reverse,A.reverse, ?_,fun h3=>h2 (List.reverse_eq_nil_iff.1 h3)⟩
   show W=C.reverse++(P.ins x).reverse++A.reverse
   rw [← List.reverse_reverse W,h1]
   simp
  row_step:=fun {k W D x A C} hr h1 h2=>by
   have h1:W=A++(P.ins x).reverse++C:=h1
   obtain ⟨k',h3,h4⟩:=h.row_step (x:=x) (A:=C.reverse) (C:=A.reverse) (show P.Row k W.reverse D from hr) (by rw [h1];simp) (fun h3=>h2 (List.reverse_eq_nil_iff.2 h3))
   refine ⟨k',h3, ?_⟩
   show P.Row k' (A++(P.outs x).reverse++C).reverse (D++ [x])
   have e:(A++(P.outs x).reverse++C).reverse=C.reverse++P.outs x++A.reverse:=by simp
   rw [e];exact h4
  yN:=fun {W D} hr=>h.yN (show P.Row 0 W.reverse D from hr)
  C4:=fun {k W D} hr=>h.C4 (show P.Row k W.reverse D from hr)
  C5:=fun {k W D} hr=>h.C5 (show P.Row k W.reverse D from hr)
  B2:=by show (P.ins P.src).reverse= [];rw [h.B2];rfl
  C6:=fun x hx=>by
   have h2:P.ins x≠ []:=fun h3=>hx (by show (P.ins x).reverse= [];rw [h3];rfl)
   show (P.outs x).reverse= []↔_
   rw [List.reverse_eq_nil_iff];exact h.C6 x h2}
structure MS where
 A:List Int
 B:List Int
 D:List Int
def PS.next (P:PS) (s:MS):MS:=
 match s.B with
 | []=>s
 |e::B=>if P.ins (P.hd e)<:+s.A++ [e] then ⟨(s.A++ [e]).take (s.A.length+1 - (P.ins (P.hd e)).length),P.outs (P.hd e)++B,s.D++ [P.hd e]⟩ else ⟨s.A++ [e],B,s.D⟩
def PS.st (P:PS):Nat→MS
 |0=>⟨[],P.outs P.src, [P.src]⟩
 |j+1=>P.next (P.st j)
def PS.sh (P:PS) (j:Nat):Int:=(P.st j).B.headD 0
def PS.Fs (P:PS) (j:Nat):List Int:=(List.range j).map P.sh
variable {P:PS}
theorem PS.uN {j:Nat} :P.Fs (j+1)=P.Fs j++ [P.sh j]:=by simp [PS.Fs,List.range_succ]
theorem PS.I8 {j:Nat} :(P.Fs j).length=j:=by simp [PS.Fs]
structure PS.Inv (P:PS) (j:Nat) (s:MS):Prop where
 row:∃k,P.Row k (s.A++s.B) s.D
 no:∀h,P.ins h≠ []→¬P.ins h<:+:s.A
 nd:(P.Fs j).Nodup
 sh:∀e,e∈P.Fs j↔P.E e∧(e∈s.A∨P.hd e∈s.D)
 len:j≤P.m
theorem nc:∀ {l m:List Int},l.Nodup→(∀i∈l,i∈m)→l.length≤m.length
 | [],_,_,_=>Nat.zero_le _
 |a::l,m,hn,h=>by
  rw [List.nodup_cons] at hn
  have ha:=h a (List.mem_cons_self ..)
  have:=nc (m:=m.erase a) hn.2 fun i hi=>(List.mem_erase_of_ne (show i≠a from fun e=>hn.1 (by rw [← e];exact hi))).2 (h i (List.mem_cons_of_mem _ hi))
  rw [List.length_erase_of_mem ha] at this
  have:=List.length_pos_of_mem ha
  rw [List.length_cons];omega
theorem Ej {l:List Int} {m:Nat} (hall:∀e:Int,0≤e→e<m→e∈l):m≤l.length:=by
 have:=nc (l:=(List.range m).map Int.ofNat) (m:=l) (List.pairwise_map.2 (List.nodup_range.imp fun hab e=>hab (Int.ofNat.inj e))) fun x hx=>by
  obtain ⟨a,ha,rfl⟩:=List.mem_map.1 hx
  have:=List.mem_range.1 ha
  exact hall _ (by simp) (by simp;omega)
 simpa using this
theorem Aq {X Y:List Int} (h:X<:+Y):Y=Y.take (Y.length - X.length)++X:=by
 obtain ⟨t,rfl⟩:=h
 simp
theorem PS.Inv.more (h:P.Ok) {j:Nat} {s:MS} (hi:P.Inv j s) (hj:j<P.m):∃e B,s.B=e::B:=by
 cases hB:s.B with
 |cons e B=>exact ⟨e,B,rfl⟩
 |nil=>
  exfalso
  obtain ⟨k,hr⟩:=hi.row
  rw [hB,List.append_nil] at hr
  cases k with
  |succ k=>
   obtain ⟨x,A,C,h1,h2⟩:=h.uM hr
   exact hi.no x h2 ⟨A,C,h1.symm⟩
  |zero=>
   have hall:∀e,P.E e→e∈P.Fs j:=fun e he=>(hi.sh e).2 ⟨he, .inr (h.yN hr e he)⟩
   have:=Ej (fun e h1 h2=>hall e ⟨h1,h2⟩)
   rw [PS.I8] at this
   omega
theorem PS.Ek {s:MS} {e:Int} {B:List Int} (hB:s.B=e::B):P.next s=if P.ins (P.hd e)<:+s.A++ [e] then ⟨(s.A++ [e]).take (s.A.length+1 - (P.ins (P.hd e)).length),P.outs (P.hd e)++B,s.D++ [P.hd e]⟩ else ⟨s.A++ [e],B,s.D⟩:=by
 unfold PS.next;rw [hB]
theorem PS.B3 (h:P.Ok) {s:MS} {k:Nat} {e:Int} {B:List Int} (hr:P.Row k (s.A++s.B) s.D) (hB:s.B=e::B):
 P.E e∧((∃A',s.A++ [e]=A'++P.ins (P.hd e)∧P.ins (P.hd e)≠ []∧P.next s=⟨A',P.outs (P.hd e)++B,s.D++ [P.hd e]⟩)∨(¬P.ins (P.hd e)<:+s.A++ [e]∧P.next s=⟨s.A++ [e],B,s.D⟩)):=by
 have he:P.E e:=((h.tu hr e).1 (by rw [hB];simp)).1
 refine ⟨he, ?_⟩
 rw [PS.Ek hB]
 by_cases hs:P.ins (P.hd e)<:+s.A++ [e]
 ·rw [if_pos hs]
  refine .inl ⟨_, ?_,fun h0=> ?_,rfl⟩
  ·have:=Aq hs
   simpa using this
  ·have:=(h.lG (P.hd e) e).2 ⟨he,rfl⟩
   rw [h0] at this;cases this
 ·rw [if_neg hs];exact .inr ⟨hs,rfl⟩
theorem B4 {X A:List Int} {e:Int} (h:X<:+:A++ [e]):X<:+:A∨X<:+A++ [e]:=by
 obtain ⟨s,t,ht⟩:=h
 rcases List.eq_nil_or_concat t with rfl|⟨t',a,rfl⟩
 ·rw [List.append_nil] at ht;exact .inr ⟨s,ht⟩
 ·left
  refine ⟨s,t', ?_⟩
  have:s++X++t'++ [a]=A++ [e]:=by rw [← ht];simp
  exact (List.append_inj' this rfl).1
theorem PS.inv (h:P.Ok):∀j,j≤P.m→P.Inv j (P.st j)
 |0,_=>⟨⟨_,h.K5⟩,fun x hx hs=>hx (by
    have:P.ins x<:+: []:=hs
    simpa using this),by simp [PS.Fs],fun e=>(by
     simp only [PS.Fs,List.range_zero,List.map_nil,List.not_mem_nil,false_iff]
     rintro ⟨he,h1|h1⟩
     ·cases h1
     ·have h1:P.hd e∈ [P.src]:=h1
      have h2:P.hd e=P.src:=by simpa using h1
      have:=(h.lG P.src e).2 ⟨he,h2⟩
      rw [h.B2] at this;cases this),Nat.zero_le _⟩
 |j+1,hj=>by
  have hi:=PS.inv h j (by omega)
  obtain ⟨e,B,hB⟩:=hi.more h (by omega)
  obtain ⟨k,hr⟩:=hi.row
  have hsh:P.sh j=e:=by unfold PS.sh;rw [hB];rfl
  have SO:e∈(P.st j).A++(P.st j).B:=by rw [hB];simp
  have hm:=(h.tu hr e).1 SO
  have b9:=h.B1 hr
  have Qb:e∉(P.st j).A:=fun hA=>by
   rw [List.nodup_append] at b9
   exact b9.2.2 e hA e (by rw [hB];simp) rfl
  have hnew:e∉P.Fs j:=fun h1=>by
   rcases ((hi.sh e).1 h1).2 with h2|h2
   ·exact Qb h2
   ·exact hm.2.2 h2
  have ga:(P.Fs (j+1)).Nodup:=by
   rw [PS.uN,hsh,List.nodup_append]
   exact ⟨hi.nd,by simp,fun a ha b hb=>by
    rw [List.mem_singleton] at hb
    subst hb
    intro e2;exact hnew (e2 ▸ ha)⟩
  obtain ⟨he,hc⟩:=PS.B3 h hr hB
  have hst:P.st (j+1)=P.next (P.st j):=rfl
  rw [hst]
  rcases hc with ⟨A',h1,h2,h3⟩|⟨h1,h3⟩
  ·rw [h3]
   have hrow:(P.st j).A++(P.st j).B=A'++P.ins (P.hd e)++B:=by rw [hB, ← h1];simp
   obtain ⟨k',rfl,hr'⟩:=h.row_step hr hrow h2
   refine ⟨⟨k',by simpa using hr'⟩,fun x hx hs=> ?_,ga,fun f=> ?_,hj⟩
   ·have hs:P.ins x<:+:A':=hs
    have hA:¬P.ins x<:+:(P.st j).A:=hi.no x hx
    obtain ⟨u,v,huv⟩:=hs
    rcases List.eq_nil_or_concat (P.ins (P.hd e)) with h0|⟨I',a,h0⟩
    ·exact h2 h0
    ·rw [h0, ← List.concat_eq_append,List.concat_eq_append] at h1
     have h4:(P.st j).A++ [e]=(A'++I')++ [a]:=by rw [h1];simp
     have h5:=(List.append_inj' h4 rfl).1
     exact hA ⟨u,v++I',by rw [h5, ← huv];simp⟩
   ·rw [PS.uN,hsh,List.mem_append,List.mem_singleton,hi.sh f]
    show _↔P.E f∧(f∈A'∨P.hd f∈(P.st j).D++ [P.hd e])
    constructor
    ·rintro (⟨h4,h5|h5⟩|rfl)
     ·have:f∈A'++P.ins (P.hd e):=by rw [← h1];exact List.mem_append.2 (.inl h5)
      rcases List.mem_append.1 this with h6|h6
      ·exact ⟨h4, .inl h6⟩
      ·exact ⟨h4, .inr (by rw [((h.lG _ _).1 h6).2];simp)⟩
     ·exact ⟨h4, .inr (List.mem_append.2 (.inl h5))⟩
     ·exact ⟨he, .inr (by simp)⟩
    ·rintro ⟨h4,h5|h5⟩
     ·have:f∈(P.st j).A++ [e]:=by rw [h1];exact List.mem_append.2 (.inl h5)
      rcases List.mem_append.1 this with h6|h6
      ·exact .inl ⟨h4, .inl h6⟩
      ·exact .inr (by simpa using h6)
     ·rcases List.mem_append.1 h5 with h6|h6
      ·exact .inl ⟨h4, .inr h6⟩
      ·have h6:P.hd f=P.hd e:=by simpa using h6
       have h7:f∈P.ins (P.hd e):=(h.lG _ _).2 ⟨h4,h6⟩
       have:f∈(P.st j).A++ [e]:=by rw [h1];exact List.mem_append.2 (.inr h7)
       rcases List.mem_append.1 this with h8|h8
       ·exact .inl ⟨h4, .inl h8⟩
       ·exact .inr (by simpa using h8)
  ·rw [h3]
   refine ⟨⟨k,by simpa [hB] using hr⟩,fun x hx hs=> ?_,ga,fun f=> ?_,hj⟩
   ·rcases B4 hs with h4|h4
    ·exact hi.no x hx h4
    ·have hne:e∈P.ins x:=by
      obtain ⟨t,ht⟩:=h4
      rcases List.eq_nil_or_concat (P.ins x) with h0|⟨I',a,h0⟩
      ·exact absurd h0 hx
      ·rw [h0] at ht
       have h5:(t++I')++ [a]=(P.st j).A++ [e]:=by rw [← ht];simp
       have:=(List.append_inj' h5 rfl).2
       rw [h0];simp at this ⊢;exact .inr this.symm
     rw [((h.lG _ _).1 hne).2] at h1
     exact h1 h4
   ·rw [PS.uN,hsh,List.mem_append,List.mem_singleton,hi.sh f]
    show _↔P.E f∧(f∈(P.st j).A++ [e]∨P.hd f∈(P.st j).D)
    rw [List.mem_append,List.mem_singleton]
    constructor
    ·rintro (⟨h4,h5|h5⟩|rfl)
     ·exact ⟨h4, .inl (.inl h5)⟩
     ·exact ⟨h4, .inr h5⟩
     ·exact ⟨he, .inl (.inr rfl)⟩
    ·rintro ⟨h4,(h5|h5)|h5⟩
     ·exact .inl ⟨h4, .inl h5⟩
     ·exact .inr h5
     ·exact .inl ⟨h4, .inr h5⟩
end Go.Ab
end
section
namespace Go.Ab
set_option maxRecDepth 10000
set_option linter.unusedSectionVars false
variable {P:PS}
structure PS.kG (P:PS) (L R:Int→Int) (f0 f1:Int) (low:Int→Int):Prop where
 ne:f0≠f1
 ng:∀ {x u a b v},P.outs x=u++a::b::v→R a=L b
 B5:∀ {x u a b v},P.ins x=u++a::b::v→R a=L b
 fst:∀ {x a u b v},P.ins x=a::u→P.outs x=b::v→L a=L b
 K6:∀ {x a u b v},P.ins x=u++ [a]→P.outs x=v++ [b]→R a=R b
 s0:∀ {b v},P.outs P.src=b::v→L b=f0
 s1:∀ {b v},P.outs P.src=v++ [b]→R b=f1
 new:∀ {x u a b v},P.outs x=u++a::b::v→low (R a)=x∧R a≠f0∧R a≠f1
 new1:∀ {x u a b v u' a' b' v'},P.outs x=u++a::b::v→P.outs x=u'++a'::b'::v'→R a=R a'→a=a'
theorem GJ {l u v u' v':List Int} {a:Int} (hn:l.Nodup) (h1:l=u++a::v) (h2:l=u'++a::v'):u=u'∧v=v':=by
 induction u generalizing l u' with
 |nil=>
  cases u' with
  |nil=>rw [h1] at h2;simpa using h2
  |cons b u'=>
   rw [h1] at h2
   simp only [List.nil_append,List.cons_append,List.cons.injEq] at h2
   rw [h1,h2.2] at hn
   simp at hn
 |cons b u ih=>
  cases u' with
  |nil=>
   rw [h2] at h1
   simp only [List.nil_append,List.cons_append,List.cons.injEq] at h1
   rw [h2,h1.2] at hn
   simp at hn
  |cons b' u'=>
   have h3:=h1.symm.trans h2
   simp only [List.cons_append,List.cons.injEq] at h3
   rw [h1,List.cons_append,List.nodup_cons] at hn
   obtain ⟨h4,h5⟩:=ih hn.2 rfl h3.2
   exact ⟨by rw [h3.1,h4],h5⟩
theorem iZ {l u v:List Int} {a b:Int} (h:l.reverse=u++a::b::v):l=v.reverse++b::a::u.reverse:=by
 have:=congrArg List.reverse h
 simpa using this
theorem PS.kG.Fq (h:P.Ok) {L R:Int→Int} {f0 f1:Int} {low:Int→Int} (F:P.kG L R f0 f1 low):P.Fq.kG R L f1 f0 low:=
 {ne:=F.ne.symm
  ng:=fun {x u a b v} h=>(F.ng (iZ (show (P.outs x).reverse=_ from h))).symm
  B5:=fun {x u a b v} h=>(F.B5 (iZ (show (P.ins x).reverse=_ from h))).symm
  fst:=fun {x a u b v} h1 h2=>F.K6 (x:=x) (u:=u.reverse) (v:=v.reverse) (by
     have:=congrArg List.reverse (show (P.ins x).reverse=_ from h1);simpa using this) (by
     have:=congrArg List.reverse (show (P.outs x).reverse=_ from h2);simpa using this)
  K6:=fun {x a u b v} h1 h2=>F.fst (x:=x) (u:=u.reverse) (v:=v.reverse) (by
    have:=congrArg List.reverse (show (P.ins x).reverse=_ from h1);simpa using this) (by
    have:=congrArg List.reverse (show (P.outs x).reverse=_ from h2);simpa using this)
  s0:=fun {b v} h1=>F.s1 (v:=v.reverse) (by
     have:=congrArg List.reverse (show (P.outs P.src).reverse=_ from h1);simpa using this)
  s1:=fun {b v} h1=>F.s0 (v:=v.reverse) (by
     have:=congrArg List.reverse (show (P.outs P.src).reverse=_ from h1);simpa using this)
  new:=fun {x u a b v} h1=>by
   have h2:=iZ (show (P.outs x).reverse=_ from h1)
   obtain ⟨h3,h4,h5⟩:=F.new h2
   have h6:=F.ng h2
   rw [← h6];exact ⟨h3,h5,h4⟩
  new1:=fun {x u a b v u' a' b' v'} h1 h2 h3=>by
   have g1:=iZ (show (P.outs x).reverse=_ from h1)
   have g2:=iZ (show (P.outs x).reverse=_ from h2)
   rw [← F.ng g1, ← F.ng g2] at h3
   have h4:=F.new1 g1 g2 h3
   subst h4
   have:=(GJ (h.tq x) g1 g2).2
   simp only [List.cons.injEq] at this
   exact this.1}
def pU (L R:Int→Int):Int→List Int→Prop
 |_, []=>True
 |f,a::W=>L a=f∧pU L R (R a) W
def qO (R:Int→Int):Int→List Int→Int
 |f, []=>f
 |_,a::W=>qO R (R a) W
theorem kH {L R:Int→Int} :∀ {A B:List Int} {f:Int},pU L R f (A++B)↔pU L R f A∧pU L R (qO R f A) B
 | [],B,f=>by simp [pU,qO]
 |a::A,B,f=>by simp [pU,qO,kH,and_assoc]
theorem ij {R:Int→Int} :∀ {A B:List Int} {f:Int},qO R f (A++B)=qO R (qO R f A) B
 | [],B,f=>rfl
 |a::A,B,f=>by simp [qO,ij]
theorem xp {R:Int→Int} {A:List Int} {a f:Int} :qO R f (A++ [a])=R a:=by rw [ij];rfl
theorem Ar {L R:Int→Int} :∀ {X:List Int} {f:Int},(∀u a b v,X=u++a::b::v→R a=L b)→(∀a u,X=a::u→L a=f)→pU L R f X
 | [],f,_,_=>trivial
 |a::X,f,h,h1=>⟨h1 a X rfl,Ar (fun u b c v e=>h (a::u) b c v (by rw [e];rfl)) fun b v e=>(h [] a b v (by rw [e];rfl)).symm⟩
theorem C7 {l:List Int} (h:l≠ []):∃u a,l=u++ [a]:=by
 rcases List.eq_nil_or_concat l with h1|⟨u,a,h1⟩
 ·exact absurd h1 h
 ·exact ⟨u,a,by rw [h1,List.concat_eq_append]⟩
theorem yO {l:List Int} (h:l≠ []):∃a u,l=a::u:=by
 cases l with
 |nil=>exact absurd rfl h
 |cons a u=>exact ⟨a,u,rfl⟩
structure K7 (L R:Int→Int) (f0 f1:Int) (low:Int→Int) (W D:List Int):Prop where
 lk:pU L R f0 W
 en:qO R f0 W=f1
 nd:(W.map R).Nodup
 lo:∀a∈W,R a≠f0∧(R a=f1∨(R a≠f1∧low (R a)∈D))
theorem El {X U V Y:List Int} {r:Int} (h:(X++(U++ [r])++Y).Nodup) (hV:V.Nodup) (hd:∀z∈V,z∉X∧z≠r∧z∉Y):(X++(V++ [r])++Y).Nodup:=by
 have h1:(X++ [r]++Y).Nodup:=by
  refine List.Nodup.sublist ?_ h
  refine List.Sublist.append (List.Sublist.append (List.Sublist.refl _) ?_) (List.Sublist.refl _)
  exact List.sublist_append_right ..
 have h2:(V++(X++ [r]++Y)).Nodup:=by
  rw [List.nodup_append]
  refine ⟨hV,h1,fun a ha b hb e=> ?_⟩
  subst e
  obtain ⟨g1,g2,g3⟩:=hd a ha
  simp only [List.mem_append,List.mem_singleton] at hb
  rcases hb with (hb|hb)|hb
  ·exact g1 hb
  ·exact g2 hb
  ·exact g3 hb
 refine (List.Perm.nodup_iff ?_).1 h2
 have:X++(V++ [r])++Y=(X++V)++([r]++Y):=by simp
 rw [this]
 have:V++(X++ [r]++Y)=(V++X)++([r]++Y):=by simp
 rw [this]
 exact List.Perm.append_right _ List.perm_append_comm
theorem nR {R:Int→Int} :∀ {l:List Int},l.Nodup→(∀a∈l,∀b∈l,R a=R b→a=b)→(l.map R).Nodup
 | [],_,_=>by simp
 |a::l,hn,h=>by
  rw [List.nodup_cons] at hn
  rw [List.map_cons,List.nodup_cons]
  refine ⟨fun hm=> ?_,nR hn.2 fun x hx y hy=>h x (List.mem_cons_of_mem _ hx) y (List.mem_cons_of_mem _ hy)⟩
  obtain ⟨b,hb,e⟩:=List.mem_map.1 hm
  have:=h b (List.mem_cons_of_mem _ hb) a (List.mem_cons_self ..) e
  exact hn.1 (this ▸ hb)
section
variable (h:P.Ok) {L R:Int→Int} {f0 f1:Int} {low:Int→Int} (F:P.kG L R f0 f1 low)
include h F
theorem ow {v:List Int} {b:Int} {x:Int} (hv:P.outs x=v++ [b]) {a:Int} (ha:a∈v):∃u c w,P.outs x=u++a::c::w:=by
 obtain ⟨s,t,rfl⟩:=List.append_of_mem ha
 cases t with
 |nil=>exact ⟨s,b, [],by rw [hv];simp⟩
 |cons c t=>exact ⟨s,c,t++ [b],by rw [hv];simp⟩
theorem Em {x f:Int} (hf:∀b v,P.outs x=b::v→L b=f):pU L R f (P.outs x):=Ar (fun u a b v e=>F.ng e) fun a u e=>hf a u e
theorem I9 {x:Int} {v:List Int} {b:Int} (hv:P.outs x=v++ [b]):(v.map R).Nodup∧∀z∈v.map R,low z=x∧z≠f0∧z≠f1:=by
 have hn:=h.tq x
 rw [hv,List.nodup_append] at hn
 refine ⟨nR hn.1 fun a ha a' Nm e=> ?_,fun z hz=> ?_⟩
 ·obtain ⟨u,c,w,h1⟩:=ow h F hv ha
  obtain ⟨u',c',w',h2⟩:=ow h F hv Nm
  exact F.new1 h1 h2 e
 ·obtain ⟨a,ha,rfl⟩:=List.mem_map.1 hz
  obtain ⟨u,c,w,h1⟩:=ow h F hv ha
  exact F.new h1
theorem K7.step {A C D:List Int} {x:Int} (hi:K7 L R f0 f1 low (A++P.ins x++C) D) (hI:P.ins x≠ []) (hO:P.outs x≠ []) (hx:x∉D):K7 L R f0 f1 low (A++P.outs x++C) (D++ [x]):=by
 obtain ⟨u,a,hu⟩:=C7 hI
 obtain ⟨v,b,hv⟩:=C7 hO
 obtain ⟨a0,u0,Rg⟩:=yO hI
 obtain ⟨b0,v0,Mm⟩:=yO hO
 have hab:=F.K6 hu hv
 have h0:=F.fst Rg Mm
 obtain ⟨l1,l2⟩:=kH.1 hi.lk
 obtain ⟨l3,l4⟩:=kH.1 l1
 have Im:∀f,qO R f (P.ins x)=R a:=fun f=>by rw [hu,xp]
 have Rh:∀f,qO R f (P.outs x)=R b:=fun f=>by rw [hv,xp]
 have hL:L a0=qO R f0 A:=by rw [Rg] at l4;exact l4.1
 obtain ⟨n1,n2⟩:=I9 h F hv
 have b9:=hi.nd
 have hlo:=hi.lo
 refine ⟨?_, ?_, ?_,fun c hc=> ?_⟩
 ·rw [kH,kH]
  refine ⟨⟨l3,Em h F fun b' v' e=> ?_⟩, ?_⟩
  ·rw [Mm] at e
   simp only [List.cons.injEq] at e
   rw [← e.1, ← h0,hL]
  ·rw [ij,Rh]
   rw [ij,Im] at l2
   rw [← hab];exact l2
 ·have:=hi.en
  rw [ij,ij,Im] at this
  rw [ij,ij,Rh, ← hab];exact this
 ·rw [List.map_append,List.map_append,hv,List.map_append]
  rw [List.map_append,List.map_append,hu,List.map_append] at b9
  simp only [List.map_cons,List.map_nil] at b9 ⊢
  rw [← hab]
  have hold:∀c∈A++P.ins x++C,R c∉v.map R:=fun c hc hz=>by
   obtain ⟨g1,g2,g3⟩:=n2 _ hz
   rcases (hlo c hc).2 with h1|⟨_,h1⟩
   ·exact g3 h1
   ·rw [g1] at h1;exact hx h1
  refine El b9 n1 fun z hz=>⟨fun D7=> ?_,fun D7=> ?_,fun D7=> ?_⟩
  ·obtain ⟨c,hc,rfl⟩:=List.mem_map.1 D7
   exact hold c (by simp [hc]) hz
  ·exact hold a (by rw [hu];simp) (D7 ▸ hz)
  ·obtain ⟨c,hc,rfl⟩:=List.mem_map.1 D7
   exact hold c (by simp [hc]) hz
 ·have hold:∀c∈A++P.ins x++C,R c≠f0∧(R c=f1∨(R c≠f1∧low (R c)∈D++ [x])):=fun c hc=>by
   obtain ⟨g1,g2⟩:=hlo c hc
   exact ⟨g1,g2.imp id fun ⟨g3,g4⟩=>⟨g3,List.mem_append.2 (.inl g4)⟩⟩
  simp only [List.mem_append] at hc
  rcases hc with (hc|hc)|hc
  ·exact hold c (by simp [hc])
  ·rw [hv,List.mem_append,List.mem_singleton] at hc
   rcases hc with hc|rfl
   ·obtain ⟨g1,g2,g3⟩:=n2 (R c) (List.mem_map_of_mem hc)
    exact ⟨g2, .inr ⟨g3,by rw [g1];simp⟩⟩
   ·have:=hold a (by rw [hu];simp)
    rw [hab] at this;exact this
  ·exact hold c (by simp [hc])
end
end Go.Ab
end
section
namespace Go.Ab
set_option maxRecDepth 10000
set_option linter.unusedSectionVars false
variable {P:PS}
inductive PS.GK (P:PS) (x:Int):Int→Prop
 |refl:P.GK x x
 |step {e:Int} :P.GK x (P.tl e)→P.E e→P.GK x (P.hd e)
theorem PS.GK.trans {x y z:Int} (h1:P.GK x y) (h2:P.GK y z):P.GK x z:=by
 induction h2 with
 |refl=>exact h1
 |step _ he ih=>exact .step ih he
inductive PS.Lp (P:PS) (L R:Int→Int) (F:Int):Int→Prop
 |refl:P.Lp L R F F
 |step {e:Int} :P.Lp L R F (L e)→P.E e→P.Lp L R F (R e)
theorem PS.Lp.trans {L R:Int→Int} {x y z:Int} (h1:P.Lp L R x y) (h2:P.Lp L R y z):P.Lp L R x z:=by
 induction h2 with
 |refl=>exact h1
 |step _ he ih=>exact .step ih he
theorem PS.Lp.head {L R:Int→Int} {e z:Int} (he:P.E e) (h2:P.Lp L R (R e) z):P.Lp L R (L e) z:=(PS.Lp.step .refl he).trans h2
theorem PS.Lp.Fq {L R:Int→Int} {x y:Int} (h1:P.Lp L R x y):P.Fq.Lp R L y x:=by
 induction h1 with
 |refl=>exact .refl
 | @step e h1 he ih=>exact PS.Lp.head (P:=P.Fq) (L:=R) (R:=L) (e:=e) he ih
theorem PS.GK.Fq {x y:Int} (h1:P.GK x y):P.Fq.GK x y:=by
 induction h1 with
 |refl=>exact .refl
 |step h1 he ih=>exact PS.GK.step (P:=P.Fq) ih he
section
variable (h:P.Ok)
include h
variable {L R:Int→Int} {f0 f1:Int} {low:Int→Int} (F:P.kG L R f0 f1 low)
include F
end
end Go.Ab
end
section
namespace Go.Ab
set_option maxRecDepth 10000
set_option linter.unusedSectionVars false
variable {P:PS}
section
variable (h:P.Ok) {L R:Int→Int} {f0 f1:Int} {low:Int→Int} (F:P.kG L R f0 f1 low)
include h F
end
section
variable (h:P.Ok) {L R:Int→Int} {f0 f1:Int} {low:Int→Int} (F:P.kG L R f0 f1 low) {e f:Int} (he:P.E e) (hf:P.E f)
include h F he hf
end
section
variable (h:P.Ok) {L R:Int→Int} {f0 f1:Int} {low:Int→Int} (F:P.kG L R f0 f1 low) {e f:Int} (he:P.E e) (hf:P.E f)
include h F he hf
end
end Go.Ab
end
section
namespace Go.Ab
open Go.Proofs
attribute [local congr] ACall.congr gd.congr Nx.congr
set_option maxRecDepth 10000
set_option maxHeartbeats 8000000
def fP (f:Edge→Int) (es:List Edge) (k:Nat) (x:Nat):List Int:=((List.range k).filter fun i=>decide (f (es.getD i (0,0))=(x:Int))).map Int.ofNat
def nS (f:Edge→Int) (es:List Edge) (n k:Nat):List (List (List D)):=(List.range n).map fun x=>(fP f es k x).map rI
def sL (ls:List (List Int)):D:= .sl 1 (ls.map fun l=> [sI l])
def dG (f:Edge→Int) (g:Gr):List (List Int):=(List.range g.n.toNat).map (fP f g.es g.es.length)
def vw (g:Gr):D:= .pt [.sc (.int .i64 g.n),sE g.es,sL (dG (·.1) g),sL (dG (·.2) g)]
theorem aC {g:Gr} (h:aN g=true):0<g.n∧g.n≤64∧g.es.length≤128:=by
 simp [aN] at h;omega
theorem cM {g:Gr} (h:aN g=true) {k:Nat} (hk:k<g.es.length):(0≤(g.es.getD k (0,0)).1∧(g.es.getD k (0,0)).1<g.n)∧(0≤(g.es.getD k (0,0)).2∧(g.es.getD k (0,0)).2<g.n):=by
 have h2:=Ak (g:=g) hk
 rw [h] at h2
 have h3:¬oo g (g.es.getD k (0,0))=true:=fun e=>by simpa using h2 e
 simp only [oo,uI,Bool.or_eq_true,decide_eq_true_eq] at h3
 omega
theorem cx {f:Edge→Int} {es:List Edge} {n k:Nat} :(nS f es n k).length=n:=by simp [nS]
theorem kI {f:Edge→Int} {es:List Edge} {n k x:Nat} (hx:x<n):(nS f es n k)[x]? =some ((fP f es k x).map rI):=by
 simp [nS,List.getElem?_range hx]
theorem ja {f:Edge→Int} {es:List Edge} {k x:Nat} :(fP f es k x).length≤k:=by
 simpa [fP] using List.length_filter_le (fun i=>decide (f (es.getD i (0,0))=(x:Int))) (List.range k)
theorem B6 {f:Edge→Int} {es:List Edge} {k x:Nat} :fP f es (k+1) x=fP f es k x++if f (es.getD k (0,0))=(x:Int) then [(k:Int)] else []:=by
 simp only [fP,List.range_succ,List.filter_append,List.map_append,List.filter_cons,List.filter_nil]
 split<;>simp_all
theorem uO {f:Edge→Int} {es:List Edge} {n k:Nat} (h0:0≤f (es.getD k (0,0))):
 (nS f es n k).set (f (es.getD k (0,0))).toNat ((fP f es k (f (es.getD k (0,0))).toNat).map rI++ [[.sc (.int .i64 k)]])=nS f es n (k+1):=by
 refine List.ext_getElem? fun i=> ?_
 rw [List.getElem?_set,cx]
 by_cases hi:i<n
 ·rw [kI hi,kI hi,B6]
  generalize f (es.getD k (0,0))=e at*
  by_cases hq:e=(i:Int)
  ·subst hq;simp [hi,rI]
  ·have:¬e.toNat=i:=by omega
   simp [hq,this]
 ·rw [List.getElem?_eq_none (by rw [cx];omega),List.getElem?_eq_none (by rw [cx];omega)]
  generalize f (es.getD k (0,0))=e at*
  split
  ·rename_i hq;rw [if_neg (by omega)]
  ·rfl
theorem uP {f:Edge→Int} {es:List Edge} {n:Nat} :List.replicate n []=nS f es n 0:=by
 refine List.ext_getElem? fun i=> ?_
 by_cases hi:i<n
 ·rw [kI hi];simp [hi,fP]
 ·rw [List.getElem?_eq_none (by simp;omega),List.getElem?_eq_none (by rw [cx];omega)]
theorem iM (g:Gr) (hm:aN g=true):Spec Tryz.prog 44 (Args [eG g]) [] (.d (vw g)) []:=by
 have hn:=aC hm
 have hl:g.es.length≤9223372036854775807:=by omega
 have hl':g.es.length≤1000000:=by omega
 (refine Spec.hd (C:=T.cfg [] [13,16]) (rs:= [.t 2]) (T.ai _ _) Tryz.func44 rfl rfl Tryz.ntmps44 Tryz.results44 (by simp [AObj.isNest]) (by simp [AObj.isNest]) (by kernel_rfl) T.mixed fun X hX hP hC aH bU=> ?_)
 repeat' (first|refine Rn.p ?_|(with_reducible apply And.intro)|((first|(refine hK _ ?_;clear hK K)|with_reducible intro K hK|refine Rs.p ?_|((with_reducible first|apply oP|apply oQ);exact rfl)|refine aa hX hC hP (gm g hl) rfl rfl rfl (by simp only [go_sem,simprocAttr,hm]) rfl ?_|refine aa hX hC hP (mD g.es hl') rfl rfl rfl (by simp only [go_sem,simprocAttr,hm]) rfl ?_);try simp only [go_sem,simprocAttr,hm])|((with_reducible refine oD ?_ ?_);kernel_rfl)|((with_reducible intro h);try simp only [go_sem,simprocAttr,hm] at h)|omega|intro h)
 refine Ae hX 13 (by simp [go_sem,simprocAttr,hm];exact ⟨rfl,rfl,rfl,rfl⟩) (by decide) (by simp [go_sem,simprocAttr,hm]) (by simp [go_sem,simprocAttr,hm]) ?_
 refine Ae hX 16 (by simp [go_sem,simprocAttr,hm];exact ⟨rfl,rfl,rfl,rfl⟩) (by decide) (by simp [go_sem,simprocAttr,hm]) (by simp [go_sem,simprocAttr,hm]) ?_
 simp only [go_sem,simprocAttr,hm]
 refine ag (fun k:Nat=>k≤g.es.length) (fun k=>⟨[(29,eN k),(28,eN g.es.length),(27, .d (sE g.es)),(3, .ptr 18 0)], [(18, .box [eN g.n, .d (sE g.es), .ref 13, .ref 16]),(16, .nest 31 3 1 (nS (·.2) g.es g.n.toNat k) none),(13, .nest 31 3 1 (nS (·.1) g.es g.n.toNat k) none)]⟩) (fun k=>g.es.length - k) 0 (by simp) ?_ ?_
 ·refine Le.of ?_ ?_<;>simp [go_sem,simprocAttr,hm]
  exact ⟨uP,uP⟩
 rintro k hk
 rcases Nat.lt_or_ge k g.es.length with hlt|hge
 ·have hb:decide ((k:Int)<(g.es.length:Int))=true:=decide_eq_true (by omega)
  obtain ⟨s9,BO⟩:=cM hm hlt
  have LW:=kI (f:=(·.1)) (es:=g.es) (k:=k) (show (g.es.getD k (0,0)).1.toNat<g.n.toNat by omega)
  have Io:=kI (f:=(·.2)) (es:=g.es) (k:=k) (show (g.es.getD k (0,0)).2.toNat<g.n.toNat by omega)
  have Ip:=ja (f:=(·.1)) (es:=g.es) (k:=k) (x:=(g.es.getD k (0,0)).1.toNat)
  have GL:=ja (f:=(·.2)) (es:=g.es) (k:=k) (x:=(g.es.getD k (0,0)).2.toNat)
  repeat' (first|refine Rn.p ?_|(with_reducible apply And.intro)|((first|(refine hK _ ?_;clear hK K)|with_reducible intro K hK|refine Rs.p ?_|((with_reducible first|apply oP|apply oQ);exact rfl)|refine aa hX hC hP (gm g hl) rfl rfl rfl (by simp only [go_sem,simprocAttr,hm,hb,LW,Io,cx]) rfl ?_|refine aa hX hC hP (mD g.es hl') rfl rfl rfl (by simp only [go_sem,simprocAttr,hm,hb,LW,Io,cx]) rfl ?_);try simp only [go_sem,simprocAttr,hm,hb,LW,Io,cx])|((with_reducible refine oD ?_ ?_);first|(focus (simp only [zQ,mX,iH,meets,uu,oh,D2,dR,pQ,nQ,Rec.rs,Rec.qA,Rec.JZ,gl,Rec.dM,Rec.names,KV.ids,Gl,Gm,Gn,Gp,Gq,Gs,List.zip_cons_cons,List.zip_nil_right,List.zipIdx_cons,List.zipIdx_nil,List.all_cons,List.all_nil,List.contains_cons,List.contains_nil,List.any_cons,List.any_nil,List.flatMap_nil,List.reverse_cons,List.reverse_nil,j9,DY,Region.binds,go_sem,simprocAttr,hm,hb,LW,Io,cx];done))|kernel_rfl)|((with_reducible intro h);try simp only [go_sem,simprocAttr,hm,hb,LW,Io,cx] at h)|omega|intro h)
  refine ⟨k+1,by omega, ?_,by omega⟩
  refine Le.of ?_ ?_<;>simp [go_sem,simprocAttr,hm,hb,LW,Io,cx]
  exact ⟨uO (f:=(·.2)) BO.1,uO (f:=(·.1)) s9.1⟩
 ·repeat' (first|refine Rn.p ?_|(with_reducible apply And.intro)|((first|(refine hK _ ?_;clear hK K)|with_reducible intro K hK|refine Rs.p ?_|((with_reducible first|apply oP|apply oQ);exact rfl)|refine aa hX hC hP (gm g hl) rfl rfl rfl (by simp only [go_sem,simprocAttr]) rfl ?_|refine aa hX hC hP (mD g.es hl') rfl rfl rfl (by simp only [go_sem,simprocAttr]) rfl ?_);try simp only [go_sem,simprocAttr])|((with_reducible refine oD ?_ ?_);first|(focus (simp only [zQ,mX,iH,meets,uu,oh,D2,dR,pQ,nQ,Rec.rs,Rec.qA,Rec.JZ,gl,Rec.dM,Rec.names,KV.ids,Gl,Gm,Gn,Gp,Gq,Gs,List.zip_cons_cons,List.zip_nil_right,List.zipIdx_cons,List.zipIdx_nil,List.all_cons,List.all_nil,List.contains_cons,List.contains_nil,List.any_cons,List.any_nil,List.flatMap_nil,List.reverse_cons,List.reverse_nil,j9,DY,Region.binds,go_sem,simprocAttr];done))|kernel_rfl)|((with_reducible intro h);try simp only [go_sem,simprocAttr] at h)|omega|intro h)
  have:k=g.es.length:=by omega
  subst this
  simp only [vw,sE,sL,dG,nS,List.map_map]
  rfl
end Go.Ab
end
section
namespace Go.Ab
open Go.Proofs
attribute [local congr] ACall.congr gd.congr Nx.congr
set_option maxRecDepth 10000
def tl (g:Gr) (i:Nat):Int:=(g.es.getD i (0,0)).1
def hd (g:Gr) (i:Nat):Int:=(g.es.getD i (0,0)).2
def wt (g:Gr) (out:List Int) (y:Nat):Int:=
 if (y:Int)∈out then -1 else (((List.range g.es.length).countP fun i=>decide (hd g i=(y:Int))&& !decide (tl g i∈out):Nat):Int)
def cR (g:Gr) (out:List Int):List Int:=(List.range g.n.toNat).map (wt g out)
def wS (g:Gr):Nat→List Int→List Int
 |0,out=>out
 |f+1,out=>if fq (cR g out) 0<0 then out else wS g f (out++ [fq (cR g out) 0])
def aT (g:Gr):List Int:=wS g g.n.toNat []
structure ff (g:Gr) (out:List Int):Prop where
 lo:∀x∈out,0≤x∧x<g.n
 back:∀i,i<g.es.length→hd g i∈out→tl g i∈out
 fuel:out.length+(List.range g.n.toNat).countP (fun y:Nat=> !decide ((y:Int)∈out))=g.n.toNat
theorem fF {α:Type} {f:α→Bool} {l:List α} (d:α):b7 f l= -1∧(∀x∈l,f x=false)∨∃k:Nat,b7 f l=k∧k<l.length∧f (l.getD k d)=true∧∀j,j<k→f (l.getD j d)=false:=by
 cases h:l.findIdx? f with
 |none=>
  rw [List.findIdx?_eq_none_iff] at h
  exact .inl ⟨by simp [b7,List.findIdx?_eq_none_iff.2 h],h⟩
 |some i=>
  obtain ⟨hi,hg,hb⟩:=List.findIdx?_eq_some_iff_getElem.1 h
  refine .inr ⟨i,by simp [b7,h],hi,by simpa [List.getD_eq_getElem?_getD,List.getElem?_eq_getElem hi] using hg,fun j hj=> ?_⟩
  have hjl:j<l.length:=by omega
  have:=hb j hj
  simpa [List.getD_eq_getElem?_getD,List.getElem?_eq_getElem hjl] using this
theorem wts_length {g:Gr} {out:List Int} :(cR g out).length=g.n.toNat:=by simp [cR]
theorem mF {g:Gr} {out:List Int} {y:Nat} (h:y<g.n.toNat) (d:Int):(cR g out).getD y d=wt g out y:=by
 simp [cR,List.getD_eq_getElem?_getD,List.getElem?_range h]
theorem mG {p:Nat→Bool} {x:Nat} (hx:p x=true):∀ {n:Nat},x<n→(List.range n).countP (fun y=>p y&& !decide (y=x))+1=(List.range n).countP p
 |0,h=>by omega
 |n+1,h=>by
  rw [List.range_succ,List.countP_append,List.countP_append]
  by_cases C8:x=n
  ·subst C8
   have:(List.range x).countP (fun y=>p y&& !decide (y=x))=(List.range x).countP p:=by
    refine List.countP_congr fun y hy=> ?_
    have:y≠x:=by have:=List.mem_range.1 hy;omega
    simp [this]
   rw [this]
   simp [List.countP_cons,hx]
  ·have:=mG hx (n:=n) (by omega)
   have hn:n≠x:=fun e=>C8 e.symm
   simp only [List.countP_cons,List.countP_nil,hn,decide_false,Bool.not_false,Bool.and_true]
   omega
theorem ff.nil (g:Gr):ff g []:=⟨by simp,by simp,by rw [List.countP_eq_length_filter,List.filter_eq_self.2 (by simp)];simp⟩
theorem ff.next {g:Gr} (hm:aN g=true) {out:List Int} (h:ff g out) {x:Nat} (hx:x<g.n.toNat) (hw:wt g out x=0):ff g (out++ [(x:Int)])∧(x:Int)∉out∧(∀i,i<g.es.length→hd g i=x→tl g i∈out):=by
 have eo:(x:Int)∉out:=fun hi=>by simp [wt,hi] at hw
 have hb:∀i,i<g.es.length→hd g i=x→tl g i∈out:=by
  intro i hi he
  simp only [wt,eo,if_false] at hw
  have:=List.countP_eq_zero.1 (Int.ofNat.inj hw) i (List.mem_range.2 hi)
  simpa [he] using this
 refine ⟨⟨?_, ?_, ?_⟩,eo,hb⟩
 ·intro y hy
  rcases List.mem_append.1 hy with hy|hy
  ·exact h.lo y hy
  ·simp at hy;omega
 ·intro i hi hh
  rcases List.mem_append.1 hh with hh|hh
  ·exact List.mem_append_left _ (h.back i hi hh)
  ·simp at hh
   exact List.mem_append_left _ (hb i hi hh)
 ·have h1:=h.fuel
  have h2:=mG (p:=fun y:Nat=> !decide ((y:Int)∈out)) (x:=x) (by simp [eo]) hx
  have h3:(List.range g.n.toNat).countP (fun y:Nat=> !decide ((y:Int)∈out++ [(x:Int)]))=(List.range g.n.toNat).countP (fun y:Nat=>(!decide ((y:Int)∈out))&& !decide (y=x)):=by
   refine List.countP_congr fun y _=> ?_
   simp;omega
  rw [h3,List.length_append,List.length_singleton]
  omega
def jK (g:Gr) (x:Nat):List Int:=fP (·.1) g.es g.es.length x
def qP (g:Gr) (x:Nat):List Int:=fP (·.2) g.es g.es.length x
theorem GM {g:Gr} {x:Nat} {e:Int} (h:e∈jK g x):∃i:Nat,e=i∧i<g.es.length∧tl g i=x:=by
 simp only [jK,fP,List.mem_map,List.mem_filter,List.mem_range,decide_eq_true_eq] at h
 obtain ⟨i,⟨h1,h2⟩,rfl⟩:=h
 exact ⟨i,rfl,h1,h2⟩
def Ft (g:Gr) (out:List Int) (x j y:Nat):Int:=
 if (y:Int)∈out++ [(x:Int)] then -1 else (((List.range g.es.length).countP fun i=>decide (hd g i=(y:Int))&& !decide (tl g i∈out):Nat):Int) - (((jK g x).take j).countP fun e=>decide (hd g e.toNat=(y:Int)):Nat)
def wT (g:Gr) (out:List Int) (x j:Nat):List Int:=(List.range g.n.toNat).map (Ft g out x j)
theorem wtps_length {g:Gr} {out:List Int} {x j:Nat} :(wT g out x j).length=g.n.toNat:=by simp [wT]
theorem pV {g:Gr} {out:List Int} {x j y:Nat} (h:y<g.n.toNat):(wT g out x j)[y]? =some (Ft g out x j y):=by
 simp [wT,List.getElem?_range h]
theorem lH {g:Gr} {out:List Int} {y:Nat} (h:y<g.n.toNat):(cR g out)[y]? =some (wt g out y):=by
 simp [cR,List.getElem?_range h]
theorem En {g:Gr} {out:List Int} {x:Nat} :(cR g out).set x (-1)=wT g out x 0:=by
 refine List.ext_getElem? fun i=> ?_
 rw [List.getElem?_set,wts_length]
 by_cases hi:i<g.n.toNat
 ·rw [lH hi,pV hi]
  by_cases hx:x=i
  ·subst hx;simp [hi,Ft]
  ·have:¬i=x:=fun e=>hx e.symm
   simp only [hx,if_false,Ft,wt,List.mem_append,List.mem_singleton,List.take_zero,List.countP_nil]
   have h2:¬(i:Int)=(x:Int):=by omega
   simp [h2]
 ·rw [List.getElem?_eq_none (by rw [wts_length];omega),List.getElem?_eq_none (by rw [wtps_length];omega)]
  split
  ·rw [if_neg (by omega)]
  ·rfl
theorem lI {α:Type} {p q r:α→Bool} :∀ {l:List α},(∀a∈l,p a=(q a||r a)∧(q a&&r a)=false)→l.countP p=l.countP q+l.countP r
 | [],_=>rfl
 |a::l,h=>by
  obtain ⟨h1,h2⟩:=h a List.mem_cons_self
  have:=lI (l:=l) fun b hb=>h b (List.mem_cons_of_mem _ hb)
  simp only [List.countP_cons,this,h1]
  cases hq:q a<;>cases hr:r a<;>simp [hq,hr] at h2 ⊢ <;>omega
theorem GN {g:Gr} {out:List Int} {x j:Nat} (hx:(x:Int)∉out) (hj:(jK g x).length≤j):wT g out x j=cR g (out++ [(x:Int)]):=by
 refine List.map_congr_left fun y _=> ?_
 simp only [Ft,wt]
 split
 ·rfl
 ·rw [List.take_of_length_le hj]
  have h1:(jK g x).countP (fun e=>decide (hd g e.toNat=(y:Int)))=(List.range g.es.length).countP (fun i=>decide (hd g i=(y:Int))&&decide (tl g i=(x:Int))):=by
   simp only [jK,fP,List.countP_map,List.countP_filter]
   exact List.countP_congr fun i _=>by simp [tl]
  have h2:=lI (p:=fun i=>decide (hd g i=(y:Int))&& !decide (tl g i∈out)) (q:=fun i=>decide (hd g i=(y:Int))&& !decide (tl g i∈out++ [(x:Int)])) (r:=fun i=>decide (hd g i=(y:Int))&&decide (tl g i=(x:Int))) (l:=List.range g.es.length) (fun i _=>by
   by_cases h3:tl g i=x
   ·simp [h3,hx]
   ·simp [h3])
  rw [h1,h2];omega
theorem K8 {g:Gr} {out:List Int} {x:Nat} (hP:ff g out) (eo:(x:Int)∉out) (hb:∀i,i<g.es.length→hd g i=x→tl g i∈out) {i:Nat} (hi:i<g.es.length) (ht:tl g i=x):hd g i∉out++ [(x:Int)]:=by
 intro h
 rcases List.mem_append.1 h with h|h
 ·exact eo (ht ▸ hP.back i hi h)
 ·simp at h
  exact eo (ht ▸ hb i hi h)
theorem Eo {g:Gr} {out:List Int} {x j i:Nat} (hj:(jK g x)[j]? =some (i:Int)) (h0:0≤hd g i) (hn:hd g i∉out++ [(x:Int)]):
 (wT g out x j).set (hd g i).toNat (Ft g out x j (hd g i).toNat - 1)=wT g out x (j+1):=by
 refine List.ext_getElem? fun y=> ?_
 rw [List.getElem?_set,wtps_length]
 by_cases hy:y<g.n.toNat
 ·rw [pV hy,pV hy]
  have ht:((jK g x).take (j+1)).countP (fun e=>decide (hd g e.toNat=(y:Int)))=((jK g x).take j).countP (fun e=>decide (hd g e.toNat=(y:Int)))+if hd g i=(y:Int) then 1 else 0:=by
   rw [List.take_add_one,List.countP_append,hj]
   simp [List.countP_cons]
  by_cases hq:(hd g i).toNat=y
  ·subst hq
   have he:((hd g i).toNat:Int)=hd g i:=by omega
   rw [if_pos rfl,if_pos (by assumption)]
   rw [he,if_pos rfl] at ht
   simp only [Ft,he,hn,if_false,ht]
   congr 1;omega
  ·rw [if_neg hq]
   have mR:¬hd g i=(y:Int):=by omega
   simp only [Ft,ht,mR,if_false,Nat.add_zero]
 ·rw [List.getElem?_eq_none (by rw [wtps_length];omega),List.getElem?_eq_none (by rw [wtps_length];omega)]
  split
  ·rw [if_neg (by omega)]
  ·rfl
def Ja (f:Edge→Int) (g:Gr):List (List D):=(dG f g).map fun l=> [sI l]
theorem pW {f:Edge→Int} {g:Gr} {x:Nat} (h:x<g.n.toNat) (d:List D):(Ja f g).getD x d= [sI (fP f g.es g.es.length x)]:=by
 simp [Ja,dG,List.getD_eq_getElem?_getD,List.getElem?_range h]
theorem vwl_length {f:Edge→Int} {g:Gr} :(Ja f g).length=g.n.toNat:=by simp [Ja,dG]
def LX (g:Gr):D:= .pt [.sc (.int .i64 g.n),sE g.es, .sl 1 (Ja (·.1) g), .sl 1 (Ja (·.2) g)]
theorem aA (g:Gr):vw g=LX g:=rfl
attribute [go_sem] LX wtps_length wts_length vwl_length
theorem GO {g:Gr} {k:Nat} (h:k<g.n.toNat):(cR g []).take (k+1)=(cR g []).take k++ [((qP g k).length:Int)]:=by
 rw [List.take_add_one,lH h]
 simp [wt,qP,fP,hd,List.countP_eq_length_filter]
theorem Ep {g:Gr} (hm:aN g=true) {out:List Int} {x j y:Nat} : -1000≤Ft g out x j y∧Ft g out x j y≤1000:=by
 have hn:=aC hm
 have h1:=List.countP_le_length (p:=fun i=>decide (hd g i=(y:Int))&& !decide (tl g i∈out)) (l:=List.range g.es.length)
 have h2:=List.countP_le_length (p:=fun e:Int=>decide (hd g e.toNat=(y:Int))) (l:=(jK g x).take j)
 have h3:((jK g x).take j).length≤g.es.length:=Nat.le_trans (List.length_take_le' _ _) ja
 simp only [List.length_range] at h1
 unfold Ft
 split<;>omega
theorem As {g:Gr} {out:List Int} (h:fq (cR g out) 0<0):∀f,wS g f out=out
 |0=>rfl
 |f+1=>by simp [wS,h]
def left (g:Gr) (out:List Int):Nat:=(List.range g.n.toNat).countP (fun y:Nat=> !decide ((y:Int)∈out))
theorem xq {g:Gr} {out:List Int} {x:Nat} (h:ff g out) (h':ff g (out++ [(x:Int)])):left g out=left g (out++ [(x:Int)])+1:=by
 have h1:=h.fuel
 have h2:=h'.fuel
 rw [List.length_append,List.length_singleton] at h2
 unfold left;omega
theorem Nn {g:Gr} (out:List Int):fq (cR g out) 0= -1∨∃x:Nat,fq (cR g out) 0=x∧x<g.n.toNat∧wt g out x=0:=by
 rcases fF (f:=fun y:Int=>decide (0=y)) (l:=cR g out) 0 with ⟨h,_⟩|⟨k,h1,h2,h3,_⟩
 ·exact .inl h
 ·rw [wts_length] at h2
  rw [mF h2] at h3
  exact .inr ⟨k,h1,h2,by simpa using (of_decide_eq_true h3).symm⟩
theorem kJ (g:Gr) (hm:aN g=true):Spec Tryz.prog 176 (Args [.d (vw g)]) [] (.tup [.d (sI (aT g)), .d (sI (cR g (aT g)))]) []:=by
 rw [aA]
 have hn:=aC hm
 (refine Spec.hd (C:=T.cfg [22] []) (rs:= [.t 2, .t 3]) (T.ai _ _) Tryz.func176 rfl rfl Tryz.ntmps176 Tryz.results176 (by simp [AObj.isNest]) (by simp [AObj.isNest]) (by kernel_rfl) T.mixed fun X hX hP hC aH bU=> ?_)
 repeat' (first|refine Rn.p ?_|(with_reducible apply And.intro)|((first|(refine hK _ ?_;clear hK K)|with_reducible intro K hK|refine Rs.p ?_|((with_reducible first|apply oP|apply oQ);exact rfl)|(refine aj hX hC hP (aZ (cR g out) 0 C9) rfl rfl rfl ?_ ?_ ?_ ?_;iterate 3 (focus (simp only [go_sem,simprocAttr];done))));try simp only [go_sem,simprocAttr])|((with_reducible refine oD ?_ ?_);kernel_rfl)|((with_reducible intro h);try simp only [go_sem,simprocAttr] at h)|omega|intro h)
 (refine dW hX 3 22 (.own 3 1 []) (by simp only [go_sem,simprocAttr]) (by simp only [go_sem,simprocAttr]) (by decide) ⟨3,1,by decide, .inl rfl⟩ ?_;simp only [go_sem,simprocAttr])
 refine ag (fun k:Nat=>k≤g.n.toNat) (fun k=>⟨[(14,eN k),(13,eN g.n.toNat),(12, .d (.sl 1 (Ja (·.2) g))),(3, .ref 22),(2, .nil 3),(0, .d (LX g))], [(22, .own 3 1 (((cR g []).take k).map rI))]⟩) (fun k=>g.n.toNat - k) 0 (by simp) ?_ ?_
 ·(refine Le.of ?_ ?_<;>simp [go_sem,simprocAttr])
 ·rintro k hk
  rcases Nat.lt_or_ge k g.n.toNat with hlt|hge
  ·have hb:decide ((k:Int)<(g.n.toNat:Int))=true:=decide_eq_true (by omega)
   have hv:=pW (f:=(·.2)) hlt
   have Ip:(qP g k).length≤g.es.length:=ja
   have hlt':((cR g []).take k).length≤64:=by rw [List.length_take,wts_length];omega
   repeat' (first|refine Rn.p ?_|(with_reducible apply And.intro)|((first|(refine hK _ ?_;clear hK K)|with_reducible intro K hK|refine Rs.p ?_|((with_reducible first|apply oP|apply oQ);exact rfl)|(refine aj hX hC hP (aZ (cR g out) 0 C9) rfl rfl rfl ?_ ?_ ?_ ?_;iterate 3 (focus (simp only [go_sem,simprocAttr,hb,hv];done))));try simp only [go_sem,simprocAttr,hb,hv])|((with_reducible refine oD ?_ ?_);kernel_rfl)|((with_reducible intro h);try simp only [go_sem,simprocAttr,hb,hv] at h)|omega|intro h)
   refine ⟨k+1,by omega, ?_,by omega⟩
   refine Le.of ?_ ?_<;>simp [go_sem,simprocAttr,hb,hv,GO hlt]
   rfl
  ·obtain rfl:k=g.n.toNat:=by omega
   have hb:decide ((g.n.toNat:Int)<(g.n.toNat:Int))=false:=decide_eq_false (by omega)
   have ht:(cR g []).take g.n.toNat=cR g []:=List.take_of_length_le (by rw [wts_length];omega)
   repeat' (first|refine Rn.p ?_|(with_reducible apply And.intro)|((first|(refine hK _ ?_;clear hK K)|with_reducible intro K hK|refine Rs.p ?_|((with_reducible first|apply oP|apply oQ);exact rfl)|(refine aj hX hC hP (aZ (cR g out) 0 C9) rfl rfl rfl ?_ ?_ ?_ ?_;iterate 3 (focus (simp only [go_sem,simprocAttr,hb,ht];done))));try simp only [go_sem,simprocAttr,hb,ht])|((with_reducible refine oD ?_ ?_);kernel_rfl)|((with_reducible intro h);try simp only [go_sem,simprocAttr,hb,ht] at h)|omega|intro h)
   (refine dW hX 2 33 (.tip 3 1 []) (by simp only [go_sem,simprocAttr,hb,ht]) (by simp only [go_sem,simprocAttr,hb,ht]) (by decide) ⟨3,1,by decide, .inr rfl⟩ ?_;simp only [go_sem,simprocAttr,hb,ht])
   refine ag (fun out:List Int=>ff g out∧wS g (left g out) out=aT g) (fun out=>⟨[(3, .ref 22),(2, .ref 33),(0, .d (LX g))], [(22, .own 3 1 ((cR g out).map rI)),(33, .tip 3 1 (out.map rI))]⟩) (left g) [] ⟨ff.nil g, ?_⟩ ?_ ?_
   ·have:=(ff.nil g).fuel
    simp only [List.length_nil,Nat.zero_add] at this
    unfold left aT
    rw [this]
   ·(refine Le.of ?_ ?_<;>simp [go_sem,simprocAttr,hb,ht])
   rintro out ⟨cJ,hrun⟩
   have C9:(cR g out).length≤9223372036854775807:=by rw [wts_length];omega
   have hout:out.length≤64:=by have:=cJ.fuel;omega
   rcases Nn (g:=g) out with hx|⟨x,hx,C8,hw0⟩
   ·have hr:=As (g:=g) (out:=out) (by omega) (left g out)
    rw [hrun] at hr
    repeat' (first|refine Rn.p ?_|(with_reducible apply And.intro)|((first|(refine hK _ ?_;clear hK K)|with_reducible intro K hK|refine Rs.p ?_|((with_reducible first|apply oP|apply oQ);exact rfl)|(refine aj hX hC hP (aZ (cR g out) 0 C9) rfl rfl rfl ?_ ?_ ?_ ?_;iterate 3 (focus (simp only [go_sem,simprocAttr,hx];done))));try simp only [go_sem,simprocAttr,hx])|((with_reducible refine oD ?_ ?_);kernel_rfl)|((with_reducible intro h);try simp only [go_sem,simprocAttr,hx] at h)|omega|intro h)
    ·rw [hr]
    ·rw [hr]
   ·obtain ⟨qJ,eo,dn⟩:=cJ.next hm C8 hw0
    have hb1:decide ((x:Int)<0)=false:=decide_eq_false (by omega)
    have hv:=pW (f:=(·.1)) C8
    have Ip:(jK g x).length≤g.es.length:=ja
    repeat' (first|refine Rn.p ?_|(with_reducible apply And.intro)|((first|(refine hK _ ?_;clear hK K)|with_reducible intro K hK|refine Rs.p ?_|((with_reducible first|apply oP|apply oQ);exact rfl)|(refine aj hX hC hP (aZ (cR g out) 0 C9) rfl rfl rfl ?_ ?_ ?_ ?_;iterate 3 (focus (simp only [go_sem,simprocAttr,hx,hb1,hv];done))));try simp only [go_sem,simprocAttr,hx,hb1,hv])|((with_reducible refine oD ?_ ?_);kernel_rfl)|((with_reducible intro h);try simp only [go_sem,simprocAttr,hx,hb1,hv] at h)|omega|intro h)
    refine ag (fun j:Nat=>j≤(jK g x).length) (fun j=>⟨[(45,eN j),(44,eN (jK g x).length),(43, .d (sI (jK g x))),(3, .ref 22),(2, .ref 33),(0, .d (LX g))], [(22, .own 3 1 ((wT g out x j).map rI)),(33, .tip 3 1 ((out++ [(x:Int)]).map rI))]⟩) (fun j=>(jK g x).length - j) 0 (by simp) ?_ ?_
    ·refine Le.of ?_ ?_<;>simp [go_sem,simprocAttr,hx,hb1,hv,jK,rI]
     rw [← En,List.map_set];rfl
    rintro j hj
    rcases Nat.lt_or_ge j (jK g x).length with hlt|hge
    ·have hb2:decide ((j:Int)<((jK g x).length:Int))=true:=decide_eq_true (by omega)
     obtain ⟨i,hi,hil,hit⟩:=GM (List.getElem_mem hlt)
     have hi1:(jK g x)[j]? =some (i:Int):=by rw [List.getElem?_eq_getElem hlt,hi]
     have hi2:(jK g x).getD j 0=(i:Int):=by rw [List.getD_eq_getElem?_getD,hi1];rfl
     have hnew:=K8 cJ eo dn hil hit
     obtain ⟨_,K9,s9⟩:=cM hm hil
     have hnext:=Eo hi1 K9 hnew
     have hw:(wT g out x j).getD (g.es.getD i (0,0)).2.toNat 0=Ft g out x j (hd g i).toNat:=by
      rw [List.getD_eq_getElem?_getD,pV (by omega)];rfl
     have hbd:=Ep hm (out:=out) (x:=x) (j:=j) (y:=(hd g i).toNat)
     repeat' (first|refine Rn.p ?_|(with_reducible apply And.intro)|((first|(refine hK _ ?_;clear hK K)|with_reducible intro K hK|refine Rs.p ?_|((with_reducible first|apply oP|apply oQ);exact rfl)|(refine aj hX hC hP (aZ (cR g out) 0 C9) rfl rfl rfl ?_ ?_ ?_ ?_;iterate 3 (focus (simp only [go_sem,simprocAttr,hb2,hi2,hw];done))));try simp only [go_sem,simprocAttr,hb2,hi2,hw])|((with_reducible refine oD ?_ ?_);kernel_rfl)|((with_reducible intro h);try simp only [go_sem,simprocAttr,hb2,hi2,hw] at h)|omega|intro h)
     refine ⟨j+1,by omega, ?_,by omega⟩
     refine Le.of ?_ ?_<;>simp [go_sem,simprocAttr,hb2,hi2,hw]
     rw [← hnext,List.map_set];rfl
    ·have hb2:decide ((j:Int)<((jK g x).length:Int))=false:=decide_eq_false (by omega)
     repeat' (first|refine Rn.p ?_|(with_reducible apply And.intro)|((first|(refine hK _ ?_;clear hK K)|with_reducible intro K hK|refine Rs.p ?_|((with_reducible first|apply oP|apply oQ);exact rfl)|(refine aj hX hC hP (aZ (cR g out) 0 C9) rfl rfl rfl ?_ ?_ ?_ ?_;iterate 3 (focus (simp only [go_sem,simprocAttr,hb2];done))));try simp only [go_sem,simprocAttr,hb2])|((with_reducible refine oD ?_ ?_);kernel_rfl)|((with_reducible intro h);try simp only [go_sem,simprocAttr,hb2] at h)|omega|intro h)
     have oZ:=xq cJ qJ
     refine ⟨out++ [(x:Int)],⟨qJ, ?_⟩, ?_,by omega⟩
     ·rw [← hrun,oZ]
      simp only [wS,hx]
      rw [if_neg (by omega)]
     ·refine Le.of ?_ ?_<;>simp [go_sem,simprocAttr,hb2,GN eo hge]
end Go.Ab
end
section
namespace Go.Ab
open Go.Proofs
attribute [local congr] ACall.congr gd.congr Nx.congr
set_option maxRecDepth 10000
def lW (l:List Int) (k:Nat):List Int:=(List.range l.length).map fun p=>if p<k∨l.length - 1<p+k then l.getD (l.length - 1 - p) 0 else l.getD p 0
theorem dr {l:List Int} {k:Nat} :(lW l k).length=l.length:=by simp [lW]
theorem kK {l:List Int} {k p:Nat} (h:p<l.length):(lW l k)[p]? =some (if p<k∨l.length - 1<p+k then l.getD (l.length - 1 - p) 0 else l.getD p 0):=by
 simp [lW,List.getElem?_range h]
theorem uQ {l:List Int} {k p:Nat} (h:p<l.length) (d:Int):(lW l k).getD p d=if p<k∨l.length - 1<p+k then l.getD (l.length - 1 - p) 0 else l.getD p 0:=by
 rw [List.getD_eq_getElem?_getD,kK h];rfl
theorem B7 {l:List Int} :lW l 0=l:=by
 refine List.ext_getElem? fun i=> ?_
 by_cases hi:i<l.length
 ·rw [kK hi,if_neg (by omega),List.getD_eq_getElem?_getD,List.getElem?_eq_getElem hi];rfl
 ·rw [List.getElem?_eq_none (by rw [dr];omega),List.getElem?_eq_none (by omega)]
theorem Er {l:List Int} {k:Nat} (h:l.length≤2*k+1):lW l k=l.reverse:=by
 refine List.ext_getElem? fun i=> ?_
 by_cases hi:i<l.length
 ·rw [kK hi,List.getElem?_reverse hi]
  split
  ·rw [List.getD_eq_getElem?_getD,List.getElem?_eq_getElem (by omega)];rfl
  ·have:i=l.length - 1 - i:=by omega
   rw [← this,List.getD_eq_getElem?_getD,List.getElem?_eq_getElem hi];rfl
 ·rw [List.getElem?_eq_none (by rw [dr];omega),List.getElem?_eq_none (by rw [List.length_reverse];omega)]
theorem B8 {l:List Int} {k:Nat} (h:k<l.length - 1 - k):((lW l k).set k ((lW l k).getD (l.length - 1 - k) 0)).set (l.length - 1 - k) ((lW l k).getD k 0)=lW l (k+1):=by
 refine List.ext_getElem? fun i=> ?_
 rw [List.getElem?_set,List.length_set,dr,List.getElem?_set,dr]
 by_cases hi:i<l.length
 ·rw [kK hi,kK hi,uQ (by omega),uQ (by omega)]
  by_cases h1:l.length - 1 - k=i
  ·rw [if_pos h1,if_pos (by omega),if_neg (by omega),if_pos (by omega)]
   congr 2;omega
  ·rw [if_neg h1]
   by_cases h2:k=i
   ·rw [if_pos h2,if_pos (by omega),if_neg (by omega),if_pos (by omega)]
    congr 2;omega
   ·rw [if_neg h2]
    congr 1
    by_cases h3:i<k∨l.length - 1<i+k
    ·rw [if_pos h3,if_pos (by omega)]
    ·rw [if_neg h3,if_neg (by omega)]
 ·rw [List.getElem?_eq_none (by rw [dr];omega),List.getElem?_eq_none (by rw [dr];omega),if_neg (by omega),if_neg (by omega)]
theorem eS (l:List Int) (hl:l.length≤1000000):Spec Tryz.prog 86 (Args [.ref 10000]) [(10000, .part 3 1 (l.map rI))] (.tup []) [(10000, .part 3 1 (l.reverse.map rI))]:=by
 (refine Spec.hd (C:=T.cfg [] []) (rs:= []) (T.ai _ _) Tryz.func86 rfl rfl Tryz.ntmps86 Tryz.results86 (by simp [AObj.isNest]) (by simp [AObj.isNest]) (by kernel_rfl) T.mixed fun X hX hP hC aH bU=> ?_)
 repeat' (first|refine Rn.p ?_|(with_reducible apply And.intro)|((first|(refine hK _ ?_;clear hK K)|with_reducible intro K hK|refine Rs.p ?_|((with_reducible first|apply oP|apply oQ);exact rfl));try simp only [go_sem,simprocAttr])|((with_reducible refine oD ?_ ?_);kernel_rfl)|((with_reducible intro h);try simp only [go_sem,simprocAttr] at h)|omega|intro h)
 refine ag (fun k:Nat=>2*k≤l.length+1) (fun k=>⟨[(0, .ref 10000),(2,eN k),(3,eN ((l.length:Int) - 1 - k))], [(10000, .part 3 1 ((lW l k).map rI))]⟩) (fun k=>l.length+1 - k) 0 (by omega) ?_ ?_
 ·refine Le.of ?_ ?_<;>simp [go_sem,simprocAttr,B7]
 rintro k hk
 rcases Nat.lt_or_ge (2*k+1) l.length with hlt|hge
 ·have hb:decide ((k:Int)<(l.length:Int) - 1 - (k:Int))=true:=decide_eq_true (by omega)
  have ht:((l.length:Int) - 1 - (k:Int)).toNat=l.length - 1 - k:=by omega
  repeat' (first|refine Rn.p ?_|(with_reducible apply And.intro)|((first|(refine hK _ ?_;clear hK K)|with_reducible intro K hK|refine Rs.p ?_|((with_reducible first|apply oP|apply oQ);exact rfl));try simp only [go_sem,simprocAttr,hb,ht,dr,Gv])|((with_reducible refine oD ?_ ?_);kernel_rfl)|((with_reducible intro h);try simp only [go_sem,simprocAttr,hb,ht,dr,Gv] at h)|omega|intro h)
  refine ⟨k+1,by omega, ?_,by omega⟩
  refine Le.of ?_ ?_<;>simp [go_sem,simprocAttr]
  ·omega
  ·rw [← B8 (by omega),List.map_set,List.map_set]
   simp only [List.getD_eq_getElem?_getD]
 ·have hb:decide ((k:Int)<(l.length:Int) - 1 - (k:Int))=false:=decide_eq_false (by omega)
  repeat' (first|refine Rn.p ?_|(with_reducible apply And.intro)|((first|(refine hK _ ?_;clear hK K)|with_reducible intro K hK|refine Rs.p ?_|((with_reducible first|apply oP|apply oQ);exact rfl));try simp only [go_sem,simprocAttr,hb])|((with_reducible refine oD ?_ ?_);kernel_rfl)|((with_reducible intro h);try simp only [go_sem,simprocAttr,hb] at h)|omega|intro h)
  simp only [go_sem,simprocAttr,hb,Er hge]
def iN:List Int→Int
 | []=>0
 |a::r=>r.foldl min a
theorem Es {l:List Int} {k:Nat} (h0:0<k) (h:k<l.length):iN (l.take (k+1))=min (iN (l.take k)) (l.getD k 0):=by
 cases l with
 |nil=>simp at h
 |cons a r=>
  obtain ⟨k,rfl⟩:∃j,k=j+1:=⟨k - 1,by omega⟩
  simp only [List.length_cons] at h
  simp only [List.take_succ_cons,iN,List.getD_cons_succ]
  rw [List.take_add_one,List.foldl_append,List.getElem?_eq_getElem (by omega),List.getD_eq_getElem?_getD,List.getElem?_eq_getElem (by omega)]
  rfl
theorem GP {l:List Int} (h:0<l.length):iN (l.take 1)=l.getD 0 0:=by
 cases l with
 |nil=>simp at h
 |cons a r=>simp [iN]
theorem kL (l:List Int) (h0:0<l.length) (hl:l.length≤1000000):Spec Tryz.prog 179 (Args [.d (sI l)]) [] (eN (iN l)) []:=by
 (refine Spec.hd (C:=T.cfg [] []) (rs:= [.t 2]) (T.ai _ _) Tryz.func179 rfl rfl Tryz.ntmps179 Tryz.results179 (by simp [AObj.isNest]) (by simp [AObj.isNest]) (by kernel_rfl) T.mixed fun X hX hP hC aH bU=> ?_)
 repeat' (first|refine Rn.p ?_|(with_reducible apply And.intro)|((first|(refine hK _ ?_;clear hK K)|with_reducible intro K hK|refine Rs.p ?_|((with_reducible first|apply oP|apply oQ);exact rfl));try simp only [go_sem,simprocAttr])|((with_reducible refine oD ?_ ?_);kernel_rfl)|((with_reducible intro h);try simp only [go_sem,simprocAttr] at h)|omega|intro h)
 refine ag (fun k:Nat=>0<k∧k≤l.length) (fun k=>⟨[(0, .d (sI l)),(3,eN (iN (l.take k))),(4,eN k)], []⟩) (fun k=>l.length - k) 1 (by omega) ?_ ?_
 ·refine Le.of ?_ ?_<;>simp [go_sem,simprocAttr,GP h0]
 rintro k ⟨Bw,hk⟩
 repeat' (first|refine Rn.p ?_|(with_reducible apply And.intro)|((first|(refine hK _ ?_;clear hK K)|with_reducible intro K hK|refine Rs.p ?_|((with_reducible first|apply oP|apply oQ);exact rfl));try simp only [go_sem,simprocAttr])|((with_reducible refine oD ?_ ?_);kernel_rfl)|((with_reducible intro h);try simp only [go_sem,simprocAttr] at h)|omega|intro h)
 ·refine ⟨k+1,by omega, ?_,by omega⟩
  refine Le.of ?_ ?_<;>simp [go_sem,simprocAttr]
  rw [Es Bw (by omega),List.getD_eq_getElem?_getD]
 ·rw [List.take_of_length_le (by omega)]
theorem fQ (n:Int) (h0:0<n) (hl:n≤1000000):Spec Tryz.prog 116 (Args [.nil 3,eN n]) [] (.ref 10000) [(10000, .own 3 1 [])]:=by
 (refine Spec.tg (C:=T.cfg [] []) (rs:= [.t 4]) [(10000,25)] (T.ai _ _) Tryz.func116 rfl rfl Tryz.ntmps116 Tryz.results116 (by simp [AObj.isNest]) (by simp [AObj.isNest]) (by first|(simp [look];done)|(simp [asN];done)|(intro l hl;simp only [asN];repeat (rw [if_neg (fun e=>by subst e;simp [look] at hl)]))) (by first|(simp [look];done)|(simp [asN];done)|(intro l hl;simp only [asN];repeat (rw [if_neg (fun e=>by subst e;simp [look] at hl)]))) (by kernel_rfl) T.mixed fun X hX hP hC aH bU=> ?_)
 repeat' (first|refine Rn.p ?_|(with_reducible apply And.intro)|((first|(refine hK _ ?_;clear hK K)|with_reducible intro K hK|refine Rs.p ?_|((with_reducible first|apply oP|apply oQ);exact rfl));try simp only [go_sem,simprocAttr])|((with_reducible refine oD ?_ ?_);kernel_rfl)|((with_reducible intro h);try simp only [go_sem,simprocAttr] at h)|omega|intro h)
end Go.Ab
end
section
namespace Go.Ab
open Go.Proofs
attribute [local congr] ACall.congr gd.congr Nx.congr
set_option maxRecDepth 10000
def vL (ls:List (List Int)):List (List D):=ls.map fun l=> [sI l]
theorem vL_length {ls:List (List Int)} :(vL ls).length=ls.length:=by simp [vL]
theorem yP {ls:List (List Int)} {k:Nat} (h:k<ls.length) (d:List D):(vL ls).getD k d= [sI (ls.getD k [])]:=by
 simp [vL,List.getD_eq_getElem?_getD,List.getElem?_eq_getElem h]
attribute [go_sem] vL_length
theorem xu {ls:List (List Int)} {k:Nat} (h:k<ls.length):(ls.take (k+1)).flatten=(ls.take k).flatten++ls.getD k []:=by
 rw [List.take_add_one,List.flatten_append,List.getElem?_eq_getElem h,List.getD_eq_getElem?_getD,List.getElem?_eq_getElem h]
 simp
theorem tC {ls:List (List Int)} {k:Nat} :(ls.take k).flatten.length≤ls.flatten.length:=by
 have:=congrArg (fun x=>x.flatten.length) (List.take_append_drop k ls)
 simp only [List.flatten_append,List.length_append] at this
 omega
theorem fR (ls:List (List Int)) (hn:ls.length≤1000) (h0:0<ls.flatten.length) (hl:ls.flatten.length≤1000000):Spec Tryz.prog 72 (Args [.d (.sl 1 (vL ls))]) [] (.d (sI ls.flatten)) []:=by
 (refine Spec.hd (C:=T.cfg [] []) (rs:= [.t 2]) (T.ai _ _) Tryz.func72 rfl rfl Tryz.ntmps72 Tryz.results72 (by simp [AObj.isNest]) (by simp [AObj.isNest]) (by kernel_rfl) T.mixed fun X hX hP hC aH bU=> ?_)
 repeat' (first|refine Rn.p ?_|(with_reducible apply And.intro)|((first|(refine hK _ ?_;clear hK K)|with_reducible intro K hK|refine Rs.p ?_|((with_reducible first|apply oP|apply oQ);exact rfl)|(refine aq hX hC hP [(10000,33)] (fQ (ls.flatten.length:Int) (by omega) (by omega)) rfl rfl rfl ?_ ?_ ?_ ?_ ?_ ?_ ?_ ?_ ?_ ?_ ?_ ?_ ?_ ?_;(focus (simp only [go_sem,simprocAttr];done));(iterate 12 (focus (simp [go_sem,simprocAttr];done)));try simp only [List.map_cons,List.map_nil]));try simp only [go_sem,simprocAttr])|((with_reducible refine oD ?_ ?_);kernel_rfl)|((with_reducible intro h);try simp only [go_sem,simprocAttr] at h)|omega|intro h)
 refine ag (fun k:Nat=>k≤ls.length) (fun k=>⟨[(0, .d (.sl 1 (vL ls))),(9, .d (.sl 1 (vL ls))),(10,eN ls.length),(11,eN k),(3,eN ((ls.take k).flatten.length))], []⟩) (fun k=>ls.length - k) 0 (by omega) ?_ ?_
 ·(refine Le.of ?_ ?_<;>simp [go_sem,simprocAttr])
 ·rintro k hk
  rcases Nat.lt_or_ge k ls.length with hlt|hge
  ·have hb:decide ((k:Int)<(ls.length:Int))=true:=decide_eq_true (by omega)
   have hv:=yP hlt
   have hf:=xu hlt
   have Oj:=tC (ls:=ls) (k:=k)
   have La:=tC (ls:=ls) (k:=k+1)
   rw [hf,List.length_append] at La
   have hneg:decide (((ls.take k).flatten.length:Int)+((ls.getD k []).length:Int)<0)=false:=decide_eq_false (by omega)
   repeat' (first|refine Rn.p ?_|(with_reducible apply And.intro)|((first|(refine hK _ ?_;clear hK K)|with_reducible intro K hK|refine Rs.p ?_|((with_reducible first|apply oP|apply oQ);exact rfl)|(refine aq hX hC hP [(10000,33)] (fQ (ls.flatten.length:Int) (by omega) (by omega)) rfl rfl rfl ?_ ?_ ?_ ?_ ?_ ?_ ?_ ?_ ?_ ?_ ?_ ?_ ?_ ?_;(focus (simp only [go_sem,simprocAttr,hb,hv,hneg];done));(iterate 12 (focus (simp [go_sem,simprocAttr,hb,hv,hneg];done)));try simp only [List.map_cons,List.map_nil]));try simp only [go_sem,simprocAttr,hb,hv,hneg])|((with_reducible refine oD ?_ ?_);kernel_rfl)|((with_reducible intro h);try simp only [go_sem,simprocAttr,hb,hv,hneg] at h)|omega|intro h)
   refine ⟨k+1,by omega, ?_,by omega⟩
   simp only [hf]
   refine Le.of ?_ ?_<;>simp [go_sem,simprocAttr,hb,hv,hneg]
  ·have hb:decide ((k:Int)<(ls.length:Int))=false:=decide_eq_false (by omega)
   have ht:ls.take k=ls:=List.take_of_length_le (by omega)
   repeat' (first|refine Rn.p ?_|(with_reducible apply And.intro)|((first|(refine hK _ ?_;clear hK K)|with_reducible intro K hK|refine Rs.p ?_|((with_reducible first|apply oP|apply oQ);exact rfl)|(refine aq hX hC hP [(10000,33)] (fQ (ls.flatten.length:Int) (by omega) (by omega)) rfl rfl rfl ?_ ?_ ?_ ?_ ?_ ?_ ?_ ?_ ?_ ?_ ?_ ?_ ?_ ?_;(focus (simp only [go_sem,simprocAttr,hb,ht];done));(iterate 12 (focus (simp [go_sem,simprocAttr,hb,ht];done)));try simp only [List.map_cons,List.map_nil]));try simp only [go_sem,simprocAttr,hb,ht])|((with_reducible refine oD ?_ ?_);kernel_rfl)|((with_reducible intro h);try simp only [go_sem,simprocAttr,hb,ht] at h)|omega|intro h)
   refine ag (fun k:Nat=>k≤ls.length) (fun k=>⟨[(25, .d (.sl 1 (vL ls))),(26,eN ls.length),(27,eN k),(6, .ref 33)], [(33, .own 3 1 ((ls.take k).flatten.map rI))]⟩) (fun k=>ls.length - k) 0 (by omega) ?_ ?_
   ·(refine Le.of ?_ ?_<;>simp [go_sem,simprocAttr,hb,ht])
   ·clear hb ht hk hge
    rintro k hk
    rcases Nat.lt_or_ge k ls.length with hlt|hge
    ·have hb:decide ((k:Int)<(ls.length:Int))=true:=decide_eq_true (by omega)
     have hv:=yP hlt
     have hf:=xu hlt
     have Oj:=tC (ls:=ls) (k:=k)
     have La:=tC (ls:=ls) (k:=k+1)
     rw [hf,List.length_append] at La
     repeat' (first|refine Rn.p ?_|(with_reducible apply And.intro)|((first|(refine hK _ ?_;clear hK K)|with_reducible intro K hK|refine Rs.p ?_|((with_reducible first|apply oP|apply oQ);exact rfl)|(refine aq hX hC hP [(10000,33)] (fQ (ls.flatten.length:Int) (by omega) (by omega)) rfl rfl rfl ?_ ?_ ?_ ?_ ?_ ?_ ?_ ?_ ?_ ?_ ?_ ?_ ?_ ?_;(focus (simp only [go_sem,simprocAttr,hb,hv];done));(iterate 12 (focus (simp [go_sem,simprocAttr,hb,hv];done)));try simp only [List.map_cons,List.map_nil]));try simp only [go_sem,simprocAttr,hb,hv])|((with_reducible refine oD ?_ ?_);kernel_rfl)|((with_reducible intro h);try simp only [go_sem,simprocAttr,hb,hv] at h)|omega|intro h)
     refine ⟨k+1,by omega, ?_,by omega⟩
     simp only [hf]
     refine Le.of ?_ ?_<;>simp [go_sem,simprocAttr,hb,hv]
    ·have hb:decide ((k:Int)<(ls.length:Int))=false:=decide_eq_false (by omega)
     have ht:ls.take k=ls:=List.take_of_length_le (by omega)
     repeat' (first|refine Rn.p ?_|(with_reducible apply And.intro)|((first|(refine hK _ ?_;clear hK K)|with_reducible intro K hK|refine Rs.p ?_|((with_reducible first|apply oP|apply oQ);exact rfl)|(refine aq hX hC hP [(10000,33)] (fQ (ls.flatten.length:Int) (by omega) (by omega)) rfl rfl rfl ?_ ?_ ?_ ?_ ?_ ?_ ?_ ?_ ?_ ?_ ?_ ?_ ?_ ?_;(focus (simp only [go_sem,simprocAttr,hb,ht];done));(iterate 12 (focus (simp [go_sem,simprocAttr,hb,ht];done)));try simp only [List.map_cons,List.map_nil]));try simp only [go_sem,simprocAttr,hb,ht])|((with_reducible refine oD ?_ ?_);kernel_rfl)|((with_reducible intro h);try simp only [go_sem,simprocAttr,hb,ht] at h)|omega|intro h)
def jo (ls:List (List Int)) (k:Nat):List Int:=((List.range k).filter fun x=>decide ((ls.getD x []).length=0)).map Int.ofNat
theorem ox {ls:List (List Int)} {k:Nat} :jo ls (k+1)=jo ls k++if (ls.getD k []).length=0 then [(k:Int)] else []:=by
 simp only [jo,List.range_succ,List.filter_append,List.map_append,List.filter_cons,List.filter_nil]
 split<;>simp_all
theorem xw {ls:List (List Int)} {k:Nat} :(jo ls k).length≤k:=by
 simpa [jo] using List.length_filter_le (fun x=>decide ((ls.getD x []).length=0)) (List.range k)
theorem xx (ls:List (List Int)) (hn:ls.length≤1000):Spec Tryz.prog 115 (Args [.d (.sl 1 (vL ls))]) [] (.d (sI (jo ls ls.length))) []:=by
 (refine Spec.hd (C:=T.cfg [] []) (rs:= [.t 2]) (T.ai _ _) Tryz.func115 rfl rfl Tryz.ntmps115 Tryz.results115 (by simp [AObj.isNest]) (by simp [AObj.isNest]) (by kernel_rfl) T.mixed fun X hX hP hC aH bU=> ?_)
 repeat' (first|refine Rn.p ?_|(with_reducible apply And.intro)|((first|(refine hK _ ?_;clear hK K)|with_reducible intro K hK|refine Rs.p ?_|((with_reducible first|apply oP|apply oQ);exact rfl)|(refine aq hX hC hP [(10000,33)] (fQ (ls.flatten.length:Int) (by omega) (by omega)) rfl rfl rfl ?_ ?_ ?_ ?_ ?_ ?_ ?_ ?_ ?_ ?_ ?_ ?_ ?_ ?_;(focus (simp only [go_sem,simprocAttr];done));(iterate 12 (focus (simp [go_sem,simprocAttr];done)));try simp only [List.map_cons,List.map_nil]));try simp only [go_sem,simprocAttr])|((with_reducible refine oD ?_ ?_);kernel_rfl)|((with_reducible intro h);try simp only [go_sem,simprocAttr] at h)|omega|intro h)
 (refine dW hX 2 18 (.tip 3 1 []) (by simp only [go_sem,simprocAttr]) (by simp only [go_sem,simprocAttr]) (by decide) ⟨3,1,by decide, .inr rfl⟩ ?_;simp only [go_sem,simprocAttr])
 refine ag (fun k:Nat=>k≤ls.length) (fun k=>⟨[(5, .d (.sl 1 (vL ls))),(6,eN ls.length),(7,eN k),(2, .ref 18)], [(18, .tip 3 1 ((jo ls k).map rI))]⟩) (fun k=>ls.length - k) 0 (by omega) ?_ ?_
 ·refine Le.of ?_ ?_<;>simp [go_sem,simprocAttr,jo]
 ·rintro k hk
  rcases Nat.lt_or_ge k ls.length with hlt|hge
  ·have hb:decide ((k:Int)<(ls.length:Int))=true:=decide_eq_true (by omega)
   have hv:=yP hlt
   have hlen:=xw (ls:=ls) (k:=k)
   repeat' (first|refine Rn.p ?_|(with_reducible apply And.intro)|((first|(refine hK _ ?_;clear hK K)|with_reducible intro K hK|refine Rs.p ?_|((with_reducible first|apply oP|apply oQ);exact rfl)|(refine aq hX hC hP [(10000,33)] (fQ (ls.flatten.length:Int) (by omega) (by omega)) rfl rfl rfl ?_ ?_ ?_ ?_ ?_ ?_ ?_ ?_ ?_ ?_ ?_ ?_ ?_ ?_;(focus (simp only [go_sem,simprocAttr,hb,hv];done));(iterate 12 (focus (simp [go_sem,simprocAttr,hb,hv];done)));try simp only [List.map_cons,List.map_nil]));try simp only [go_sem,simprocAttr,hb,hv])|((with_reducible refine oD ?_ ?_);kernel_rfl)|((with_reducible intro h);try simp only [go_sem,simprocAttr,hb,hv] at h)|omega|intro h)
   ·refine ⟨k+1,by omega, ?_,by omega⟩
    rw [ox,if_pos (by omega)]
    refine Le.of ?_ ?_<;>simp [go_sem,simprocAttr,hb,hv]
    rfl
   ·refine ⟨k+1,by omega, ?_,by omega⟩
    rw [ox,if_neg (by omega),List.append_nil]
    refine Le.of ?_ ?_<;>simp [go_sem,simprocAttr,hb,hv]
  ·have hb:decide ((k:Int)<(ls.length:Int))=false:=decide_eq_false (by omega)
   obtain rfl:k=ls.length:=by omega
   repeat' (first|refine Rn.p ?_|(with_reducible apply And.intro)|((first|(refine hK _ ?_;clear hK K)|with_reducible intro K hK|refine Rs.p ?_|((with_reducible first|apply oP|apply oQ);exact rfl)|(refine aq hX hC hP [(10000,33)] (fQ (ls.flatten.length:Int) (by omega) (by omega)) rfl rfl rfl ?_ ?_ ?_ ?_ ?_ ?_ ?_ ?_ ?_ ?_ ?_ ?_ ?_ ?_;(focus (simp only [go_sem,simprocAttr,hb];done));(iterate 12 (focus (simp [go_sem,simprocAttr,hb];done)));try simp only [List.map_cons,List.map_nil]));try simp only [go_sem,simprocAttr,hb])|((with_reducible refine oD ?_ ?_);kernel_rfl)|((with_reducible intro h);try simp only [go_sem,simprocAttr,hb] at h)|omega|intro h)
theorem GQ {f:Edge→Int} {g:Gr} :Ja f g=vL (dG f g):=rfl
theorem iO {f:Edge→Int} {g:Gr} :(dG f g).length=g.n.toNat:=by simp [dG]
def bQ (f:Edge→Int) (g:Gr):List Int:=jo (dG f g) g.n.toNat
theorem gn (g:Gr) (hm:aN g=true):Spec Tryz.prog 68 (Args [.d (vw g)]) [] (.d (sI (bQ (·.2) g))) []:=by
 rw [aA]
 have hn:=aC hm
 have hle:(dG (·.2) g).length≤1000:=by rw [iO];omega
 (refine Spec.hd (C:=T.cfg [] []) (rs:= [.t 2]) (T.ai _ _) Tryz.func68 rfl rfl Tryz.ntmps68 Tryz.results68 (by simp [AObj.isNest]) (by simp [AObj.isNest]) (by kernel_rfl) T.mixed fun X hX hP hC aH bU=> ?_)
 repeat' (first|refine Rn.p ?_|(with_reducible apply And.intro)|((first|(refine hK _ ?_;clear hK K)|with_reducible intro K hK|refine Rs.p ?_|((with_reducible first|apply oP|apply oQ);exact rfl)|(rw [GQ];refine aa hX hC hP (xx (dG (·.2) g) hle) rfl rfl rfl (by simp only [go_sem,simprocAttr]) rfl ?_));try simp only [go_sem,simprocAttr])|((with_reducible refine oD ?_ ?_);kernel_rfl)|((with_reducible intro h);try simp only [go_sem,simprocAttr] at h)|omega|intro h)
 rw [iO];rfl
theorem B9 (g:Gr) (hm:aN g=true):Spec Tryz.prog 69 (Args [.d (vw g)]) [] (.d (sI (bQ (·.1) g))) []:=by
 rw [aA]
 have hn:=aC hm
 have hle:(dG (·.1) g).length≤1000:=by rw [iO];omega
 (refine Spec.hd (C:=T.cfg [] []) (rs:= [.t 2]) (T.ai _ _) Tryz.func69 rfl rfl Tryz.ntmps69 Tryz.results69 (by simp [AObj.isNest]) (by simp [AObj.isNest]) (by kernel_rfl) T.mixed fun X hX hP hC aH bU=> ?_)
 repeat' (first|refine Rn.p ?_|(with_reducible apply And.intro)|((first|(refine hK _ ?_;clear hK K)|with_reducible intro K hK|refine Rs.p ?_|((with_reducible first|apply oP|apply oQ);exact rfl)|(rw [GQ];refine aa hX hC hP (xx (dG (·.1) g) hle) rfl rfl rfl (by simp only [go_sem,simprocAttr]) rfl ?_));try simp only [go_sem,simprocAttr])|((with_reducible refine oD ?_ ?_);kernel_rfl)|((with_reducible intro h);try simp only [go_sem,simprocAttr] at h)|omega|intro h)
 rw [iO];rfl
end Go.Ab
end
section
namespace Go.Ab
open Go.Proofs
attribute [local congr] ACall.congr gd.congr Nx.congr
set_option maxRecDepth 10000
def fS (g:Gr) (ws:List Int) (b:Int) (e:Int):Int:=if 0<ws.getD (tl g e.toNat).toNat 0∧(b<0∨tl g e.toNat<b) then tl g e.toNat else b
theorem GR (g:Gr) (ws:List Int) (b:Int) (i:Nat):fS g ws b (i:Int)=if 0<ws.getD (g.es.getD i (0,0)).1.toNat 0∧(b<0∨(g.es.getD i (0,0)).1<b) then (g.es.getD i (0,0)).1 else b:=rfl
def xy (g:Gr) (ws:List Int) (es:List Int):Int:=es.foldl (fS g ws) (-1)
def jS (g:Gr) (ws:List Int) (at_:Int):Int:=xy g ws (qP g at_.toNat)
def lJ (g:Gr) (ws:List Int):Nat→List Int→Int→List Int × Int
 |0,way,at_=>(way,at_)
 |f+1,way,at_=>if at_<0∨at_∈way then (way,at_) else lJ g ws f (way++ [at_]) (jS g ws at_)
def kM (g:Gr):List Int × Int:=lJ g (cR g (aT g)) g.n.toNat [] (b7 (fun n=>decide (0<n)) (cR g (aT g)))
def lX (l:List Int):List Int:=l.drop (fq l (iN l)).toNat++l.take (fq l (iN l)).toNat
def kN (g:Gr):List Int:=if (kM g).2<0 then [] else lX ((kM g).1.drop (fq (kM g).1 (kM g).2).toNat).reverse
theorem jb (n:Int):Spec Tryz.prog 178 (Args [eN n]) [] (eB (decide (0<n))) []:=by
 (refine Spec.hd (C:=T.cfg [] []) (rs:= [.t 2]) (T.ai _ _) Tryz.func178 rfl rfl Tryz.ntmps178 Tryz.results178 (by simp [AObj.isNest]) (by simp [AObj.isNest]) (by kernel_rfl) T.mixed fun X hX hP hC aH bU=> ?_)
 repeat' (first|refine Rn.p ?_|(with_reducible apply And.intro)|((first|(refine hK _ ?_;clear hK K)|with_reducible intro K hK|refine Rs.p ?_|((with_reducible first|apply oP|apply oQ);exact rfl));try simp only [go_sem,simprocAttr])|((with_reducible refine oD ?_ ?_);kernel_rfl)|((with_reducible intro h);try simp only [go_sem,simprocAttr] at h)|omega|intro h)
structure Way (g:Gr) (way:List Int):Prop where
 lo:∀x∈way,0≤x∧x<g.n
 fuel:way.length+left g way=g.n.toNat
theorem pY {g:Gr} :left g []=g.n.toNat:=by
 have:=(ff.nil g).fuel
 rw [List.length_nil,Nat.zero_add] at this
 exact this
theorem jq {g:Gr} {way:List Int} {a:Nat} (ha:a<g.n.toNat) (hn:(a:Int)∉way):left g way=left g (way++ [(a:Int)])+1:=by
 unfold left
 rw [← mG (p:=fun y:Nat=> !decide ((y:Int)∈way)) (x:=a) (by simp [hn]) ha]
 congr 1
 refine List.countP_congr fun y _=> ?_
 simp;omega
theorem Way.nil (g:Gr):Way g []:=⟨by simp,by rw [pY];simp⟩
theorem Way.next {g:Gr} {way:List Int} {a:Nat} (h:Way g way) (ha:a<g.n.toNat) (hn:(a:Int)∉way):Way g (way++ [(a:Int)]):=by
 refine ⟨fun x hx=> ?_, ?_⟩
 ·rcases List.mem_append.1 hx with hx|hx
  ·exact h.lo x hx
  ·simp at hx;omega
 ·have h1:=h.fuel
  have h2:=jq ha hn
  rw [List.length_append,List.length_singleton];omega
theorem yQ {g:Gr} {x:Nat} {e:Int} (h:e∈qP g x):∃i:Nat,e=i∧i<g.es.length∧hd g i=x:=by
 simp only [qP,fP,List.mem_map,List.mem_filter,List.mem_range,decide_eq_true_eq] at h
 obtain ⟨i,⟨h1,h2⟩,rfl⟩:=h
 exact ⟨i,rfl,h1,h2⟩
theorem Et {α β:Type} {f:β→α→β} {b:β} {l:List α} {j:Nat} {x:α} (h:l[j]? =some x):(l.take (j+1)).foldl f b=f ((l.take j).foldl f b) x:=by
 rw [List.take_add_one,List.foldl_append,h];rfl
theorem rW {g:Gr} (hm:aN g=true) (ws:List Int):∀(l:List Int) (b:Int),(b= -1∨(0≤b∧b<g.n))→(∀e∈l,∃i:Nat,e=i∧i<g.es.length)→l.foldl (fS g ws) b= -1∨(0≤l.foldl (fS g ws) b∧l.foldl (fS g ws) b<g.n)
 | [],b,hb,_=>hb
 |e::l,b,hb,h=>by
  refine rW hm ws l _ ?_ fun e he=>h e (List.mem_cons_of_mem _ he)
  obtain ⟨i,rfl,hi⟩:=h e List.mem_cons_self
  obtain ⟨⟨h1,h2⟩,_⟩:=cM hm hi
  unfold fS
  split
  ·exact .inr ⟨h1,h2⟩
  ·exact hb
theorem GS {g:Gr} {x:Nat} :∀e∈qP g x,∃i:Nat,e=i∧i<g.es.length:=fun e he=>by
 obtain ⟨i,h1,h2,_⟩:=yQ he;exact ⟨i,h1,h2⟩
theorem kO {g:Gr} {ws way:List Int} {a:Int} (h:a<0∨a∈way):∀f,lJ g ws f way a=(way,a)
 |0=>rfl
 |f+1=>by simp only [lJ];rw [if_pos h]
theorem ef {l:List Int} {x:Int} (h:x∈l):∃k:Nat,fq l x=k∧k<l.length∧l.getD k 0=x:=by
 rcases fF (f:=fun y:Int=>decide (x=y)) (l:=l) 0 with ⟨h1,h2⟩|⟨k,h1,h2,h3,_⟩
 ·exact absurd (h2 x h) (by simp)
 ·exact ⟨k,h1,h2,(of_decide_eq_true h3).symm⟩
theorem jr:∀ {l:List Int},0<l.length→iN l∈l
 |a::r,_=>by
  have:∀(r:List Int) (a:Int),r.foldl min a=a∨r.foldl min a∈r:=by
   intro r
   induction r with
   |nil=>intro a;exact .inl rfl
   |cons b r ih=>
    intro a
    simp only [List.foldl_cons]
    rcases ih (min a b) with h|h
    ·by_cases hab:a≤b
     ·left;rw [h];omega
     ·right;rw [h];simp;omega
    ·right;simp [h]
  rcases this r a with h|h
  ·simp [iN,h]
  ·simp [iN,h]
theorem js (g:Gr) (hm:aN g=true):Spec Tryz.prog 133 (Args [.d (vw g)]) [] (.d (sI (kN g))) []:=by
 have hn:=aC hm
 have C9:(cR g (aT g)).length≤9223372036854775807:=by rw [wts_length];omega
 (refine Spec.hd (C:=T.cfg [30] []) (rs:= [.t 2]) (T.ai _ _) Tryz.func133 rfl rfl Tryz.ntmps133 Tryz.results133 (by simp [AObj.isNest]) (by simp [AObj.isNest]) (by kernel_rfl) T.mixed fun X hX hP hC aH bU=> ?_)
 repeat' (first|refine Rn.p ?_|(with_reducible apply And.intro)|((first|(refine hK _ ?_;clear hK K)|with_reducible intro K hK|refine Rs.p ?_|((with_reducible first|apply oP|apply oQ);exact rfl)|refine aa hX hC hP (kJ g hm) rfl rfl rfl (by simp only [go_sem,simprocAttr]) rfl ?_|refine aa hX hC hP (c9 bp.nil _ [] _ jb (cR g (aT g)) C9) rfl rfl rfl (by simp only [go_sem,simprocAttr]) rfl ?_|(refine aj hX hC hP (bq way a cr) rfl rfl rfl ?_ ?_ ?_ ?_;iterate 3 (focus (simp only [go_sem,simprocAttr];done)))|(refine aj hX hC hP (aZ way a cr) rfl rfl rfl ?_ ?_ ?_ ?_;iterate 3 (focus (simp only [go_sem,simprocAttr];done)))|(refine aq hX hC hP [(10000,75)] (eS (way.drop k) hlr) rfl rfl rfl ?_ ?_ ?_ ?_ ?_ ?_ ?_ ?_ ?_ ?_ ?_ ?_ ?_ ?_;(focus (simp only [go_sem,simprocAttr];done));(iterate 12 (focus (simp [go_sem,simprocAttr];done)));try simp only [List.map_cons,List.map_nil])|(refine aj hX hC hP (kL rev uR hrev) rfl rfl rfl ?_ ?_ ?_ ?_;iterate 3 (focus (simp only [go_sem,simprocAttr];done)))|(refine aj hX hC hP (aZ rev (iN rev) xz) rfl rfl rfl ?_ ?_ ?_ ?_;iterate 3 (focus (simp only [go_sem,simprocAttr];done)))|(refine b8 hX hC hP (fR [rev.drop k2,rev.take k2] hc1 Da Jb) rfl rfl rfl ?_ ?_ rfl ?_;iterate 2 (focus (simp only [go_sem,simprocAttr];done))));try simp only [go_sem,simprocAttr])|((with_reducible refine oD ?_ ?_);kernel_rfl)|((with_reducible intro h);try simp only [go_sem,simprocAttr] at h)|omega|intro h)
 (refine dW hX 6 30 (.own 3 1 []) (by simp only [go_sem,simprocAttr]) (by simp only [go_sem,simprocAttr]) (by decide) ⟨3,1,by decide, .inl rfl⟩ ?_;simp only [go_sem,simprocAttr])
 refine ag (fun i:List Int × Int=>Way g i.1∧(i.2= -1∨(0≤i.2∧i.2<g.n))∧lJ g (cR g (aT g)) (left g i.1) i.1 i.2=kM g) (fun i=>⟨[(0, .d (vw g)),(4, .d (sI (cR g (aT g)))),(5,eN i.2),(6, .ref 30)], [(30, .own 3 1 (i.1.map rI))]⟩) (fun i=>left g i.1) ([],b7 (fun n=>decide (0<n)) (cR g (aT g))) ⟨Way.nil g, ?_, ?_⟩ ?_ ?_
 ·rcases Ah (fun n:Int=>decide (0<n)) (cR g (aT g)) with h|h
  ·exact .inl h
  ·rw [wts_length] at h;exact .inr (by simp only;omega)
 ·rw [pY];rfl
 ·(refine Le.of ?_ ?_<;>simp [go_sem,simprocAttr])
 rintro ⟨way,at_⟩ ⟨Au,qD,hrun⟩
 simp only at Au qD hrun ⊢
 have SP:way.length≤64:=by have:=Au.fuel;omega
 have cr:way.length≤9223372036854775807:=by omega
 by_cases h0:at_<0
 ·have hb1:decide (0≤at_)=false:=decide_eq_false (by omega)
  have hb3:decide (at_<0)=true:=decide_eq_true h0
  have he:kN g= []:=by
   have:=kO (g:=g) (ws:=cR g (aT g)) (way:=way) (.inl h0) (left g way)
   rw [hrun] at this
   simp only [kN,this];rw [if_pos h0]
  repeat' (first|refine Rn.p ?_|(with_reducible apply And.intro)|((first|(refine hK _ ?_;clear hK K)|with_reducible intro K hK|refine Rs.p ?_|((with_reducible first|apply oP|apply oQ);exact rfl)|refine aa hX hC hP (kJ g hm) rfl rfl rfl (by simp only [go_sem,simprocAttr,hb1,hb3]) rfl ?_|refine aa hX hC hP (c9 bp.nil _ [] _ jb (cR g (aT g)) C9) rfl rfl rfl (by simp only [go_sem,simprocAttr,hb1,hb3]) rfl ?_|(refine aj hX hC hP (bq way a cr) rfl rfl rfl ?_ ?_ ?_ ?_;iterate 3 (focus (simp only [go_sem,simprocAttr,hb1,hb3];done)))|(refine aj hX hC hP (aZ way a cr) rfl rfl rfl ?_ ?_ ?_ ?_;iterate 3 (focus (simp only [go_sem,simprocAttr,hb1,hb3];done)))|(refine aq hX hC hP [(10000,75)] (eS (way.drop k) hlr) rfl rfl rfl ?_ ?_ ?_ ?_ ?_ ?_ ?_ ?_ ?_ ?_ ?_ ?_ ?_ ?_;(focus (simp only [go_sem,simprocAttr,hb1,hb3];done));(iterate 12 (focus (simp [go_sem,simprocAttr,hb1,hb3];done)));try simp only [List.map_cons,List.map_nil])|(refine aj hX hC hP (kL rev uR hrev) rfl rfl rfl ?_ ?_ ?_ ?_;iterate 3 (focus (simp only [go_sem,simprocAttr,hb1,hb3];done)))|(refine aj hX hC hP (aZ rev (iN rev) xz) rfl rfl rfl ?_ ?_ ?_ ?_;iterate 3 (focus (simp only [go_sem,simprocAttr,hb1,hb3];done)))|(refine b8 hX hC hP (fR [rev.drop k2,rev.take k2] hc1 Da Jb) rfl rfl rfl ?_ ?_ rfl ?_;iterate 2 (focus (simp only [go_sem,simprocAttr,hb1,hb3];done))));try simp only [go_sem,simprocAttr,hb1,hb3])|((with_reducible refine oD ?_ ?_);kernel_rfl)|((with_reducible intro h);try simp only [go_sem,simprocAttr,hb1,hb3] at h)|omega|intro h)
  rw [he];rfl
 obtain ⟨a,rfl⟩:∃a:Nat,at_=a:=⟨at_.toNat,by omega⟩
 have J7:a<g.n.toNat:=by omega
 have hb1:decide (0≤(a:Int))=true:=decide_eq_true (by omega)
 by_cases hmem:(a:Int)∈way
 ·have hb2:decide ((a:Int)∈way)=true:=decide_eq_true hmem
  have hb3:decide ((a:Int)<0)=false:=decide_eq_false h0
  have hend:=kO (g:=g) (ws:=cR g (aT g)) (.inr hmem) (left g way)
  rw [hrun] at hend
  obtain ⟨k,hk,bK,_⟩:=ef hmem
  obtain ⟨rev,jT⟩:∃rev,rev=(way.drop k).reverse:=⟨_,rfl⟩
  have hrl:rev.length=way.length - k:=by rw [jT];simp
  have uR:0<rev.length:=by omega
  have hrev:rev.length≤1000000:=by omega
  have xz:rev.length≤9223372036854775807:=by omega
  have hlr:(way.drop k).length≤1000000:=by simp;omega
  obtain ⟨k2,hk2,SQ,_⟩:=ef (jr uR)
  have hc1: [rev.drop k2,rev.take k2].length≤1000:=by simp
  have Da:0< [rev.drop k2,rev.take k2].flatten.length:=by simp;omega
  have Jb: [rev.drop k2,rev.take k2].flatten.length≤1000000:=by simp;omega
  have Lb:kN g= [rev.drop k2,rev.take k2].flatten:=by
   simp only [kN,hend]
   rw [if_neg h0,hk]
   simp only [Int.toNat_natCast, ← jT,lX,hk2,List.flatten_cons,List.flatten_nil,List.append_nil]
  repeat' (first|(show bM _ (.seq (.region 20 _ _) _) _ _;(refine cG hX 75 rfl (.inr rfl) ?_;simp only [go_sem,simprocAttr,hb1,hb2,hb3,hk,hk2, ← List.map_take, ← List.map_drop,List.take_length, ← jT,vL]))|refine Rn.p ?_|(with_reducible apply And.intro)|((first|(refine hK _ ?_;clear hK K)|with_reducible intro K hK|refine Rs.p ?_|((with_reducible first|apply oP|apply oQ);exact rfl)|refine aa hX hC hP (kJ g hm) rfl rfl rfl (by simp only [go_sem,simprocAttr,hb1,hb2,hb3,hk,hk2, ← List.map_take, ← List.map_drop,List.take_length, ← jT,vL]) rfl ?_|refine aa hX hC hP (c9 bp.nil _ [] _ jb (cR g (aT g)) C9) rfl rfl rfl (by simp only [go_sem,simprocAttr,hb1,hb2,hb3,hk,hk2, ← List.map_take, ← List.map_drop,List.take_length, ← jT,vL]) rfl ?_|(refine aj hX hC hP (bq way a cr) rfl rfl rfl ?_ ?_ ?_ ?_;iterate 3 (focus (simp only [go_sem,simprocAttr,hb1,hb2,hb3,hk,hk2, ← List.map_take, ← List.map_drop,List.take_length, ← jT,vL];done)))|(refine aj hX hC hP (aZ way a cr) rfl rfl rfl ?_ ?_ ?_ ?_;iterate 3 (focus (simp only [go_sem,simprocAttr,hb1,hb2,hb3,hk,hk2, ← List.map_take, ← List.map_drop,List.take_length, ← jT,vL];done)))|(refine aq hX hC hP [(10000,75)] (eS (way.drop k) hlr) rfl rfl rfl ?_ ?_ ?_ ?_ ?_ ?_ ?_ ?_ ?_ ?_ ?_ ?_ ?_ ?_;(focus (simp only [go_sem,simprocAttr,hb1,hb2,hb3,hk,hk2, ← List.map_take, ← List.map_drop,List.take_length, ← jT,vL];done));(iterate 12 (focus (simp [go_sem,simprocAttr,hb1,hb2,hb3,hk,hk2, ← List.map_take, ← List.map_drop,List.take_length, ← jT,vL];done)));try simp only [List.map_cons,List.map_nil])|(refine aj hX hC hP (kL rev uR hrev) rfl rfl rfl ?_ ?_ ?_ ?_;iterate 3 (focus (simp only [go_sem,simprocAttr,hb1,hb2,hb3,hk,hk2, ← List.map_take, ← List.map_drop,List.take_length, ← jT,vL];done)))|(refine aj hX hC hP (aZ rev (iN rev) xz) rfl rfl rfl ?_ ?_ ?_ ?_;iterate 3 (focus (simp only [go_sem,simprocAttr,hb1,hb2,hb3,hk,hk2, ← List.map_take, ← List.map_drop,List.take_length, ← jT,vL];done)))|(refine b8 hX hC hP (fR [rev.drop k2,rev.take k2] hc1 Da Jb) rfl rfl rfl ?_ ?_ rfl ?_;iterate 2 (focus (simp only [go_sem,simprocAttr,hb1,hb2,hb3,hk,hk2, ← List.map_take, ← List.map_drop,List.take_length, ← jT,vL];done))));try simp only [go_sem,simprocAttr,hb1,hb2,hb3,hk,hk2, ← List.map_take, ← List.map_drop,List.take_length, ← jT,vL])|((with_reducible refine oD ?_ ?_);kernel_rfl)|((with_reducible intro h);try simp only [go_sem,simprocAttr,hb1,hb2,hb3,hk,hk2, ← List.map_take, ← List.map_drop,List.take_length, ← jT,vL] at h)|omega|intro h)
  rw [Lb]
 ·have hb2:decide ((a:Int)∈way)=false:=decide_eq_false hmem
  have hv:=pW (f:=(·.2)) J7
  have Ip:(qP g a).length≤g.es.length:=ja
  repeat' (first|refine Rn.p ?_|(with_reducible apply And.intro)|((first|(refine hK _ ?_;clear hK K)|with_reducible intro K hK|refine Rs.p ?_|((with_reducible first|apply oP|apply oQ);exact rfl)|refine aa hX hC hP (kJ g hm) rfl rfl rfl (by simp only [go_sem,simprocAttr,hb1,hb2,hv,aA]) rfl ?_|refine aa hX hC hP (c9 bp.nil _ [] _ jb (cR g (aT g)) C9) rfl rfl rfl (by simp only [go_sem,simprocAttr,hb1,hb2,hv,aA]) rfl ?_|(refine aj hX hC hP (bq way a cr) rfl rfl rfl ?_ ?_ ?_ ?_;iterate 3 (focus (simp only [go_sem,simprocAttr,hb1,hb2,hv,aA];done)))|(refine aj hX hC hP (aZ way a cr) rfl rfl rfl ?_ ?_ ?_ ?_;iterate 3 (focus (simp only [go_sem,simprocAttr,hb1,hb2,hv,aA];done)))|(refine aq hX hC hP [(10000,75)] (eS (way.drop k) hlr) rfl rfl rfl ?_ ?_ ?_ ?_ ?_ ?_ ?_ ?_ ?_ ?_ ?_ ?_ ?_ ?_;(focus (simp only [go_sem,simprocAttr,hb1,hb2,hv,aA];done));(iterate 12 (focus (simp [go_sem,simprocAttr,hb1,hb2,hv,aA];done)));try simp only [List.map_cons,List.map_nil])|(refine aj hX hC hP (kL rev uR hrev) rfl rfl rfl ?_ ?_ ?_ ?_;iterate 3 (focus (simp only [go_sem,simprocAttr,hb1,hb2,hv,aA];done)))|(refine aj hX hC hP (aZ rev (iN rev) xz) rfl rfl rfl ?_ ?_ ?_ ?_;iterate 3 (focus (simp only [go_sem,simprocAttr,hb1,hb2,hv,aA];done)))|(refine b8 hX hC hP (fR [rev.drop k2,rev.take k2] hc1 Da Jb) rfl rfl rfl ?_ ?_ rfl ?_;iterate 2 (focus (simp only [go_sem,simprocAttr,hb1,hb2,hv,aA];done))));try simp only [go_sem,simprocAttr,hb1,hb2,hv,aA])|((with_reducible refine oD ?_ ?_);kernel_rfl)|((with_reducible intro h);try simp only [go_sem,simprocAttr,hb1,hb2,hv,aA] at h)|omega|intro h)
  refine ag (fun j:Nat=>j≤(qP g a).length) (fun j=>⟨[(39,eN j),(38,eN (qP g a).length),(37, .d (sI (qP g a))),(7,eN (xy g (cR g (aT g)) ((qP g a).take j))),(0, .d (LX g)),(4, .d (sI (cR g (aT g)))),(6, .ref 30)], [(30, .own 3 1 ((way++ [(a:Int)]).map rI))]⟩) (fun j=>(qP g a).length - j) 0 (by simp) ?_ ?_
  ·refine Le.of ?_ ?_<;>simp [go_sem,simprocAttr,hb1,hb2,hv,aA,qP,rI,xy]
  rintro j hj
  rcases Nat.lt_or_ge j (qP g a).length with hlt|hge
  ·have hb4:decide ((j:Int)<((qP g a).length:Int))=true:=decide_eq_true (by omega)
   obtain ⟨i,hi,hil,hit⟩:=yQ (List.getElem_mem hlt)
   have hi1:(qP g a)[j]? =some (i:Int):=by rw [List.getElem?_eq_getElem hlt,hi]
   have hi2:(qP g a).getD j 0=(i:Int):=by rw [List.getD_eq_getElem?_getD,hi1];rfl
   obtain ⟨⟨K9,s9⟩,_⟩:=cM hm hil
   have hstep:xy g (cR g (aT g)) ((qP g a).take (j+1))=fS g (cR g (aT g)) (xy g (cR g (aT g)) ((qP g a).take j)) i:=Et hi1
   rw [GR] at hstep
   repeat' (first|refine Rn.p ?_|(with_reducible apply And.intro)|((first|(refine hK _ ?_;clear hK K)|with_reducible intro K hK|refine Rs.p ?_|((with_reducible first|apply oP|apply oQ);exact rfl)|refine aa hX hC hP (kJ g hm) rfl rfl rfl (by simp only [go_sem,simprocAttr,hb4,hi2,wts_length]) rfl ?_|refine aa hX hC hP (c9 bp.nil _ [] _ jb (cR g (aT g)) C9) rfl rfl rfl (by simp only [go_sem,simprocAttr,hb4,hi2,wts_length]) rfl ?_|(refine aj hX hC hP (bq way a cr) rfl rfl rfl ?_ ?_ ?_ ?_;iterate 3 (focus (simp only [go_sem,simprocAttr,hb4,hi2,wts_length];done)))|(refine aj hX hC hP (aZ way a cr) rfl rfl rfl ?_ ?_ ?_ ?_;iterate 3 (focus (simp only [go_sem,simprocAttr,hb4,hi2,wts_length];done)))|(refine aq hX hC hP [(10000,75)] (eS (way.drop k) hlr) rfl rfl rfl ?_ ?_ ?_ ?_ ?_ ?_ ?_ ?_ ?_ ?_ ?_ ?_ ?_ ?_;(focus (simp only [go_sem,simprocAttr,hb4,hi2,wts_length];done));(iterate 12 (focus (simp [go_sem,simprocAttr,hb4,hi2,wts_length];done)));try simp only [List.map_cons,List.map_nil])|(refine aj hX hC hP (kL rev uR hrev) rfl rfl rfl ?_ ?_ ?_ ?_;iterate 3 (focus (simp only [go_sem,simprocAttr,hb4,hi2,wts_length];done)))|(refine aj hX hC hP (aZ rev (iN rev) xz) rfl rfl rfl ?_ ?_ ?_ ?_;iterate 3 (focus (simp only [go_sem,simprocAttr,hb4,hi2,wts_length];done)))|(refine b8 hX hC hP (fR [rev.drop k2,rev.take k2] hc1 Da Jb) rfl rfl rfl ?_ ?_ rfl ?_;iterate 2 (focus (simp only [go_sem,simprocAttr,hb4,hi2,wts_length];done))));try simp only [go_sem,simprocAttr,hb4,hi2,wts_length])|((with_reducible refine oD ?_ ?_);kernel_rfl)|((with_reducible intro h);try simp only [go_sem,simprocAttr,hb4,hi2,wts_length] at h)|omega|intro h)
   all_goals (refine ⟨j+1,by omega, ?_,by omega⟩;first|rw [if_pos (by omega)] at hstep|rw [if_neg (by omega)] at hstep)
   all_goals (refine Le.of ?_ ?_<;>simp [go_sem,simprocAttr,hb4,hi2,wts_length,hstep])
  ·have hb4:decide ((j:Int)<((qP g a).length:Int))=false:=decide_eq_false (by omega)
   have ht:(qP g a).take j=qP g a:=List.take_of_length_le (by omega)
   repeat' (first|refine Rn.p ?_|(with_reducible apply And.intro)|((first|(refine hK _ ?_;clear hK K)|with_reducible intro K hK|refine Rs.p ?_|((with_reducible first|apply oP|apply oQ);exact rfl)|refine aa hX hC hP (kJ g hm) rfl rfl rfl (by simp only [go_sem,simprocAttr,hb4,ht]) rfl ?_|refine aa hX hC hP (c9 bp.nil _ [] _ jb (cR g (aT g)) C9) rfl rfl rfl (by simp only [go_sem,simprocAttr,hb4,ht]) rfl ?_|(refine aj hX hC hP (bq way a cr) rfl rfl rfl ?_ ?_ ?_ ?_;iterate 3 (focus (simp only [go_sem,simprocAttr,hb4,ht];done)))|(refine aj hX hC hP (aZ way a cr) rfl rfl rfl ?_ ?_ ?_ ?_;iterate 3 (focus (simp only [go_sem,simprocAttr,hb4,ht];done)))|(refine aq hX hC hP [(10000,75)] (eS (way.drop k) hlr) rfl rfl rfl ?_ ?_ ?_ ?_ ?_ ?_ ?_ ?_ ?_ ?_ ?_ ?_ ?_ ?_;(focus (simp only [go_sem,simprocAttr,hb4,ht];done));(iterate 12 (focus (simp [go_sem,simprocAttr,hb4,ht];done)));try simp only [List.map_cons,List.map_nil])|(refine aj hX hC hP (kL rev uR hrev) rfl rfl rfl ?_ ?_ ?_ ?_;iterate 3 (focus (simp only [go_sem,simprocAttr,hb4,ht];done)))|(refine aj hX hC hP (aZ rev (iN rev) xz) rfl rfl rfl ?_ ?_ ?_ ?_;iterate 3 (focus (simp only [go_sem,simprocAttr,hb4,ht];done)))|(refine b8 hX hC hP (fR [rev.drop k2,rev.take k2] hc1 Da Jb) rfl rfl rfl ?_ ?_ rfl ?_;iterate 2 (focus (simp only [go_sem,simprocAttr,hb4,ht];done))));try simp only [go_sem,simprocAttr,hb4,ht])|((with_reducible refine oD ?_ ?_);kernel_rfl)|((with_reducible intro h);try simp only [go_sem,simprocAttr,hb4,ht] at h)|omega|intro h)
   refine ⟨(way++ [(a:Int)],jS g (cR g (aT g)) a),⟨Au.next J7 hmem,rW hm _ _ _ (.inl rfl) GS, ?_⟩, ?_, ?_⟩
   ·simp only
    rw [← hrun,jq J7 hmem]
    simp only [lJ]
    rw [if_neg (by intro h;rcases h with h|h;omega;exact hmem h)]
   ·refine Le.of ?_ ?_<;>simp [go_sem,simprocAttr,hb4,ht,jS]
   ·have:=jq J7 hmem;simp only;omega
end Go.Ab
end
section
namespace Go.Ab
open Go.Proofs
attribute [local congr] ACall.congr gd.congr Nx.congr
set_option maxRecDepth 10000
def eF (f:Int × Int × List Int):AV:= .agg [eN f.1,eN f.2.1, .d (sI f.2.2)]
attribute [go_sem] eF
def jt (g:Gr):Int:=b7 (fun e:Edge=>decide (e.1=e.2)) g.es
def oy (g:Gr) (i:Nat):Bool:=decide (g.es.getD i (0,0)∈g.es.take i)
def dX (g:Gr):Int:=b7 (oy g) (List.range g.es.length)
def fT (g:Gr) (Ri bare:List Int):Int × Int × List Int:=
 if aN g=false then (1,0, []) else
 if 0≤jt g then (13,jt g, []) else
 if 0≤dX g then (14,dX g, []) else
 if 0<Ri.length then (15,0,Ri) else
 if 1<bare.length then (16,0,bare.take 2) else (0,0, [])
def bL (g:Gr):Int × Int × List Int:=fT g (kN g) (bQ (·.2) g)
theorem kP (e:Edge):Spec Tryz.prog 131 (Args [eE e]) [] (eB (decide (e.1=e.2))) []:=by
 (refine Spec.hd (C:=T.cfg [] []) (rs:= [.t 2]) (T.ai _ _) Tryz.func131 rfl rfl Tryz.ntmps131 Tryz.results131 (by simp [AObj.isNest]) (by simp [AObj.isNest]) (by kernel_rfl) T.mixed fun X hX hP hC aH bU=> ?_)
 repeat' (first|refine Rn.p ?_|(with_reducible apply And.intro)|((first|(refine hK _ ?_;clear hK K)|with_reducible intro K hK|refine Rs.p ?_|((with_reducible first|apply oP|apply oQ);exact rfl));try simp only [go_sem,simprocAttr])|((with_reducible refine oD ?_ ?_);kernel_rfl)|((with_reducible intro h);try simp only [go_sem,simprocAttr] at h)|omega|intro h)
theorem gK {n k:Nat} (h:k<n) (d:Nat):(List.range n).getD k d=k:=by
 simp [List.getD_eq_getElem?_getD,List.getElem?_range h]
theorem lK (g:Gr) (hl:g.es.length≤1000):Spec Tryz.prog 88 (Args [eG g]) [] (eF (bL g)) []:=by
 have hl:g.es.length≤9223372036854775807:=by omega
 (refine Spec.hd (C:=T.cfg [] []) (rs:= [.c 2 66]) (T.ai _ _) Tryz.func88 rfl rfl Tryz.ntmps88 Tryz.results88 (by simp [AObj.isNest]) (by simp [AObj.isNest]) (by kernel_rfl) T.mixed fun X hX hP hC aH bU=> ?_)
 cases hm:aN g with
 |false=>
  repeat' (first|refine Rn.p ?_|(with_reducible apply And.intro)|((first|(refine hK _ ?_;clear hK K)|with_reducible intro K hK|refine Rs.p ?_|((with_reducible first|apply oP|apply oQ);exact rfl)|refine aa hX hC hP (gm g hl) rfl rfl rfl (by simp only [go_sem,simprocAttr,hm]) rfl ?_|refine aa hX hC hP (bZ bp.nil _ [] _ kP g.es hl) rfl rfl rfl (by simp only [go_sem,simprocAttr,hm]) rfl ?_|refine aa hX hC hP (iM g hm) rfl rfl rfl (by simp only [go_sem,simprocAttr,hm]) rfl ?_|refine aa hX hC hP (js g hm) rfl rfl rfl (by simp only [go_sem,simprocAttr,hm]) rfl ?_|refine aa hX hC hP (gn g hm) rfl rfl rfl (by simp only [go_sem,simprocAttr,hm]) rfl ?_|refine aa hX hC hP (eD (g.es.take k) (g.es.getD k (0,0)) hlk) rfl rfl rfl (by simp only [go_sem,simprocAttr,hm]) rfl ?_);try simp only [go_sem,simprocAttr,hm])|((with_reducible refine oD ?_ ?_);kernel_rfl)|((with_reducible intro h);try simp only [go_sem,simprocAttr,hm] at h)|omega|intro h)
  all_goals simp [bL,fT,hm]
 |true=>
 have hn:=aC hm
 by_cases hlo:0≤jt g
 ·have hb1:decide (0≤b7 (fun p:Edge=>decide (p.1=p.2)) g.es)=true:=decide_eq_true hlo
  repeat' (first|refine Rn.p ?_|(with_reducible apply And.intro)|((first|(refine hK _ ?_;clear hK K)|with_reducible intro K hK|refine Rs.p ?_|((with_reducible first|apply oP|apply oQ);exact rfl)|refine aa hX hC hP (gm g hl) rfl rfl rfl (by simp only [go_sem,simprocAttr,hm,hb1]) rfl ?_|refine aa hX hC hP (bZ bp.nil _ [] _ kP g.es hl) rfl rfl rfl (by simp only [go_sem,simprocAttr,hm,hb1]) rfl ?_|refine aa hX hC hP (iM g hm) rfl rfl rfl (by simp only [go_sem,simprocAttr,hm,hb1]) rfl ?_|refine aa hX hC hP (js g hm) rfl rfl rfl (by simp only [go_sem,simprocAttr,hm,hb1]) rfl ?_|refine aa hX hC hP (gn g hm) rfl rfl rfl (by simp only [go_sem,simprocAttr,hm,hb1]) rfl ?_|refine aa hX hC hP (eD (g.es.take k) (g.es.getD k (0,0)) hlk) rfl rfl rfl (by simp only [go_sem,simprocAttr,hm,hb1]) rfl ?_);try simp only [go_sem,simprocAttr,hm,hb1])|((with_reducible refine oD ?_ ?_);kernel_rfl)|((with_reducible intro h);try simp only [go_sem,simprocAttr,hm,hb1] at h)|omega|intro h)
  all_goals (
   have hc:bL g=(13,jt g, []):=by
    simp only [bL,fT];rw [if_neg (by simp [hm]),if_pos hlo]
   rw [hc]<;>rfl)
 have hb1:decide (0≤b7 (fun p:Edge=>decide (p.1=p.2)) g.es)=false:=decide_eq_false hlo
 repeat' (first|refine Rn.p ?_|(with_reducible apply And.intro)|((first|(refine hK _ ?_;clear hK K)|with_reducible intro K hK|refine Rs.p ?_|((with_reducible first|apply oP|apply oQ);exact rfl)|refine aa hX hC hP (gm g hl) rfl rfl rfl (by simp only [go_sem,simprocAttr,hm,hb1]) rfl ?_|refine aa hX hC hP (bZ bp.nil _ [] _ kP g.es hl) rfl rfl rfl (by simp only [go_sem,simprocAttr,hm,hb1]) rfl ?_|refine aa hX hC hP (iM g hm) rfl rfl rfl (by simp only [go_sem,simprocAttr,hm,hb1]) rfl ?_|refine aa hX hC hP (js g hm) rfl rfl rfl (by simp only [go_sem,simprocAttr,hm,hb1]) rfl ?_|refine aa hX hC hP (gn g hm) rfl rfl rfl (by simp only [go_sem,simprocAttr,hm,hb1]) rfl ?_|refine aa hX hC hP (eD (g.es.take k) (g.es.getD k (0,0)) hlk) rfl rfl rfl (by simp only [go_sem,simprocAttr,hm,hb1]) rfl ?_);try simp only [go_sem,simprocAttr,hm,hb1])|((with_reducible refine oD ?_ ?_);kernel_rfl)|((with_reducible intro h);try simp only [go_sem,simprocAttr,hm,hb1] at h)|omega|intro h)
 refine ag (fun k:Nat=>k≤g.es.length∧∀j,j<k→oy g j=false) (fun k=>⟨[(23,eN k),(22,eN g.es.length),(21, .d (sE g.es)),(1, .ptr 1 0),(2, .ptr 2 0)], [(1, .box [eN g.n, .d (sE g.es)]),(2, .box [eN 0,eN 0, .nil 3])]⟩) (fun k=>g.es.length - k) 0 (by simp) ?_ ?_
 ·(refine Le.of ?_ ?_<;>simp [go_sem,simprocAttr,hm,hb1])
 rintro k ⟨hk,GU⟩
 rcases Nat.lt_or_ge k g.es.length with hlt|hge
 ·have hb2:decide ((k:Int)<(g.es.length:Int))=true:=decide_eq_true (by omega)
  have hlk:(g.es.take k).length≤9223372036854775807:=by rw [List.length_take];omega
  repeat' (first|refine Rn.p ?_|(with_reducible apply And.intro)|((first|(refine hK _ ?_;clear hK K)|with_reducible intro K hK|refine Rs.p ?_|((with_reducible first|apply oP|apply oQ);exact rfl)|refine aa hX hC hP (gm g hl) rfl rfl rfl (by simp only [go_sem,simprocAttr,hm,hb1,hb2, ← List.map_take]) rfl ?_|refine aa hX hC hP (bZ bp.nil _ [] _ kP g.es hl) rfl rfl rfl (by simp only [go_sem,simprocAttr,hm,hb1,hb2, ← List.map_take]) rfl ?_|refine aa hX hC hP (iM g hm) rfl rfl rfl (by simp only [go_sem,simprocAttr,hm,hb1,hb2, ← List.map_take]) rfl ?_|refine aa hX hC hP (js g hm) rfl rfl rfl (by simp only [go_sem,simprocAttr,hm,hb1,hb2, ← List.map_take]) rfl ?_|refine aa hX hC hP (gn g hm) rfl rfl rfl (by simp only [go_sem,simprocAttr,hm,hb1,hb2, ← List.map_take]) rfl ?_|refine aa hX hC hP (eD (g.es.take k) (g.es.getD k (0,0)) hlk) rfl rfl rfl (by simp only [go_sem,simprocAttr,hm,hb1,hb2, ← List.map_take]) rfl ?_);try simp only [go_sem,simprocAttr,hm,hb1,hb2, ← List.map_take])|((with_reducible refine oD ?_ ?_);kernel_rfl)|((with_reducible intro h);try simp only [go_sem,simprocAttr,hm,hb1,hb2, ← List.map_take] at h)|omega|intro h)
  any_goals (
   have Qc:dX g=(k:Int):=di (d:=0) (by simpa using hlt) (fun j hj=>by rw [gK (by omega)];exact GU j hj) (by rw [gK hlt];exact decide_eq_true h)
   have hc:bL g=(14,dX g, []):=by
    simp only [bL,fT];rw [if_neg (by simp [hm]),if_neg hlo,if_pos (by omega)]
   rw [hc]<;>first|rfl|exact Qc.symm)
  refine ⟨k+1,⟨by omega,fun j hj=> ?_⟩, ?_,by omega⟩
  ·by_cases hjk:j=k
   ·subst hjk;exact decide_eq_false h
   ·exact GU j (by omega)
  ·(refine Le.of ?_ ?_<;>simp [go_sem,simprocAttr,hm,hb1,hb2, ← List.map_take])
 ·have hb2:decide ((k:Int)<(g.es.length:Int))=false:=decide_eq_false (by omega)
  have GV:¬0≤dX g:=by
   have:dX g= -1:=cT 0 fun j hj=>by
    rw [List.length_range] at hj
    rw [gK hj];exact GU j (by omega)
   omega
  repeat' (first|refine Rn.p ?_|(with_reducible apply And.intro)|((first|(refine hK _ ?_;clear hK K)|with_reducible intro K hK|refine Rs.p ?_|((with_reducible first|apply oP|apply oQ);exact rfl)|refine aa hX hC hP (gm g hl) rfl rfl rfl (by simp only [go_sem,simprocAttr,hm,hb1,hb2]) rfl ?_|refine aa hX hC hP (bZ bp.nil _ [] _ kP g.es hl) rfl rfl rfl (by simp only [go_sem,simprocAttr,hm,hb1,hb2]) rfl ?_|refine aa hX hC hP (iM g hm) rfl rfl rfl (by simp only [go_sem,simprocAttr,hm,hb1,hb2]) rfl ?_|refine aa hX hC hP (js g hm) rfl rfl rfl (by simp only [go_sem,simprocAttr,hm,hb1,hb2]) rfl ?_|refine aa hX hC hP (gn g hm) rfl rfl rfl (by simp only [go_sem,simprocAttr,hm,hb1,hb2]) rfl ?_|refine aa hX hC hP (eD (g.es.take k) (g.es.getD k (0,0)) hlk) rfl rfl rfl (by simp only [go_sem,simprocAttr,hm,hb1,hb2]) rfl ?_);try simp only [go_sem,simprocAttr,hm,hb1,hb2])|((with_reducible refine oD ?_ ?_);kernel_rfl)|((with_reducible intro h);try simp only [go_sem,simprocAttr,hm,hb1,hb2] at h)|omega|intro h)
  all_goals (
   have hc:bL g=if 0<(kN g).length then (15,0,kN g) else if 1<(bQ (·.2) g).length then (16,0,(bQ (·.2) g).take 2) else (0,0, []):=by
    simp only [bL,fT];rw [if_neg (by simp [hm]),if_neg hlo,if_neg GV]
   first|rw [if_pos (by omega)] at hc|(rw [if_neg (by omega)] at hc;first|rw [if_pos (by omega)] at hc|rw [if_neg (by omega)] at hc)
   rw [hc]<;>first|rfl|simp only [List.map_take])
end Go.Ab
end
section
namespace Go.Ab
open Go.Proofs
attribute [local congr] ACall.congr gd.congr Nx.congr
set_option maxRecDepth 10000
theorem bC (ps:List Int) (x:Int) (hl:ps.length≤9223372036854775807):
 Spec Tryz.prog 192 (Args [.d (sI ps),eN x]) [] (eN (fq ps x)) []:=by
 (refine Spec.hd (C:=T.cfg [] []) (rs:= [.t 4]) (T.ai _ _) Tryz.func192 rfl rfl Tryz.ntmps192 Tryz.results192 (by simp [AObj.isNest]) (by simp [AObj.isNest]) (by kernel_rfl) T.mixed fun X hX hP hC aH bU=> ?_)
 repeat' (first|refine Rn.p ?_|(with_reducible apply And.intro)|((first|(refine hK _ ?_;clear hK K)|with_reducible intro K hK|refine Rs.p ?_|((with_reducible first|apply oP|apply oQ);exact rfl));try simp only [go_sem,simprocAttr])|((with_reducible refine oD ?_ ?_);kernel_rfl)|((with_reducible intro h);try simp only [go_sem,simprocAttr] at h)|omega|intro h)
 refine ag (fun k:Nat=>k≤ps.length∧∀j,j<k→decide (x=ps.getD j 0)=false) (fun k=>⟨[(0, .d (sI ps)),(1,eN x),(5,eN k)], []⟩) (fun k=>ps.length - k) 0 (by simp) ?_ ?_
 ·(refine ⟨cq ?_,fun _ _ h=>h⟩;simp [go_sem,simprocAttr])
 rintro k ⟨hk,hg⟩
 repeat' (first|refine Rn.p ?_|(with_reducible apply And.intro)|((first|(refine hK _ ?_;clear hK K)|with_reducible intro K hK|refine Rs.p ?_|((with_reducible first|apply oP|apply oQ);exact rfl));try simp only [go_sem,simprocAttr])|((with_reducible refine oD ?_ ?_);kernel_rfl)|((with_reducible intro h);try simp only [go_sem,simprocAttr] at h)|omega|intro h)
 ·exact (di (by omega) hg (by simpa using h.symm)).symm
 ·refine ⟨k+1,⟨by omega,fun j hj=> ?_⟩, ?_,by omega⟩
  ·by_cases hjk:j=k
   ·subst hjk;exact fun e=>h (Eq.symm e)
   ·simpa using hg j (by omega)
  ·(refine ⟨cq ?_,fun _ _ h=>h⟩;simp [go_sem,simprocAttr])
 ·exact (cT 0 fun j hj=>hg j (by omega)).symm
def aM (f:Edge→Int) (es:List Edge) (k:Nat) (x:Int):List Int:=((List.range k).filter fun i=>decide (f (es.getD i (0,0))=x)).map Int.ofNat
theorem mH (f:Edge→Int) (es:List Edge) (k x:Nat):fP f es k x=aM f es k (x:Int):=rfl
theorem fU {f:Edge→Int} {es:List Edge} {k:Nat} {x:Int} :(aM f es k x).length≤k:=by
 simpa [aM] using List.length_filter_le (fun i=>decide (f (es.getD i (0,0))=x)) (List.range k)
theorem uS {f:Edge→Int} {es:List Edge} {k:Nat} {x:Int} :aM f es (k+1) x=aM f es k x++if f (es.getD k (0,0))=x then [(k:Int)] else []:=by
 simp only [aM,List.range_succ,List.filter_append,List.map_append,List.filter_cons,List.filter_nil]
 split<;>simp_all
def lM (b:Bool) (e:Edge):Int:=if b then e.1 else e.2
theorem bh (g:Gr) (x:Int) (b:Bool) (hl:g.es.length≤1000):Spec Tryz.prog 56 (Args [eG g,eN x,eB b]) [] (.d (sI (aM (lM b) g.es g.es.length x))) []:=by
 (refine Spec.hd (C:=T.cfg [] []) (rs:= [.t 6]) (T.ai _ _) Tryz.func56 rfl rfl Tryz.ntmps56 Tryz.results56 (by simp [AObj.isNest]) (by simp [AObj.isNest]) (by kernel_rfl) T.mixed fun X hX hP hC aH bU=> ?_)
 repeat' (first|refine Rn.p ?_|(with_reducible apply And.intro)|((first|(refine hK _ ?_;clear hK K)|with_reducible intro K hK|refine Rs.p ?_|((with_reducible first|apply oP|apply oQ);exact rfl));try simp only [go_sem,simprocAttr])|((with_reducible refine oD ?_ ?_);kernel_rfl)|((with_reducible intro h);try simp only [go_sem,simprocAttr] at h)|omega|intro h)
 (refine ke hX 7 9 45 (by simp only [go_sem,simprocAttr]) rfl (by first|exact .inl rfl|exact .inr rfl) (by decide) ?_;simp only [go_sem,simprocAttr])
 refine ag (fun k:Nat=>k≤g.es.length) (fun k=>⟨[(1,eN x),(2,eB b),(3, .ptr 3 0),(8,eN k),(7, .ref 45)], [(3, .box [eN g.n, .d (sE g.es)]),(45, .tip 3 1 ((aM (lM b) g.es k x).map rI))]⟩) (fun k=>g.es.length - k) 0 (by simp) ?_ ?_
 ·refine Le.of ?_ ?_<;>simp [go_sem,simprocAttr,aM]
 rintro k hk
 rcases Nat.lt_or_ge k g.es.length with hlt|hge
 ·have hb:decide ((k:Int)<(g.es.length:Int))=true:=decide_eq_true (by omega)
  have fO:=fU (f:=lM b) (es:=g.es) (k:=k) (x:=x)
  cases b
  ·have bw:aM (lM false) g.es (k+1) x=aM (lM false) g.es k x++if (g.es.getD k (0,0)).2=x then [(k:Int)] else []:=uS
   repeat' (first|refine Rn.p ?_|(with_reducible apply And.intro)|((first|(refine hK _ ?_;clear hK K)|with_reducible intro K hK|refine Rs.p ?_|((with_reducible first|apply oP|apply oQ);exact rfl));try simp only [go_sem,simprocAttr,hb])|((with_reducible refine oD ?_ ?_);kernel_rfl)|((with_reducible intro h);try simp only [go_sem,simprocAttr,hb] at h)|omega|intro h)
   all_goals (first|rw [if_pos (by assumption)] at bw|rw [if_neg (by assumption),List.append_nil] at bw)
   all_goals (refine ⟨k+1,by omega, ?_,by omega⟩;refine Le.of ?_ ?_<;>simp [go_sem,simprocAttr,hb,bw,rI])
  ·have bw:aM (lM true) g.es (k+1) x=aM (lM true) g.es k x++if (g.es.getD k (0,0)).1=x then [(k:Int)] else []:=uS
   repeat' (first|refine Rn.p ?_|(with_reducible apply And.intro)|((first|(refine hK _ ?_;clear hK K)|with_reducible intro K hK|refine Rs.p ?_|((with_reducible first|apply oP|apply oQ);exact rfl));try simp only [go_sem,simprocAttr,hb])|((with_reducible refine oD ?_ ?_);kernel_rfl)|((with_reducible intro h);try simp only [go_sem,simprocAttr,hb] at h)|omega|intro h)
   all_goals (first|rw [if_pos (by assumption)] at bw|rw [if_neg (by assumption),List.append_nil] at bw)
   all_goals (refine ⟨k+1,by omega, ?_,by omega⟩;refine Le.of ?_ ?_<;>simp [go_sem,simprocAttr,hb,bw,rI])
 ·have hb:decide ((k:Int)<(g.es.length:Int))=false:=decide_eq_false (by omega)
  obtain rfl:k=g.es.length:=by omega
  repeat' (first|refine Rn.p ?_|(with_reducible apply And.intro)|((first|(refine hK _ ?_;clear hK K)|with_reducible intro K hK|refine Rs.p ?_|((with_reducible first|apply oP|apply oQ);exact rfl));try simp only [go_sem,simprocAttr,hb])|((with_reducible refine oD ?_ ?_);kernel_rfl)|((with_reducible intro h);try simp only [go_sem,simprocAttr,hb] at h)|omega|intro h)
theorem cO (g:Gr) (b:Bool) (hl:g.es.length≤1000) (hn:0≤g.n∧g.n≤1000):Spec Tryz.prog 31 (Args [eG g,eB b]) [] (.d (sI (bQ (lM (!b)) g))) []:=by
 (refine Spec.hd (C:=T.cfg [] []) (rs:= [.t 4]) (T.ai _ _) Tryz.func31 rfl rfl Tryz.ntmps31 Tryz.results31 (by simp [AObj.isNest]) (by simp [AObj.isNest]) (by kernel_rfl) T.mixed fun X hX hP hC aH bU=> ?_)
 repeat' (first|refine Rn.p ?_|(with_reducible apply And.intro)|((first|(refine hK _ ?_;clear hK K)|with_reducible intro K hK|refine Rs.p ?_|((with_reducible first|apply oP|apply oQ);exact rfl)|refine aa hX hC hP (bh g (k:Int) (!b) hl) rfl rfl rfl (by simp only [go_sem,simprocAttr]) rfl ?_);try simp only [go_sem,simprocAttr])|((with_reducible refine oD ?_ ?_);kernel_rfl)|((with_reducible intro h);try simp only [go_sem,simprocAttr] at h)|omega|intro h)
 (refine ke hX 5 7 24 (by simp only [go_sem,simprocAttr]) rfl (by first|exact .inl rfl|exact .inr rfl) (by decide) ?_;simp only [go_sem,simprocAttr])
 refine ag (fun k:Nat=>k≤g.n.toNat) (fun k=>⟨[(1,eB b),(2, .ptr 2 0),(6,eN k),(5, .ref 24)], [(2, .box [eN g.n, .d (sE g.es)]),(24, .tip 3 1 ((jo (dG (lM (!b)) g) k).map rI))]⟩) (fun k=>g.n.toNat - k) 0 (by simp) ?_ ?_
 ·refine Le.of ?_ ?_<;>simp [go_sem,simprocAttr,jo]
 rintro k hk
 rcases Nat.lt_or_ge k g.n.toNat with hlt|hge
 ·have hb:decide ((k:Int)<g.n)=true:=decide_eq_true (by omega)
  have fO:=xw (ls:=dG (lM (!b)) g) (k:=k)
  have he:(dG (lM (!b)) g).getD k []=aM (lM (!b)) g.es g.es.length (k:Int):=by
   simp [dG,List.getD_eq_getElem?_getD,List.getElem?_range hlt,mH]
  have bw:=ox (ls:=dG (lM (!b)) g) (k:=k)
  rw [he] at bw
  repeat' (first|refine Rn.p ?_|(with_reducible apply And.intro)|((first|(refine hK _ ?_;clear hK K)|with_reducible intro K hK|refine Rs.p ?_|((with_reducible first|apply oP|apply oQ);exact rfl)|refine aa hX hC hP (bh g (k:Int) (!b) hl) rfl rfl rfl (by simp only [go_sem,simprocAttr,hb]) rfl ?_);try simp only [go_sem,simprocAttr,hb])|((with_reducible refine oD ?_ ?_);kernel_rfl)|((with_reducible intro h);try simp only [go_sem,simprocAttr,hb] at h)|omega|intro h)
  all_goals (first|rw [if_pos (by omega)] at bw|rw [if_neg (by omega),List.append_nil] at bw)
  all_goals (refine ⟨k+1,by omega, ?_,by omega⟩;refine Le.of ?_ ?_<;>simp [go_sem,simprocAttr,hb,bw,rI])
 ·have hb:decide ((k:Int)<g.n)=false:=decide_eq_false (by omega)
  obtain rfl:k=g.n.toNat:=by omega
  repeat' (first|refine Rn.p ?_|(with_reducible apply And.intro)|((first|(refine hK _ ?_;clear hK K)|with_reducible intro K hK|refine Rs.p ?_|((with_reducible first|apply oP|apply oQ);exact rfl)|refine aa hX hC hP (bh g (k:Int) (!b) hl) rfl rfl rfl (by simp only [go_sem,simprocAttr,hb]) rfl ?_);try simp only [go_sem,simprocAttr,hb])|((with_reducible refine oD ?_ ?_);kernel_rfl)|((with_reducible intro h);try simp only [go_sem,simprocAttr,hb] at h)|omega|intro h)
  rfl
end Go.Ab
end
section
namespace Go.Ab
open Go.Proofs
attribute [local congr] ACall.congr gd.congr Nx.congr
set_option maxRecDepth 10000
def rB (b:Bool):List D:= [.sc (.bool b)]
def sB (l:List Bool):D:= .sl 1 (l.map rB)
theorem getD_rB (l:List Bool) (i:Nat):(l.map rB).getD i [.sc (.bool false)]= [.sc (.bool (l.getD i false))]:=by
 simp only [List.getD_eq_getElem?_getD,List.getElem?_map]
 cases l[i]? <;>rfl
attribute [go_sem] getD_rB sB
theorem bW (l:List Bool) (k:Nat) (v:Bool):(l.map rB).set k [.sc (.bool v)]=(l.set k v).map rB:=by
 rw [List.map_set];rfl
theorem xA {α:Type} {n k:Nat} {f:Nat→α} {v:α} :((List.range n).map f).set k v=(List.range n).map fun y=>if y=k then v else f y:=by
 refine List.ext_getElem? fun i=> ?_
 rw [List.getElem?_set,List.length_map,List.length_range]
 by_cases hi:i<n
 ·rw [List.getElem?_map,List.getElem?_map,List.getElem?_range hi]
  by_cases h:k=i
  ·subst h;simp [hi]
  ·have:¬i=k:=fun e=>h e.symm
   simp [h,this]
 ·rw [List.getElem?_eq_none (by simp;omega),List.getElem?_eq_none (by simp;omega)]
  split
  ·rw [if_neg (by omega)]
  ·rfl
def gB (n k:Nat):List Bool:=(List.range n).map fun y=>decide (y<k)
def fy (g:Gr) (l:List Bool) (j:Nat):List Bool:=(List.range g.n.toNat).map fun y:Nat=>(List.range j).any fun i=>decide (hd g i=(y:Int))&&(l.getD (tl g i).toNat false&&l.getD (hd g i).toNat false)
def fV (g:Gr):Nat→List Bool
 |0=>gB g.n.toNat g.n.toNat
 |k+1=>fy g (fV g k) g.es.length
theorem trueK_length {n k:Nat} :(gB n k).length=n:=by simp [gB]
theorem nextK_length {g:Gr} {l:List Bool} {j:Nat} :(fy g l j).length=g.n.toNat:=by simp [fy]
theorem leftK_length {g:Gr} {k:Nat} :(fV g k).length=g.n.toNat:=by
 cases k
 ·exact trueK_length
 ·exact nextK_length
theorem uT {n:Nat} :List.replicate n [D.sc (.bool false)]=(gB n 0).map rB:=by
 refine List.ext_getElem? fun i=> ?_
 by_cases hi:i<n
 ·simp [gB,hi,rB,List.getElem?_range hi]
 ·rw [List.getElem?_eq_none (by simp;omega),List.getElem?_eq_none (by simp [gB];omega)]
theorem ju {n k:Nat} :(gB n k).set k true=gB n (k+1):=by
 unfold gB;rw [xA]
 refine List.map_congr_left fun y _=> ?_
 split
 ·rename_i h;subst h;simp
 ·rename_i h
  rw [Bool.eq_iff_iff];simp;omega
theorem Ca {g:Gr} {l:List Bool} :List.replicate g.n.toNat [D.sc (.bool false)]=(fy g l 0).map rB:=by
 refine List.ext_getElem? fun i=> ?_
 by_cases hi:i<g.n.toNat
 ·simp [fy,hi,rB,List.getElem?_range hi]
 ·rw [List.getElem?_eq_none (by simp;omega),List.getElem?_eq_none (by simp [fy];omega)]
theorem Eu {g:Gr} {l:List Bool} {j:Nat} (h0:0≤hd g j) (h:(l.getD (tl g j).toNat false&&l.getD (hd g j).toNat false)=true):(fy g l j).set (hd g j).toNat true=fy g l (j+1):=by
 unfold fy;rw [xA]
 refine List.map_congr_left fun y _=> ?_
 rw [List.range_succ,List.any_append]
 simp only [List.any_cons,List.any_nil,h,Bool.and_true,Bool.or_false]
 split
 ·rename_i e
  have:hd g j=(y:Int):=by omega
  simp [this]
 ·rename_i e
  have:¬hd g j=(y:Int):=by omega
  simp [this]
theorem GW {g:Gr} {l:List Bool} {j:Nat} (h:(l.getD (tl g j).toNat false&&l.getD (hd g j).toNat false)=false):fy g l j=fy g l (j+1):=by
 unfold fy
 refine List.map_congr_left fun y _=> ?_
 rw [List.range_succ,List.any_append]
 simp only [List.any_cons,List.any_nil,h,Bool.and_false,Bool.or_false]
attribute [go_sem] trueK_length nextK_length leftK_length
theorem de (g:Gr) (hm:aN g=true):Spec Tryz.prog 191 (Args [eG g]) [] (.d (sB (fV g g.n.toNat))) []:=by
 have hn:=aC hm
 (refine Spec.hd (C:=T.cfg [] []) (rs:= [.t 2]) (T.ai _ _) Tryz.func191 rfl rfl Tryz.ntmps191 Tryz.results191 (by simp [AObj.isNest]) (by simp [AObj.isNest]) (by kernel_rfl) T.mixed fun X hX hP hC aH bU=> ?_)
 repeat' (first|(show bM _ (.seq (.region 6 _ _) _) _ _;(refine cG hX 11 rfl (.inl rfl) ?_;simp only [go_sem,simprocAttr]))|(show bM _ (.region 8 _ _) _ _;(refine cG hX 29 rfl (.inl rfl) ?_;simp only [go_sem,simprocAttr]))|refine Rn.p ?_|(with_reducible apply And.intro)|((first|(refine hK _ ?_;clear hK K)|with_reducible intro K hK|refine Rs.p ?_|((with_reducible first|apply oP|apply oQ);exact rfl));try simp only [go_sem,simprocAttr])|((with_reducible refine oD ?_ ?_);kernel_rfl)|((with_reducible intro h);try simp only [go_sem,simprocAttr] at h)|omega|intro h)
 refine ag (fun k:Nat=>k≤g.n.toNat) (fun k=>⟨[(1, .ptr 1 0),(4,eN k),(3, .ref 11)], [(1, .box [eN g.n, .d (sE g.es)]),(11, .own 4 1 ((gB g.n.toNat k).map rB))]⟩) (fun k=>g.n.toNat - k) 0 (by simp) ?_ ?_
 ·refine Le.of ?_ ?_<;>simp [go_sem,simprocAttr]
  exact uT
 rintro k hk
 rcases Nat.lt_or_ge k g.n.toNat with hlt|hge
 ·have hb:decide ((k:Int)<g.n)=true:=decide_eq_true (by omega)
  repeat' (first|(show bM _ (.seq (.region 6 _ _) _) _ _;(refine cG hX 11 rfl (.inl rfl) ?_;simp only [go_sem,simprocAttr,hb,bW,ju]))|(show bM _ (.region 8 _ _) _ _;(refine cG hX 29 rfl (.inl rfl) ?_;simp only [go_sem,simprocAttr,hb,bW,ju]))|refine Rn.p ?_|(with_reducible apply And.intro)|((first|(refine hK _ ?_;clear hK K)|with_reducible intro K hK|refine Rs.p ?_|((with_reducible first|apply oP|apply oQ);exact rfl));try simp only [go_sem,simprocAttr,hb,bW,ju])|((with_reducible refine oD ?_ ?_);kernel_rfl)|((with_reducible intro h);try simp only [go_sem,simprocAttr,hb,bW,ju] at h)|omega|intro h)
  refine ⟨k+1,by omega, ?_,by omega⟩
  (refine Le.of ?_ ?_<;>simp [go_sem,simprocAttr])
 ·have hb:decide ((k:Int)<g.n)=false:=decide_eq_false (by omega)
  obtain rfl:k=g.n.toNat:=by omega
  repeat' (first|(show bM _ (.seq (.region 6 _ _) _) _ _;(refine cG hX 11 rfl (.inl rfl) ?_;simp only [go_sem,simprocAttr,hb]))|(show bM _ (.region 8 _ _) _ _;(refine cG hX 29 rfl (.inl rfl) ?_;simp only [go_sem,simprocAttr,hb]))|refine Rn.p ?_|(with_reducible apply And.intro)|((first|(refine hK _ ?_;clear hK K)|with_reducible intro K hK|refine Rs.p ?_|((with_reducible first|apply oP|apply oQ);exact rfl));try simp only [go_sem,simprocAttr,hb])|((with_reducible refine oD ?_ ?_);kernel_rfl)|((with_reducible intro h);try simp only [go_sem,simprocAttr,hb] at h)|omega|intro h)
  clear hb hk hge
  refine ag (fun k:Nat=>k≤g.n.toNat) (fun k=>⟨[(1, .ptr 1 0),(5,eN k),(3, .d (sB (fV g k)))], [(1, .box [eN g.n, .d (sE g.es)])]⟩) (fun k=>g.n.toNat - k) 0 (by simp) ?_ ?_
  ·refine Le.of ?_ ?_<;>simp [go_sem,simprocAttr,fV]
  rintro k hk
  rcases Nat.lt_or_ge k g.n.toNat with hlt|hge
  ·have hb:decide ((k:Int)<g.n)=true:=decide_eq_true (by omega)
   repeat' (first|(show bM _ (.seq (.region 6 _ _) _) _ _;(refine cG hX 11 rfl (.inl rfl) ?_;simp only [go_sem,simprocAttr,hb]))|(show bM _ (.region 8 _ _) _ _;(refine cG hX 29 rfl (.inl rfl) ?_;simp only [go_sem,simprocAttr,hb]))|refine Rn.p ?_|(with_reducible apply And.intro)|((first|(refine hK _ ?_;clear hK K)|with_reducible intro K hK|refine Rs.p ?_|((with_reducible first|apply oP|apply oQ);exact rfl));try simp only [go_sem,simprocAttr,hb])|((with_reducible refine oD ?_ ?_);kernel_rfl)|((with_reducible intro h);try simp only [go_sem,simprocAttr,hb] at h)|omega|intro h)
   refine ag (fun j:Nat=>j≤g.es.length) (fun j=>⟨[(1, .ptr 1 0),(5,eN k),(3, .d (sB (fV g k))),(7,eN j),(6, .ref 29)], [(1, .box [eN g.n, .d (sE g.es)]),(29, .own 4 1 ((fy g (fV g k) j).map rB))]⟩) (fun j=>g.es.length - j) 0 (by simp) ?_ ?_
   ·refine Le.of ?_ ?_<;>simp [go_sem,simprocAttr]
    exact Ca
   rintro j hj
   rcases Nat.lt_or_ge j g.es.length with hjl|No
   ·have hb2:decide ((j:Int)<(g.es.length:Int))=true:=decide_eq_true (by omega)
    obtain ⟨⟨K9,s9⟩,⟨BO,yq⟩⟩:=cM hm hjl
    repeat' (first|(show bM _ (.seq (.region 6 _ _) _) _ _;(refine cG hX 11 rfl (.inl rfl) ?_;simp only [go_sem,simprocAttr,hb2,bW]))|(show bM _ (.region 8 _ _) _ _;(refine cG hX 29 rfl (.inl rfl) ?_;simp only [go_sem,simprocAttr,hb2,bW]))|refine Rn.p ?_|(with_reducible apply And.intro)|((first|(refine hK _ ?_;clear hK K)|with_reducible intro K hK|refine Rs.p ?_|((with_reducible first|apply oP|apply oQ);exact rfl));try simp only [go_sem,simprocAttr,hb2,bW])|((with_reducible refine oD ?_ ?_);kernel_rfl)|((with_reducible intro h);try simp only [go_sem,simprocAttr,hb2,bW] at h)|omega|intro h)
    ·have hy:(fy g (fV g k) j).set (g.es.getD j (0,0)).2.toNat true=fy g (fV g k) (j+1):=Eu BO (by rw [Bool.and_eq_true];exact ⟨by assumption,by assumption⟩)
     refine ⟨j+1,by omega, ?_,by omega⟩
     refine Le.of ?_ ?_<;>simp [go_sem,simprocAttr]
     rw [← hy,List.map_set];rfl
    all_goals (
     have hy:fy g (fV g k) j=fy g (fV g k) (j+1):=GW (Bool.and_eq_false_iff.2 (by first|exact .inl (by assumption)|exact .inr (by assumption)))
     refine ⟨j+1,by omega, ?_,by omega⟩
     refine Le.of ?_ ?_<;>simp [go_sem,simprocAttr, ← hy])
   ·have hb2:decide ((j:Int)<(g.es.length:Int))=false:=decide_eq_false (by omega)
    obtain rfl:j=g.es.length:=by omega
    repeat' (first|(show bM _ (.seq (.region 6 _ _) _) _ _;(refine cG hX 11 rfl (.inl rfl) ?_;simp only [go_sem,simprocAttr,hb2]))|(show bM _ (.region 8 _ _) _ _;(refine cG hX 29 rfl (.inl rfl) ?_;simp only [go_sem,simprocAttr,hb2]))|refine Rn.p ?_|(with_reducible apply And.intro)|((first|(refine hK _ ?_;clear hK K)|with_reducible intro K hK|refine Rs.p ?_|((with_reducible first|apply oP|apply oQ);exact rfl));try simp only [go_sem,simprocAttr,hb2])|((with_reducible refine oD ?_ ?_);kernel_rfl)|((with_reducible intro h);try simp only [go_sem,simprocAttr,hb2] at h)|omega|intro h)
    refine ⟨k+1,by omega, ?_,by omega⟩
    refine Le.of ?_ ?_<;>simp [go_sem,simprocAttr,fV]
  ·have hb:decide ((k:Int)<g.n)=false:=decide_eq_false (by omega)
   obtain rfl:k=g.n.toNat:=by omega
   repeat' (first|(show bM _ (.seq (.region 6 _ _) _) _ _;(refine cG hX 11 rfl (.inl rfl) ?_;simp only [go_sem,simprocAttr,hb]))|(show bM _ (.region 8 _ _) _ _;(refine cG hX 29 rfl (.inl rfl) ?_;simp only [go_sem,simprocAttr,hb]))|refine Rn.p ?_|(with_reducible apply And.intro)|((first|(refine hK _ ?_;clear hK K)|with_reducible intro K hK|refine Rs.p ?_|((with_reducible first|apply oP|apply oQ);exact rfl));try simp only [go_sem,simprocAttr,hb])|((with_reducible refine oD ?_ ?_);kernel_rfl)|((with_reducible intro h);try simp only [go_sem,simprocAttr,hb] at h)|omega|intro h)
end Go.Ab
end
section
namespace Go.Ab
open Go.Proofs
attribute [local congr] ACall.congr gd.congr Nx.congr
set_option maxRecDepth 10000
def yR (g:Gr):List Bool:=fV g g.n.toNat
theorem uU {g:Gr} :fV g g.n.toNat=yR g:=rfl
def Iq (g:Gr):Int:=if b7 (fun b:Bool=>b) (yR g)<0 then g.n else b7 (fun b:Bool=>b) (yR g)
def yS (g:Gr) (x:Int) (b:Int) (i:Nat):Int:=if hd g i=x∧(yR g).getD (tl g i).toNat false=true then min b (tl g i) else b
def eH (g:Gr) (x:Int) (k:Nat):Int:=(List.range k).foldl (yS g x) g.n
def oz (g:Gr):Nat→List Int→Int→List Int × Int
 |0,way,x=>(way,x)
 |f+1,way,x=>if x∈way then (way,x) else oz g f (way++ [x]) (eH g x g.es.length)
def gx (g:Gr):Gr:=⟨g.n+1,g.es⟩
def pZ (g:Gr):List Int × Int:=oz g (g.n.toNat+1) [] (Iq g)
def sO (l:List Int) (m k:Nat):List Int:=(List.range k).map fun i=>l.getD ((m+l.length - i) % l.length) 0
def xB (l:List Int):List Int:=sO l (fq l (iN l)).toNat l.length
def mI (g:Gr):List Int:=if Iq g=g.n then [] else xB ((pZ g).1.drop (fq (pZ g).1 (pZ g).2).toNat)
theorem oI {g:Gr} {x:Int} {k:Nat} :eH g x (k+1)=yS g x (eH g x k) k:=by
 simp [eH,List.range_succ]
theorem rX {g:Gr} (hm:aN g=true) {x:Int} :∀ {k:Nat},k≤g.es.length→0≤eH g x k∧eH g x k≤g.n
 |0,_=>by have:=aC hm;simp [eH];omega
 |k+1,h=>by
  have ih:=rX hm (x:=x) (k:=k) (by omega)
  obtain ⟨⟨h1,h2⟩,_⟩:=cM hm (k:=k) (by omega)
  rw [oI];unfold yS tl
  split<;>omega
theorem Ev {l:List Int} {m k:Nat} :sO l m (k+1)=sO l m k++ [l.getD ((m+l.length - k) % l.length) 0]:=by
 simp [sO,List.range_succ]
theorem Av {g:Gr} {way:List Int} {a:Int} (h:a∈way):∀f,oz g f way a=(way,a)
 |0=>rfl
 |f+1=>by simp only [oz];rw [if_pos h]
theorem yT:∀ {l:List Int} {x:Int},x∈l→iN l≤x
 |a::r,x,h=>by
  have:∀(r:List Int) (a:Int),r.foldl min a≤a∧∀x∈r,r.foldl min a≤x:=by
   intro r
   induction r with
   |nil=>intro a;exact ⟨Int.le_refl _,by simp⟩
   |cons b r ih=>
    intro a
    obtain ⟨h1,h2⟩:=ih (min a b)
    simp only [List.foldl_cons]
    refine ⟨by omega,fun x hx=> ?_⟩
    rcases List.mem_cons.1 hx with rfl|hx
    ·omega
    ·exact h2 x hx
  obtain ⟨h1,h2⟩:=this r a
  rcases List.mem_cons.1 h with rfl|h
  ·exact h1
  ·exact h2 x h
theorem iq {l:List Int} {m:Nat} (h:m<l.length):l.getD m 0∈l:=by
 rw [List.getD_eq_getElem?_getD,List.getElem?_eq_getElem h];exact List.getElem_mem h
theorem GX {l:List Int} {m:Nat} (hm:m<l.length) (h1:∀j,j<l.length→l.getD m 0≤l.getD j 0) (h2:∀j,j<m→l.getD m 0<l.getD j 0):fq l (iN l)=m:=by
 have hmin:iN l=l.getD m 0:=by
  have g1:=yT (iq hm)
  obtain ⟨j,hj,e⟩:=List.getElem_of_mem (jr (l:=l) (by omega))
  have g2:=h1 j hj
  rw [List.getD_eq_getElem?_getD (l:=l) (i:=j),List.getElem?_eq_getElem hj,Option.getD_some,e] at g2
  omega
 refine di (d:=0) hm (fun j hj=> ?_) ?_
 ·have:=h2 j hj
  rw [hmin];simp only [decide_eq_false_iff_not];omega
 ·rw [hmin];simp
theorem dS (g:Gr) (hm:aN g=true):Spec Tryz.prog 161 (Args [eG g]) [] (.d (sI (mI g))) []:=by
 have hn:=aC hm
 have hlf:(yR g).length=g.n.toNat:=leftK_length
 (refine Spec.hd (C:=T.cfg [] []) (rs:= [.t 2]) (T.ai _ _) Tryz.func161 rfl rfl Tryz.ntmps161 Tryz.results161 (by simp [AObj.isNest]) (by simp [AObj.isNest]) (by kernel_rfl) T.mixed fun X hX hP hC aH bU=> ?_)
 repeat' (first|refine Rn.p ?_|(with_reducible apply And.intro)|((first|(refine hK _ ?_;clear hK K)|with_reducible intro K hK|refine Rs.p ?_|((with_reducible first|apply oP|apply oQ);exact rfl)|refine aa hX hC hP (de g hm) rfl rfl rfl (by simp only [go_sem,simprocAttr,uU]) rfl ?_|(refine aj hX hC hP (bC way x cr) rfl rfl rfl ?_ ?_ ?_ ?_;iterate 3 (focus (simp only [go_sem,simprocAttr,uU];done)))|(refine aj hX hC hP (bC way (a:Int) cr) rfl rfl rfl ?_ ?_ ?_ ?_;iterate 3 (focus (simp only [go_sem,simprocAttr,uU];done))));try simp only [go_sem,simprocAttr,uU])|((with_reducible refine oD ?_ ?_);kernel_rfl)|((with_reducible intro h);try simp only [go_sem,simprocAttr,uU] at h)|omega|intro h)
 refine ag (fun k:Nat=>k≤g.n.toNat∧∀j,j<k→(yR g).getD j false=false) (fun k=>⟨[(1, .ptr 1 0),(4,eN k),(3, .d (sB (yR g)))], [(1, .box [eN g.n, .d (sE g.es)])]⟩) (fun k=>g.n.toNat - k) 0 (by simp) ?_ ?_
 ·refine Le.of ?_ ?_<;>simp [go_sem,simprocAttr,yR]
 rintro k ⟨hk,hno⟩
 rcases Nat.lt_or_ge k g.n.toNat with hlt|hge
 ·have hb:decide ((k:Int)<g.n)=true:=decide_eq_true (by omega)
  cases hkb:(yR g).getD k false with
  |false=>
   repeat' (first|refine Rn.p ?_|(with_reducible apply And.intro)|((first|(refine hK _ ?_;clear hK K)|with_reducible intro K hK|refine Rs.p ?_|((with_reducible first|apply oP|apply oQ);exact rfl)|refine aa hX hC hP (de g hm) rfl rfl rfl (by simp only [go_sem,simprocAttr,hb,hkb,hlf]) rfl ?_|(refine aj hX hC hP (bC way x cr) rfl rfl rfl ?_ ?_ ?_ ?_;iterate 3 (focus (simp only [go_sem,simprocAttr,hb,hkb,hlf];done)))|(refine aj hX hC hP (bC way (a:Int) cr) rfl rfl rfl ?_ ?_ ?_ ?_;iterate 3 (focus (simp only [go_sem,simprocAttr,hb,hkb,hlf];done))));try simp only [go_sem,simprocAttr,hb,hkb,hlf])|((with_reducible refine oD ?_ ?_);kernel_rfl)|((with_reducible intro h);try simp only [go_sem,simprocAttr,hb,hkb,hlf] at h)|omega|intro h)
   refine ⟨k+1,⟨by omega,fun j hj=> ?_⟩, ?_,by omega⟩
   ·by_cases hjk:j=k
    ·subst hjk;exact hkb
    ·exact hno j (by omega)
   ·(refine Le.of ?_ ?_<;>simp [go_sem,simprocAttr,hb,hkb,hlf])
  |true=>
   have hst:Iq g=k:=by
    have:b7 (fun b:Bool=>b) (yR g)=k:=di (d:=false) (by omega) hno hkb
    unfold Iq;rw [this,if_neg (by omega)]
   have hne:decide ((k:Int)=g.n)=false:=decide_eq_false (by omega)
   repeat' (first|refine Rn.p ?_|(with_reducible apply And.intro)|((first|(refine hK _ ?_;clear hK K)|with_reducible intro K hK|refine Rs.p ?_|((with_reducible first|apply oP|apply oQ);exact rfl)|refine aa hX hC hP (de g hm) rfl rfl rfl (by simp only [go_sem,simprocAttr,hb,hkb,hlf,hne]) rfl ?_|(refine aj hX hC hP (bC way x cr) rfl rfl rfl ?_ ?_ ?_ ?_;iterate 3 (focus (simp only [go_sem,simprocAttr,hb,hkb,hlf,hne];done)))|(refine aj hX hC hP (bC way (a:Int) cr) rfl rfl rfl ?_ ?_ ?_ ?_;iterate 3 (focus (simp only [go_sem,simprocAttr,hb,hkb,hlf,hne];done))));try simp only [go_sem,simprocAttr,hb,hkb,hlf,hne])|((with_reducible refine oD ?_ ?_);kernel_rfl)|((with_reducible intro h);try simp only [go_sem,simprocAttr,hb,hkb,hlf,hne] at h)|omega|intro h)
   clear hno hb hne hkb
   (refine ke hX 5 31 39 (by simp only [go_sem,simprocAttr]) rfl (by first|exact .inl rfl|exact .inr rfl) (by decide) ?_;simp only [go_sem,simprocAttr])
   refine ag (fun i:List Int × Int=>Way (gx g) i.1∧(0≤i.2∧i.2≤g.n)∧oz g (left (gx g) i.1) i.1 i.2=pZ g) (fun i=>⟨[(1, .ptr 1 0),(4,eN i.2),(3, .d (sB (yR g))),(5, .ref 39)], [(1, .box [eN g.n, .d (sE g.es)]),(39, .tip 3 1 (i.1.map rI))]⟩) (fun i=>left (gx g) i.1) ([],(k:Int)) ⟨Way.nil _,by simp only;omega, ?_⟩ ?_ ?_
   ·simp only [pY,pZ,gx,hst]
    rw [show (g.n+1).toNat=g.n.toNat+1 from by omega]
   ·refine Le.of ?_ ?_<;>simp [go_sem,simprocAttr]
   rintro ⟨way,x⟩ ⟨Au,hx,hrun⟩
   simp only at Au hx hrun ⊢
   have SP:way.length≤65:=by have:=Au.fuel;simp only [gx] at this;omega
   have cr:way.length≤9223372036854775807:=by omega
   by_cases hmem:x∈way
   ·have hend:=Av (g:=g) hmem (left (gx g) way)
    rw [hrun] at hend
    obtain ⟨m,ue,hm2,_⟩:=ef hmem
    have hneg:decide ((m:Int)<0)=false:=decide_eq_false (by omega)
    obtain ⟨l,J8⟩:∃l,l=way.drop m:=⟨_,rfl⟩
    have fO:l.length=way.length - m:=by rw [J8];simp
    have Lb:mI g=xB l:=by
     simp only [mI,hend,ue,Int.toNat_natCast, ← J8]
     rw [if_neg (by omega)]
    repeat' (first|refine Rn.p ?_|(with_reducible apply And.intro)|((first|(refine hK _ ?_;clear hK K)|with_reducible intro K hK|refine Rs.p ?_|((with_reducible first|apply oP|apply oQ);exact rfl)|refine aa hX hC hP (de g hm) rfl rfl rfl (by simp only [go_sem,simprocAttr,ue,hneg, ← List.map_take, ← List.map_drop,List.take_length, ← J8]) rfl ?_|(refine aj hX hC hP (bC way x cr) rfl rfl rfl ?_ ?_ ?_ ?_;iterate 3 (focus (simp only [go_sem,simprocAttr,ue,hneg, ← List.map_take, ← List.map_drop,List.take_length, ← J8];done)))|(refine aj hX hC hP (bC way (a:Int) cr) rfl rfl rfl ?_ ?_ ?_ ?_;iterate 3 (focus (simp only [go_sem,simprocAttr,ue,hneg, ← List.map_take, ← List.map_drop,List.take_length, ← J8];done))));try simp only [go_sem,simprocAttr,ue,hneg, ← List.map_take, ← List.map_drop,List.take_length, ← J8])|((with_reducible refine oD ?_ ?_);kernel_rfl)|((with_reducible intro h);try simp only [go_sem,simprocAttr,ue,hneg, ← List.map_take, ← List.map_drop,List.take_length, ← J8] at h)|omega|intro h)
    clear hrun Au hend ue hneg J8
    have hl0:0<l.length:=by omega
    have hlm:l.length≤65:=by omega
    refine ag (fun i:Nat × Nat=>i.1≤l.length∧i.2<l.length∧(∀j,j<i.1→l.getD i.2 0≤l.getD j 0)∧(∀j,j<i.2→l.getD i.2 0<l.getD j 0)) (fun i=>⟨[(9,eN i.1),(8,eN i.2),(5, .d (sI l))], []⟩) (fun i=>l.length - i.1) (0,0) ⟨by simp,hl0,by simp,by simp⟩ ?_ ?_
    ·refine Le.of ?_ ?_<;>simp [go_sem,simprocAttr]
    rintro ⟨i,q⟩ ⟨hi,hq,hq1,uD⟩
    simp only at hi hq hq1 uD ⊢
    rcases Nat.lt_or_ge i l.length with hil|J9
    ·have hb:decide ((i:Int)<(l.length:Int))=true:=decide_eq_true (by omega)
     repeat' (first|refine Rn.p ?_|(with_reducible apply And.intro)|((first|(refine hK _ ?_;clear hK K)|with_reducible intro K hK|refine Rs.p ?_|((with_reducible first|apply oP|apply oQ);exact rfl)|refine aa hX hC hP (de g hm) rfl rfl rfl (by simp only [go_sem,simprocAttr,hb]) rfl ?_|(refine aj hX hC hP (bC way x cr) rfl rfl rfl ?_ ?_ ?_ ?_;iterate 3 (focus (simp only [go_sem,simprocAttr,hb];done)))|(refine aj hX hC hP (bC way (a:Int) cr) rfl rfl rfl ?_ ?_ ?_ ?_;iterate 3 (focus (simp only [go_sem,simprocAttr,hb];done))));try simp only [go_sem,simprocAttr,hb])|((with_reducible refine oD ?_ ?_);kernel_rfl)|((with_reducible intro h);try simp only [go_sem,simprocAttr,hb] at h)|omega|intro h)
     ·refine ⟨(i+1,i),⟨by simp only;omega,hil,fun j hj=> ?_,fun j hj=> ?_⟩, ?_,by simp only;omega⟩
      ·simp only at hj ⊢
       by_cases hji:j=i
       ·subst hji;exact Int.le_refl _
       ·have:=hq1 j (by omega);omega
      ·simp only at hj ⊢
       have:=hq1 j hj;omega
      ·refine Le.of ?_ ?_<;>simp [go_sem,simprocAttr]
     ·refine ⟨(i+1,q),⟨by simp only;omega,hq,fun j hj=> ?_,uD⟩, ?_,by simp only;omega⟩
      ·simp only at hj ⊢
       by_cases hji:j=i
       ·subst hji;omega
       ·exact hq1 j (by omega)
      ·refine Le.of ?_ ?_<;>simp [go_sem,simprocAttr]
    ·have hb:decide ((i:Int)<(l.length:Int))=false:=decide_eq_false (by omega)
     obtain rfl:i=l.length:=by omega
     have hidx:=GX hq hq1 uD
     repeat' (first|refine Rn.p ?_|(with_reducible apply And.intro)|((first|(refine hK _ ?_;clear hK K)|with_reducible intro K hK|refine Rs.p ?_|((with_reducible first|apply oP|apply oQ);exact rfl)|refine aa hX hC hP (de g hm) rfl rfl rfl (by simp only [go_sem,simprocAttr,hb]) rfl ?_|(refine aj hX hC hP (bC way x cr) rfl rfl rfl ?_ ?_ ?_ ?_;iterate 3 (focus (simp only [go_sem,simprocAttr,hb];done)))|(refine aj hX hC hP (bC way (a:Int) cr) rfl rfl rfl ?_ ?_ ?_ ?_;iterate 3 (focus (simp only [go_sem,simprocAttr,hb];done))));try simp only [go_sem,simprocAttr,hb])|((with_reducible refine oD ?_ ?_);kernel_rfl)|((with_reducible intro h);try simp only [go_sem,simprocAttr,hb] at h)|omega|intro h)
     clear hi hb J9
     (refine ke hX 10 98 119 (by simp only [go_sem,simprocAttr]) rfl (by first|exact .inl rfl|exact .inr rfl) (by decide) ?_;simp only [go_sem,simprocAttr])
     refine ag (fun i:Nat=>i≤l.length) (fun i=>⟨[(5, .d (sI l)),(8,eN q),(11,eN i),(10, .ref 119)], [(119, .tip 3 1 ((sO l q i).map rI))]⟩) (fun i=>l.length - i) 0 (by simp) ?_ ?_
     ·refine Le.of ?_ ?_<;>simp [go_sem,simprocAttr,sO]
     rintro i hi
     have hrl:(sO l q i).length=i:=by simp [sO]
     rcases Nat.lt_or_ge i l.length with hil|J9
     ·have hb:decide ((i:Int)<(l.length:Int))=true:=decide_eq_true (by omega)
      have Jc:((q:Int)+(l.length:Int) - (i:Int)).tmod (l.length:Int)=(((q+l.length - i) % l.length:Nat):Int):=by
       rw [show (q:Int)+(l.length:Int) - (i:Int)=((q+l.length - i:Nat):Int) from by omega]
       rw [Int.tmod_eq_emod_of_nonneg (by omega)];rfl
      have hmod:(q+l.length - i) % l.length<l.length:=Nat.mod_lt _ hl0
      repeat' (first|refine Rn.p ?_|(with_reducible apply And.intro)|((first|(refine hK _ ?_;clear hK K)|with_reducible intro K hK|refine Rs.p ?_|((with_reducible first|apply oP|apply oQ);exact rfl)|refine aa hX hC hP (de g hm) rfl rfl rfl (by simp only [go_sem,simprocAttr,hb,Jc]) rfl ?_|(refine aj hX hC hP (bC way x cr) rfl rfl rfl ?_ ?_ ?_ ?_;iterate 3 (focus (simp only [go_sem,simprocAttr,hb,Jc];done)))|(refine aj hX hC hP (bC way (a:Int) cr) rfl rfl rfl ?_ ?_ ?_ ?_;iterate 3 (focus (simp only [go_sem,simprocAttr,hb,Jc];done))));try simp only [go_sem,simprocAttr,hb,Jc])|((with_reducible refine oD ?_ ?_);kernel_rfl)|((with_reducible intro h);try simp only [go_sem,simprocAttr,hb,Jc] at h)|omega|intro h)
      refine ⟨i+1,by omega, ?_,by omega⟩
      rw [Ev]
      refine Le.of ?_ ?_<;>simp [go_sem,simprocAttr,rI]
     ·have hb:decide ((i:Int)<(l.length:Int))=false:=decide_eq_false (by omega)
      obtain rfl:i=l.length:=by omega
      repeat' (first|refine Rn.p ?_|(with_reducible apply And.intro)|((first|(refine hK _ ?_;clear hK K)|with_reducible intro K hK|refine Rs.p ?_|((with_reducible first|apply oP|apply oQ);exact rfl)|refine aa hX hC hP (de g hm) rfl rfl rfl (by simp only [go_sem,simprocAttr,hb]) rfl ?_|(refine aj hX hC hP (bC way x cr) rfl rfl rfl ?_ ?_ ?_ ?_;iterate 3 (focus (simp only [go_sem,simprocAttr,hb];done)))|(refine aj hX hC hP (bC way (a:Int) cr) rfl rfl rfl ?_ ?_ ?_ ?_;iterate 3 (focus (simp only [go_sem,simprocAttr,hb];done))));try simp only [go_sem,simprocAttr,hb])|((with_reducible refine oD ?_ ?_);kernel_rfl)|((with_reducible intro h);try simp only [go_sem,simprocAttr,hb] at h)|omega|intro h)
      rw [Lb,xB,hidx];rfl
   ·have hi:fq way x= -1:=by
     rcases fF (f:=fun y:Int=>decide (x=y)) (l:=way) 0 with ⟨h1,_⟩|⟨q,_,h2,h3,_⟩
     ·exact h1
     ·exact absurd (by rw [of_decide_eq_true h3,List.getD_eq_getElem?_getD,List.getElem?_eq_getElem h2];exact List.getElem_mem h2) hmem
    obtain ⟨a,rfl⟩:∃a:Nat,x=a:=⟨x.toNat,by omega⟩
    have J7:a<(gx g).n.toNat:=by simp only [gx];omega
    repeat' (first|refine Rn.p ?_|(with_reducible apply And.intro)|((first|(refine hK _ ?_;clear hK K)|with_reducible intro K hK|refine Rs.p ?_|((with_reducible first|apply oP|apply oQ);exact rfl)|refine aa hX hC hP (de g hm) rfl rfl rfl (by simp only [go_sem,simprocAttr,hi]) rfl ?_|(refine aj hX hC hP (bC way x cr) rfl rfl rfl ?_ ?_ ?_ ?_;iterate 3 (focus (simp only [go_sem,simprocAttr,hi];done)))|(refine aj hX hC hP (bC way (a:Int) cr) rfl rfl rfl ?_ ?_ ?_ ?_;iterate 3 (focus (simp only [go_sem,simprocAttr,hi];done))));try simp only [go_sem,simprocAttr,hi])|((with_reducible refine oD ?_ ?_);kernel_rfl)|((with_reducible intro h);try simp only [go_sem,simprocAttr,hi] at h)|omega|intro h)
    refine ag (fun j:Nat=>j≤g.es.length) (fun j=>⟨[(1, .ptr 1 0),(4,eN a),(3, .d (sB (yR g))),(5, .ref 39),(6,eN (eH g a j)),(7,eN j)], [(1, .box [eN g.n, .d (sE g.es)]),(39, .tip 3 1 ((way++ [(a:Int)]).map rI))]⟩) (fun j=>g.es.length - j) 0 (by simp) ?_ ?_
    ·refine Le.of ?_ ?_<;>simp [go_sem,simprocAttr,rI,eH]
    rintro j hj
    rcases Nat.lt_or_ge j g.es.length with hjl|No
    ·have hb2:decide ((j:Int)<(g.es.length:Int))=true:=decide_eq_true (by omega)
     obtain ⟨⟨K9,s9⟩,_⟩:=cM hm hjl
     have bw:eH g a (j+1)=if (g.es.getD j (0,0)).2=(a:Int)∧(yR g).getD (g.es.getD j (0,0)).1.toNat false=true then min (eH g a j) (g.es.getD j (0,0)).1 else eH g a j:=oI
     repeat' (first|refine Rn.p ?_|(with_reducible apply And.intro)|((first|(refine hK _ ?_;clear hK K)|with_reducible intro K hK|refine Rs.p ?_|((with_reducible first|apply oP|apply oQ);exact rfl)|refine aa hX hC hP (de g hm) rfl rfl rfl (by simp only [go_sem,simprocAttr,hb2,hlf]) rfl ?_|(refine aj hX hC hP (bC way x cr) rfl rfl rfl ?_ ?_ ?_ ?_;iterate 3 (focus (simp only [go_sem,simprocAttr,hb2,hlf];done)))|(refine aj hX hC hP (bC way (a:Int) cr) rfl rfl rfl ?_ ?_ ?_ ?_;iterate 3 (focus (simp only [go_sem,simprocAttr,hb2,hlf];done))));try simp only [go_sem,simprocAttr,hb2,hlf])|((with_reducible refine oD ?_ ?_);kernel_rfl)|((with_reducible intro h);try simp only [go_sem,simprocAttr,hb2,hlf] at h)|omega|intro h)
     all_goals (first|rw [if_pos ⟨by assumption,by assumption⟩] at bw|rw [if_neg (fun e=>by first|exact absurd e.1 (by assumption)|simp_all)] at bw)
     all_goals (refine ⟨j+1,by omega, ?_,by omega⟩;refine Le.of ?_ ?_<;>simp [go_sem,simprocAttr,bw])
    ·have hb2:decide ((j:Int)<(g.es.length:Int))=false:=decide_eq_false (by omega)
     obtain rfl:j=g.es.length:=by omega
     repeat' (first|refine Rn.p ?_|(with_reducible apply And.intro)|((first|(refine hK _ ?_;clear hK K)|with_reducible intro K hK|refine Rs.p ?_|((with_reducible first|apply oP|apply oQ);exact rfl)|refine aa hX hC hP (de g hm) rfl rfl rfl (by simp only [go_sem,simprocAttr,hb2]) rfl ?_|(refine aj hX hC hP (bC way x cr) rfl rfl rfl ?_ ?_ ?_ ?_;iterate 3 (focus (simp only [go_sem,simprocAttr,hb2];done)))|(refine aj hX hC hP (bC way (a:Int) cr) rfl rfl rfl ?_ ?_ ?_ ?_;iterate 3 (focus (simp only [go_sem,simprocAttr,hb2];done))));try simp only [go_sem,simprocAttr,hb2])|((with_reducible refine oD ?_ ?_);kernel_rfl)|((with_reducible intro h);try simp only [go_sem,simprocAttr,hb2] at h)|omega|intro h)
     refine ⟨(way++ [(a:Int)],eH g a g.es.length),⟨Au.next J7 hmem,rX hm (Nat.le_refl _), ?_⟩, ?_, ?_⟩
     ·simp only
      rw [← hrun,jq J7 hmem]
      simp only [oz]
      rw [if_neg hmem]
     ·refine Le.of ?_ ?_<;>simp [go_sem,simprocAttr]
     ·have:=jq J7 hmem;simp only;omega
 ·have hb:decide ((k:Int)<g.n)=false:=decide_eq_false (by omega)
  have hst:Iq g=g.n:=by
   have:b7 (fun b:Bool=>b) (yR g)= -1:=cT false fun j hj=>hno j (by omega)
   unfold Iq;rw [this,if_pos (by omega)]
  have hne:decide ((k:Int)=g.n)=true:=decide_eq_true (by omega)
  repeat' (first|refine Rn.p ?_|(with_reducible apply And.intro)|((first|(refine hK _ ?_;clear hK K)|with_reducible intro K hK|refine Rs.p ?_|((with_reducible first|apply oP|apply oQ);exact rfl)|refine aa hX hC hP (de g hm) rfl rfl rfl (by simp only [go_sem,simprocAttr,hb,hne]) rfl ?_|(refine aj hX hC hP (bC way x cr) rfl rfl rfl ?_ ?_ ?_ ?_;iterate 3 (focus (simp only [go_sem,simprocAttr,hb,hne];done)))|(refine aj hX hC hP (bC way (a:Int) cr) rfl rfl rfl ?_ ?_ ?_ ?_;iterate 3 (focus (simp only [go_sem,simprocAttr,hb,hne];done))));try simp only [go_sem,simprocAttr,hb,hne])|((with_reducible refine oD ?_ ?_);kernel_rfl)|((with_reducible intro h);try simp only [go_sem,simprocAttr,hb,hne] at h)|omega|intro h)
  simp only [mI];rw [if_pos hst];rfl
end Go.Ab
end
section
namespace Go.Ab
open Go.Proofs
attribute [local congr] ACall.congr gd.congr Nx.congr
set_option maxRecDepth 10000
def gC (g:Gr):Int × Int × List Int:=fT g (mI g) (bQ (·.2) g)
theorem Aw {l:List Edge} {k:Nat} {x:Edge} :x∈l.take k↔∃j,j<k∧j<l.length∧l.getD j (0,0)=x:=by
 rw [List.mem_iff_getElem?]
 constructor
 ·rintro ⟨j,hj⟩
  rw [List.getElem?_take] at hj
  split at hj
  ·exact ⟨j,by assumption,(List.getElem?_eq_some_iff.1 hj).1,by rw [List.getD_eq_getElem?_getD,hj];rfl⟩
  ·cases hj
 ·rintro ⟨j,h1,h2,h3⟩
  refine ⟨j, ?_⟩
  rw [List.getElem?_take,if_pos h1,List.getElem?_eq_getElem h2]
  rw [List.getD_eq_getElem?_getD,List.getElem?_eq_getElem h2] at h3
  exact congrArg some h3
theorem wU (g:Gr) (hl0:g.es.length≤1000):Spec Tryz.prog 104 (Args [eG g]) [] (.tup [eN (gC g).1,eN (gC g).2.1, .d (sI (gC g).2.2)]) []:=by
 have hl:g.es.length≤9223372036854775807:=by omega
 (refine Spec.hd (C:=T.cfg [] []) (rs:= [.t 2, .t 3, .t 4]) (T.ai _ _) Tryz.func104 rfl rfl Tryz.ntmps104 Tryz.results104 (by simp [AObj.isNest]) (by simp [AObj.isNest]) (by kernel_rfl) T.mixed fun X hX hP hC aH bU=> ?_)
 cases hm:aN g with
 |false=>
  repeat' (first|refine Rn.p ?_|(with_reducible apply And.intro)|((first|(refine hK _ ?_;clear hK K)|with_reducible intro K hK|refine Rs.p ?_|((with_reducible first|apply oP|apply oQ);exact rfl)|refine aa hX hC hP (dm g hl) rfl rfl rfl (by simp only [go_sem,simprocAttr,hm]) rfl ?_|refine aa hX hC hP (dS g hm) rfl rfl rfl (by simp only [go_sem,simprocAttr,hm]) rfl ?_|refine aa hX hC hP (cO g true hl0 hn0) rfl rfl rfl (by simp only [go_sem,simprocAttr,hm]) rfl ?_);try simp only [go_sem,simprocAttr,hm])|((with_reducible refine oD ?_ ?_);kernel_rfl)|((with_reducible intro h);try simp only [go_sem,simprocAttr,hm] at h)|omega|intro h)
  all_goals simp [gC,fT,hm]
 |true=>
 have hn:=aC hm
 have hn0:0≤g.n∧g.n≤1000:=by omega
 repeat' (first|refine Rn.p ?_|(with_reducible apply And.intro)|((first|(refine hK _ ?_;clear hK K)|with_reducible intro K hK|refine Rs.p ?_|((with_reducible first|apply oP|apply oQ);exact rfl)|refine aa hX hC hP (dm g hl) rfl rfl rfl (by simp only [go_sem,simprocAttr,hm]) rfl ?_|refine aa hX hC hP (dS g hm) rfl rfl rfl (by simp only [go_sem,simprocAttr,hm]) rfl ?_|refine aa hX hC hP (cO g true hl0 hn0) rfl rfl rfl (by simp only [go_sem,simprocAttr,hm]) rfl ?_);try simp only [go_sem,simprocAttr,hm])|((with_reducible refine oD ?_ ?_);kernel_rfl)|((with_reducible intro h);try simp only [go_sem,simprocAttr,hm] at h)|omega|intro h)
 refine ag (fun k:Nat=>k≤g.es.length∧∀j,j<k→decide ((g.es.getD j (0,0)).1=(g.es.getD j (0,0)).2)=false) (fun k=>⟨[(5,eN k),(1, .ptr 1 0)], [(1, .box [eN g.n, .d (sE g.es)])]⟩) (fun k=>g.es.length - k) 0 (by simp) ?_ ?_
 ·(refine Le.of ?_ ?_<;>simp [go_sem,simprocAttr,hm])
 rintro k ⟨hk,hno⟩
 rcases Nat.lt_or_ge k g.es.length with hlt|hge
 ·have hb2:decide ((k:Int)<(g.es.length:Int))=true:=decide_eq_true (by omega)
  repeat' (first|refine Rn.p ?_|(with_reducible apply And.intro)|((first|(refine hK _ ?_;clear hK K)|with_reducible intro K hK|refine Rs.p ?_|((with_reducible first|apply oP|apply oQ);exact rfl)|refine aa hX hC hP (dm g hl) rfl rfl rfl (by simp only [go_sem,simprocAttr,hm,hb2]) rfl ?_|refine aa hX hC hP (dS g hm) rfl rfl rfl (by simp only [go_sem,simprocAttr,hm,hb2]) rfl ?_|refine aa hX hC hP (cO g true hl0 hn0) rfl rfl rfl (by simp only [go_sem,simprocAttr,hm,hb2]) rfl ?_);try simp only [go_sem,simprocAttr,hm,hb2])|((with_reducible refine oD ?_ ?_);kernel_rfl)|((with_reducible intro h);try simp only [go_sem,simprocAttr,hm,hb2] at h)|omega|intro h)
  any_goals (
   have hlo:jt g=(k:Int):=di (d:=(0,0)) hlt hno (decide_eq_true h)
   have hc:gC g=(13,jt g, []):=by
    simp only [gC,fT];rw [if_neg (by simp [hm]),if_pos (by omega)]
   rw [hc]<;>first|rfl|exact hlo.symm)
  refine ⟨k+1,⟨by omega,fun j hj=> ?_⟩, ?_,by omega⟩
  ·by_cases hjk:j=k
   ·subst hjk;exact h
   ·simpa using hno j (by omega)
  ·(refine Le.of ?_ ?_<;>simp [go_sem,simprocAttr,hm,hb2])
 ·have hb2:decide ((k:Int)<(g.es.length:Int))=false:=decide_eq_false (by omega)
  have hlo:¬0≤jt g:=by
   have:jt g= -1:=cT (0,0) fun j hj=>hno j (by omega)
   omega
  repeat' (first|refine Rn.p ?_|(with_reducible apply And.intro)|((first|(refine hK _ ?_;clear hK K)|with_reducible intro K hK|refine Rs.p ?_|((with_reducible first|apply oP|apply oQ);exact rfl)|refine aa hX hC hP (dm g hl) rfl rfl rfl (by simp only [go_sem,simprocAttr,hm,hb2]) rfl ?_|refine aa hX hC hP (dS g hm) rfl rfl rfl (by simp only [go_sem,simprocAttr,hm,hb2]) rfl ?_|refine aa hX hC hP (cO g true hl0 hn0) rfl rfl rfl (by simp only [go_sem,simprocAttr,hm,hb2]) rfl ?_);try simp only [go_sem,simprocAttr,hm,hb2])|((with_reducible refine oD ?_ ?_);kernel_rfl)|((with_reducible intro h);try simp only [go_sem,simprocAttr,hm,hb2] at h)|omega|intro h)
  clear hno hb2 hk hge
  refine ag (fun k:Nat=>k≤g.es.length∧∀j,j<k→oy g j=false) (fun k=>⟨[(6,eN k),(1, .ptr 1 0)], [(1, .box [eN g.n, .d (sE g.es)])]⟩) (fun k=>g.es.length - k) 0 (by simp) ?_ ?_
  ·(refine Le.of ?_ ?_<;>simp [go_sem,simprocAttr])
  rintro k ⟨hk,GU⟩
  rcases Nat.lt_or_ge k g.es.length with hlt|hge
  ·have hb2:decide ((k:Int)<(g.es.length:Int))=true:=decide_eq_true (by omega)
   repeat' (first|refine Rn.p ?_|(with_reducible apply And.intro)|((first|(refine hK _ ?_;clear hK K)|with_reducible intro K hK|refine Rs.p ?_|((with_reducible first|apply oP|apply oQ);exact rfl)|refine aa hX hC hP (dm g hl) rfl rfl rfl (by simp only [go_sem,simprocAttr,hm,hb2]) rfl ?_|refine aa hX hC hP (dS g hm) rfl rfl rfl (by simp only [go_sem,simprocAttr,hm,hb2]) rfl ?_|refine aa hX hC hP (cO g true hl0 hn0) rfl rfl rfl (by simp only [go_sem,simprocAttr,hm,hb2]) rfl ?_);try simp only [go_sem,simprocAttr,hm,hb2])|((with_reducible refine oD ?_ ?_);kernel_rfl)|((with_reducible intro h);try simp only [go_sem,simprocAttr,hm,hb2] at h)|omega|intro h)
   refine ag (fun q:Nat=>q≤k∧∀j,j<q→¬g.es.getD j (0,0)=g.es.getD k (0,0)) (fun q=>⟨[(6,eN k),(7,eN q),(1, .ptr 1 0)], [(1, .box [eN g.n, .d (sE g.es)])]⟩) (fun q=>k - q) 0 (by simp) ?_ ?_
   ·(refine Le.of ?_ ?_<;>simp [go_sem,simprocAttr,hm,hb2])
   rintro q ⟨hq,hne⟩
   rcases Nat.lt_or_ge q k with Rj|Rj
   ·have hb3:decide ((q:Int)<(k:Int))=true:=decide_eq_true (by omega)
    repeat' (first|refine Rn.p ?_|(with_reducible apply And.intro)|((first|(refine hK _ ?_;clear hK K)|with_reducible intro K hK|refine Rs.p ?_|((with_reducible first|apply oP|apply oQ);exact rfl)|refine aa hX hC hP (dm g hl) rfl rfl rfl (by simp only [go_sem,simprocAttr,hb3,uJ]) rfl ?_|refine aa hX hC hP (dS g hm) rfl rfl rfl (by simp only [go_sem,simprocAttr,hb3,uJ]) rfl ?_|refine aa hX hC hP (cO g true hl0 hn0) rfl rfl rfl (by simp only [go_sem,simprocAttr,hb3,uJ]) rfl ?_);try simp only [go_sem,simprocAttr,hb3,uJ])|((with_reducible refine oD ?_ ?_);kernel_rfl)|((with_reducible intro h);try simp only [go_sem,simprocAttr,hb3,uJ] at h)|omega|intro h)
    any_goals (
     have GV:oy g k=true:=decide_eq_true (Aw.2 ⟨q,Rj,by omega,h⟩)
     have Qc:dX g=(k:Int):=di (d:=0) (by simpa using hlt) (fun j hj=>by rw [gK (by omega)];exact GU j hj) (by rw [gK hlt];exact GV)
     have hc:gC g=(14,dX g, []):=by
      simp only [gC,fT];rw [if_neg (by simp [hm]),if_neg hlo,if_pos (by omega)]
     rw [hc]<;>first|rfl|exact Qc.symm)
    refine ⟨q+1,⟨by omega,fun j hj=> ?_⟩, ?_,by omega⟩
    ·by_cases hjk:j=q
     ·subst hjk;exact h
     ·exact hne j (by omega)
    ·refine Le.of ?_ ?_<;>simp [go_sem,simprocAttr]
   ·have hb3:decide ((q:Int)<(k:Int))=false:=decide_eq_false (by omega)
    repeat' (first|refine Rn.p ?_|(with_reducible apply And.intro)|((first|(refine hK _ ?_;clear hK K)|with_reducible intro K hK|refine Rs.p ?_|((with_reducible first|apply oP|apply oQ);exact rfl)|refine aa hX hC hP (dm g hl) rfl rfl rfl (by simp only [go_sem,simprocAttr,hb3]) rfl ?_|refine aa hX hC hP (dS g hm) rfl rfl rfl (by simp only [go_sem,simprocAttr,hb3]) rfl ?_|refine aa hX hC hP (cO g true hl0 hn0) rfl rfl rfl (by simp only [go_sem,simprocAttr,hb3]) rfl ?_);try simp only [go_sem,simprocAttr,hb3])|((with_reducible refine oD ?_ ?_);kernel_rfl)|((with_reducible intro h);try simp only [go_sem,simprocAttr,hb3] at h)|omega|intro h)
    refine ⟨k+1,⟨by omega,fun j hj=> ?_⟩, ?_,by omega⟩
    ·by_cases hjk:j=k
     ·subst hjk
      refine decide_eq_false fun h=> ?_
      obtain ⟨i,h1,_,h3⟩:=Aw.1 h
      exact hne i (by omega) h3
     ·exact GU j (by omega)
    ·(refine Le.of ?_ ?_<;>simp [go_sem,simprocAttr,hb3])
  ·have hb2:decide ((k:Int)<(g.es.length:Int))=false:=decide_eq_false (by omega)
   have GV:¬0≤dX g:=by
    have:dX g= -1:=cT 0 fun j hj=>by
     rw [List.length_range] at hj
     rw [gK hj];exact GU j (by omega)
    omega
   repeat' (first|refine Rn.p ?_|(with_reducible apply And.intro)|((first|(refine hK _ ?_;clear hK K)|with_reducible intro K hK|refine Rs.p ?_|((with_reducible first|apply oP|apply oQ);exact rfl)|refine aa hX hC hP (dm g hl) rfl rfl rfl (by simp only [go_sem,simprocAttr,hm,hb2]) rfl ?_|refine aa hX hC hP (dS g hm) rfl rfl rfl (by simp only [go_sem,simprocAttr,hm,hb2]) rfl ?_|refine aa hX hC hP (cO g true hl0 hn0) rfl rfl rfl (by simp only [go_sem,simprocAttr,hm,hb2]) rfl ?_);try simp only [go_sem,simprocAttr,hm,hb2])|((with_reducible refine oD ?_ ?_);kernel_rfl)|((with_reducible intro h);try simp only [go_sem,simprocAttr,hm,hb2] at h)|omega|intro h)
   all_goals (
    have hc:gC g=if 0<(mI g).length then (15,0,mI g) else if 1<(bQ (lM false) g).length then (16,0,(bQ (lM false) g).take 2) else (0,0, []):=by
     show fT g (mI g) (bQ (lM false) g)=_
     simp only [fT];rw [if_neg (by simp [hm]),if_neg hlo,if_neg GV]
    first|rw [if_pos (by omega)] at hc|(rw [if_neg (by omega)] at hc;first|rw [if_pos (by omega)] at hc|rw [if_neg (by omega)] at hc)
    rw [hc]<;>first|rfl|simp only [List.map_take])
end Go.Ab
end
section
namespace Go.Ab
def Ord (g:Gr) (out:List Int):Prop:=∀p,p<out.length→∀i,i<g.es.length→hd g i=out.getD p 0→tl g i∈out.take p
theorem p9 {l r:List Int} {p:Nat} (h:p<l.length):(l++r).getD p 0=l.getD p 0:=by
 rw [List.getD_eq_getElem?_getD,List.getD_eq_getElem?_getD,List.getElem?_append_left h]
theorem Ord.next {g:Gr} {out:List Int} (h:Ord g out) {x:Nat} (hb:∀i,i<g.es.length→hd g i=x→tl g i∈out):Ord g (out++ [(x:Int)]):=by
 intro p hp i hi hh
 rw [List.length_append,List.length_singleton] at hp
 by_cases cJ:p<out.length
 ·rw [p9 cJ] at hh
  have:=h p cJ i hi hh
  rw [List.take_append_of_le_length (by omega)]
  exact this
 ·have hpe:p=out.length:=by omega
  subst hpe
  rw [List.getD_eq_getElem?_getD,List.getElem?_append_right (by omega)] at hh
  simp at hh
  rw [List.take_append_of_le_length (by omega),List.take_of_length_le (by omega)]
  exact hb i hi hh
theorem uV {g:Gr} (hm:aN g=true):∀f out,ff g out→Ord g out→left g out≤f→ff g (wS g f out)∧Ord g (wS g f out)∧fq (cR g (wS g f out)) 0<0
 |f,out,hP,hO,hl=>by
  rcases Nn (g:=g) out with hx|⟨x,hx,C8,hw⟩
  ·rw [As (by omega)];exact ⟨hP,hO,by omega⟩
  ·obtain ⟨Rk,_,hb⟩:=hP.next hm C8 hw
   have hn:=xq hP Rk
   cases f with
   |zero=>omega
   |succ f=>
    have:=uV hm f (out++ [(x:Int)]) Rk (hO.next hb) (by omega)
    simp only [wS,hx]
    rw [if_neg (by omega)]
    exact this
theorem gL {g:Gr} (hm:aN g=true):ff g (aT g)∧Ord g (aT g)∧fq (cR g (aT g)) 0<0:=
 uV hm _ _ (ff.nil g) (fun p hp=>by simp at hp) (by rw [pY];exact Nat.le_refl _)
theorem qQ {g:Gr} (hm:aN g=true) {y:Nat} (hy:y<g.n.toNat):0<wt g (aT g) y↔(y:Int)∉aT g:=by
 obtain ⟨_,_,hi⟩:=gL hm
 constructor
 ·intro h hin;simp [wt,hin] at h
 ·intro h
  have h0:wt g (aT g) y≠0:=by
   intro e
   rcases fF (f:=fun y:Int=>decide (0=y)) (l:=cR g (aT g)) 0 with ⟨_,h2⟩|⟨k,h1,_⟩
   ·have:=h2 _ (List.mem_of_getElem? (lH hy))
    rw [e] at this;simp at this
   ·have:fq (cR g (aT g)) 0=k:=h1
    omega
  have:0≤wt g (aT g) y:=by simp only [wt,h,if_false];omega
  omega
theorem uW {g:Gr} {l:List Bool} {j y:Nat} (h:y<g.n.toNat):(fy g l j).getD y false=(List.range j).any fun i=>decide (hd g i=(y:Int))&&(l.getD (tl g i).toNat false&&l.getD (hd g i).toNat false):=by
 simp [fy,List.getD_eq_getElem?_getD,List.getElem?_range h]
theorem uX {g:Gr} (hm:aN g=true):∀k y,y<g.n.toNat→(y:Int)∉aT g→(fV g k).getD y false=true
 |0,y,hy,_=>by simp [fV,gB,List.getD_eq_getElem?_getD,List.getElem?_range hy];omega
 |k+1,y,hy,h=>by
  have hw:=(qQ hm hy).2 h
  simp only [wt,h,if_false] at hw
  obtain ⟨i,hi,hp⟩:=List.countP_pos_iff.1 (Int.natCast_pos.1 hw)
  simp only [Bool.and_eq_true,decide_eq_true_eq,Bool.not_eq_true',decide_eq_false_iff_not] at hp
  have hil:=List.mem_range.1 hi
  obtain ⟨⟨h1,h2⟩,_⟩:=cM hm hil
  have ht:(g.es.getD i (0,0)).1=tl g i:=rfl
  rw [ht] at h1 h2
  have e:((tl g i).toNat:Int)=tl g i:=by omega
  have g1:=uX hm k (tl g i).toNat (by omega) (by rw [e];exact hp.2)
  have g2:=uX hm k y hy h
  show (fy g (fV g k) g.es.length).getD y false=true
  rw [uW hy,List.any_eq_true]
  refine ⟨i,hi, ?_⟩
  rw [hp.1,Int.toNat_natCast,g1,g2];simp
theorem Db {g:Gr} (hm:aN g=true):∀k p,p<k→p<(aT g).length→(fV g k).getD ((aT g).getD p 0).toNat false=false
 |0,p,h,_=>by omega
 |k+1,p,h,hp=>by
  obtain ⟨hP,hO,_⟩:=gL hm
  have hr:=hP.lo _ (iq hp)
  obtain ⟨y,hy⟩:∃y:Nat,(aT g).getD p 0=y:=⟨((aT g).getD p 0).toNat,by omega⟩
  have Lc:y<g.n.toNat:=by omega
  rw [hy,Int.toNat_natCast]
  show (fy g (fV g k) g.es.length).getD y false=false
  rw [uW Lc,List.any_eq_false]
  intro i hi
  have hil:=List.mem_range.1 hi
  simp only [Bool.and_eq_true,decide_eq_true_eq]
  rintro ⟨h1,h2,_⟩
  have ht:=hO p hp i hil (by rw [h1,hy])
  rw [List.mem_iff_getElem?] at ht
  obtain ⟨q,hq⟩:=ht
  rw [List.getElem?_take] at hq
  split at hq
  ·rename_i SR
   have:=Db hm k q (by omega) (by omega)
   rw [List.getD_eq_getElem?_getD (l:=aT g),hq] at this
   rw [Option.getD_some,h2] at this
   cases this
  ·cases hq
theorem GY {g:Gr} (hm:aN g=true) {y:Nat} (hy:y<g.n.toNat):(yR g).getD y false=true↔(y:Int)∉aT g:=by
 constructor
 ·intro h hin
  obtain ⟨hP,_,_⟩:=gL hm
  obtain ⟨p,hp,e⟩:=List.getElem_of_mem hin
  have hl:=hP.fuel
  have:=Db hm g.n.toNat p (by omega) hp
  rw [List.getD_eq_getElem?_getD (l:=aT g),List.getElem?_eq_getElem hp,Option.getD_some,e,Int.toNat_natCast] at this
  have h2:(fV g g.n.toNat).getD y false=true:=h
  rw [this] at h2;cases h2
 ·intro h;exact uX hm _ y hy h
theorem GZ {g:Gr} (hm:aN g=true) {y:Nat} (hy:y<g.n.toNat):(yR g).getD y false=decide (0<(cR g (aT g)).getD y 0):=by
 rw [mF hy,Bool.eq_iff_iff,GY hm hy,decide_eq_true_eq,qQ hm hy]
theorem start_eq {g:Gr} (hm:aN g=true):(b7 (fun n=>decide (0<n)) (cR g (aT g))= -1∧Iq g=g.n)∨∃a:Nat,a<g.n.toNat∧b7 (fun n=>decide (0<n)) (cR g (aT g))=a∧Iq g=a∧(a:Int)∉aT g:=by
 have hlf:(yR g).length=g.n.toNat:=leftK_length
 rcases fF (f:=fun n:Int=>decide (0<n)) (l:=cR g (aT g)) 0 with ⟨h1,h2⟩|⟨k,h1,h2,h3,h4⟩
 ·refine .inl ⟨h1, ?_⟩
  have:b7 (fun b:Bool=>b) (yR g)= -1:=cT false fun j hj=>by
   rw [hlf] at hj
   rw [GZ hm hj]
   exact h2 _ (by rw [List.getD_eq_getElem?_getD,lH hj];exact List.mem_of_getElem? (lH hj))
  unfold Iq;rw [this,if_pos (by omega)]
 ·rw [wts_length] at h2
  refine .inr ⟨k,h2,h1, ?_, ?_⟩
  ·have:b7 (fun b:Bool=>b) (yR g)=k:=di (d:=false) (by omega) (fun j hj=>by
    rw [GZ hm (by omega)];exact h4 j hj) (by rw [GZ hm h2];exact h3)
   unfold Iq;rw [this,if_neg (by omega)]
  ·rw [← qQ hm h2]
   rw [mF h2] at h3
   exact of_decide_eq_true h3
def Q (g:Gr) (a:Nat) (t:Int):Prop:=∃i,i<g.es.length∧hd g i=(a:Int)∧tl g i=t∧t∉aT g
theorem bk {g:Gr} (hm:aN g=true) {i:Nat} (hi:i<g.es.length):0≤tl g i∧tl g i<g.n:=(cM hm hi).1
theorem bH {g:Gr} (hm:aN g=true) {i:Nat} (hi:i<g.es.length):0≤hd g i∧hd g i<g.n:=(cM hm hi).2
theorem Ew {g:Gr} (hm:aN g=true) {i:Nat} (hi:i<g.es.length):0<(cR g (aT g)).getD (tl g i).toNat 0↔tl g i∉aT g:=by
 have h:=bk hm hi
 have e:((tl g i).toNat:Int)=tl g i:=by omega
 rw [mF (by omega),qQ hm (by omega),e]
theorem rY {g:Gr} (hm:aN g=true):∀(l:List Int) (b:Int),(∀e∈l,∃i:Nat,e=i∧i<g.es.length)→
 (b= -1∨0≤b)→(l.foldl (fS g (cR g (aT g))) b=b∨∃i:Nat,(i:Int)∈l∧tl g i∉aT g∧l.foldl (fS g (cR g (aT g))) b=tl g i)∧(0≤b→l.foldl (fS g (cR g (aT g))) b≤b)∧
   (∀i:Nat,(i:Int)∈l→tl g i∉aT g→0≤l.foldl (fS g (cR g (aT g))) b∧l.foldl (fS g (cR g (aT g))) b≤tl g i)
 | [],b,_,_=>⟨.inl rfl,fun _=>Int.le_refl _,by simp⟩
 |e::l,b,he,hb=>by
  obtain ⟨i,rfl,hi⟩:=he e List.mem_cons_self
  have htr:=bk hm hi
  have hw:=Ew hm hi
  have hstep:fS g (cR g (aT g)) b (i:Int)=if tl g i∉aT g∧(b<0∨tl g i<b) then tl g i else b:=by
   simp only [fS,Int.toNat_natCast,hw]
  have hb':fS g (cR g (aT g)) b (i:Int)= -1∨0≤fS g (cR g (aT g)) b (i:Int):=by
   rw [hstep];split
   ·exact .inr htr.1
   ·exact hb
  obtain ⟨h1,h2,h3⟩:=rY hm l (fS g (cR g (aT g)) b (i:Int)) (fun e h=>he e (List.mem_cons_of_mem _ h)) hb'
  simp only [List.foldl_cons]
  generalize hr:l.foldl (fS g (cR g (aT g))) (fS g (cR g (aT g)) b (i:Int))=r at h1 h2 h3 ⊢
  refine ⟨?_, ?_, ?_⟩
  ·rcases h1 with h1|⟨j,hj,h4,h5⟩
   ·rw [hstep] at h1
    split at h1
    ·rename_i hc
     exact .inr ⟨i,by simp,hc.1,h1⟩
    ·exact .inl h1
   ·exact .inr ⟨j,by simp [hj],h4,h5⟩
  ·intro h0
   rw [hstep] at h2
   split at h2
   ·rename_i hc;have:=h2 htr.1;omega
   ·exact h2 h0
  ·intro j hj hjn
   rcases List.mem_cons.1 hj with hj|hj
   ·have:j=i:=Int.ofNat.inj hj
    subst this
    rw [hstep] at h1 h2
    split at h1
    ·rename_i hc
     rw [if_pos hc] at h2
     have:=h2 htr.1
     rcases h1 with h1|⟨q,hq,h4,h5⟩
     ·omega
     ·obtain ⟨i',e',hi'⟩:=he q (List.mem_cons_of_mem _ hq)
      have:q=i':=Int.ofNat.inj e'
      subst this
      have:=bk hm hi';omega
    ·rename_i hc
     rw [if_neg hc] at h2
     have LQ:¬(b<0∨tl g j<b):=fun h=>hc ⟨hjn,h⟩
     have:=h2 (by omega)
     rcases h1 with h1|⟨q,hq,h4,h5⟩
     ·omega
     ·obtain ⟨i',e',hi'⟩:=he q (List.mem_cons_of_mem _ hq)
      have:q=i':=Int.ofNat.inj e'
      subst this
      have:=bk hm hi';omega
   ·exact h3 j hj hjn
theorem uY {g:Gr} (hm:aN g=true) {a:Nat} (h:∃t,Q g a t):Q g a (jS g (cR g (aT g)) a)∧∀t,Q g a t→jS g (cR g (aT g)) a≤t:=by
 have hin:∀i,i<g.es.length→hd g i=(a:Int)→(i:Int)∈qP g a:=by
  intro i hi hh
  simp only [qP,fP,List.mem_map,List.mem_filter,List.mem_range,decide_eq_true_eq]
  exact ⟨i,⟨hi,hh⟩,rfl⟩
 obtain ⟨h1,_,h3⟩:=rY hm (qP g a) (-1) GS (.inl rfl)
 have hG:jS g (cR g (aT g)) a=(qP g a).foldl (fS g (cR g (aT g))) (-1):=by simp [jS,xy]
 rw [← hG] at h1 h3
 have hle:∀t,Q g a t→0≤jS g (cR g (aT g)) a∧jS g (cR g (aT g)) a≤t:=by
  rintro t ⟨i,h4,h5,rfl,h6⟩
  exact h3 i (hin i h4 h5) h6
 obtain ⟨t,ht⟩:=h
 have h0:=(hle t ht).1
 refine ⟨?_,fun t ht=>(hle t ht).2⟩
 rcases h1 with h1|⟨i,hi,h4,h5⟩
 ·omega
 ·obtain ⟨i',e',hi',hh⟩:=yQ hi
  have:i=i':=Int.ofNat.inj e'
  subst this
  exact ⟨i,hi',hh,h5.symm,by rw [h5];exact h4⟩
theorem uZ {g:Gr} (hm:aN g=true) {a:Nat} :∀k,k≤g.es.length→(eH g a k=g.n∨Q g a (eH g a k))∧eH g a k≤g.n∧∀i,i<k→hd g i=(a:Int)→tl g i∉aT g→eH g a k≤tl g i
 |0,_=>⟨.inl rfl,Int.le_refl _,by simp⟩
 |k+1,hk=>by
  obtain ⟨h1,h2,h3⟩:=uZ hm (a:=a) k (by omega)
  have htr:=bk hm (i:=k) (by omega)
  have e:((tl g k).toNat:Int)=tl g k:=by omega
  have hlf:=GY hm (y:=(tl g k).toNat) (by omega)
  rw [e] at hlf
  rw [oI]
  unfold yS
  split
  ·rename_i hc0
   have hc:hd g k=(a:Int)∧tl g k∉aT g:=⟨hc0.1,hlf.1 hc0.2⟩
   refine ⟨?_,by omega, ?_⟩
   ·by_cases hle:eH g a k≤tl g k
    ·rw [Int.min_eq_left hle];exact h1
    ·rw [Int.min_eq_right (by omega)];exact .inr ⟨k,by omega,hc.1,rfl,hc.2⟩
   ·intro i hi hh hn
    by_cases hik:i=k
    ·subst hik;omega
    ·have:=h3 i (by omega) hh hn;omega
  ·rename_i hc
   refine ⟨h1,h2, ?_⟩
   intro i hi hh hn
   by_cases hik:i=k
   ·subst hik;exact absurd ⟨hh,hlf.2 hn⟩ hc
   ·exact h3 i (by omega) hh hn
theorem back_eq {g:Gr} (hm:aN g=true) {a:Nat} (h:∃t,Q g a t):jS g (cR g (aT g)) a=eH g a g.es.length∧Q g a (eH g a g.es.length):=by
 obtain ⟨h1,h2⟩:=uY hm h
 obtain ⟨h3,h4,h5⟩:=uZ hm (a:=a) g.es.length (Nat.le_refl _)
 have hb:eH g a g.es.length≤jS g (cR g (aT g)) a:=by
  obtain ⟨i,h6,h7,h8,h9⟩:=h1
  rw [← h8] at h9 ⊢
  exact h5 i h6 h7 h9
 have hlt:jS g (cR g (aT g)) a<g.n:=by
  obtain ⟨i,h6,h7,h8,h9⟩:=h1
  rw [← h8];exact (bk hm h6).2
 rcases h3 with h3|h3
 ·omega
 ·exact ⟨by have:=h2 _ h3;omega,h3⟩
theorem Ld {g:Gr} (hm:aN g=true) {a:Nat} (ha:a<g.n.toNat) (h:(a:Int)∉aT g):∃t,Q g a t:=by
 have hw:=(qQ hm ha).2 h
 simp only [wt,h,if_false] at hw
 obtain ⟨i,hi,hp⟩:=List.countP_pos_iff.1 (Int.natCast_pos.1 hw)
 simp only [Bool.and_eq_true,decide_eq_true_eq,Bool.not_eq_true',decide_eq_false_iff_not] at hp
 exact ⟨tl g i,i,List.mem_range.1 hi,hp.1,rfl,hp.2⟩
theorem G0 {g:Gr} (hm:aN g=true):∀(f f':Nat) (way:List Int) (a:Nat),way.Nodup→a<g.n.toNat→(a:Int)∉aT g→left g way≤f→left g way≤f'→
 lJ g (cR g (aT g)) f way a=oz g f' way a∧(0≤(oz g f' way a).2∧(oz g f' way a).2∈(oz g f' way a).1∧(oz g f' way a).1.Nodup)
 |f,f',way,a,hd,ha,hn,h1,h2=>by
  by_cases hmem:(a:Int)∈way
  ·rw [kO (.inr hmem),Av hmem]
   exact ⟨rfl,by simp only;omega,hmem,hd⟩
  ·have hla:=jq ha hmem
   cases f with
   |zero=>omega
   |succ f=>
    cases f' with
    |zero=>omega
    |succ f'=>
     obtain ⟨hb,hq⟩:=back_eq hm (Ld hm ha hn)
     obtain ⟨i,hi,_,ht,Ir⟩:=hq
     have htr:=bk hm hi
     rw [ht] at htr
     obtain ⟨b,qC⟩:∃b:Nat,eH g a g.es.length=b:=⟨(eH g a g.es.length).toNat,by omega⟩
     rw [qC] at hb Ir htr
     have hd':(way++ [(a:Int)]).Nodup:=by
      rw [List.nodup_append]
      refine ⟨hd,by simp, ?_⟩
      intro x hx y hy e
      simp at hy
      rw [← hy, ← e] at hmem;exact hmem hx
     have ih:=G0 hm f f' (way++ [(a:Int)]) b hd' (by omega) Ir (by omega) (by omega)
     have e1:lJ g (cR g (aT g)) (f+1) way a=lJ g (cR g (aT g)) f (way++ [(a:Int)]) b:=by
      simp only [lJ];rw [if_neg (by intro h;rcases h with h|h;omega;exact hmem h),hb]
     have e2:oz g (f'+1) way a=oz g f' (way++ [(a:Int)]) b:=by
      simp only [oz];rw [if_neg hmem,qC]
     rw [e1,e2];exact ih
theorem yU {g:Gr} {way:List Int} :left g way≤g.n.toNat:=by
 unfold left
 have:=List.countP_le_length (p:=fun y:Nat=> !decide ((y:Int)∈way)) (l:=List.range g.n.toNat)
 simpa using this
theorem jv {l:List Int} (h:l.Nodup) {i j:Nat} (hi:i<l.length) (hj:j<l.length) (e:l.getD i 0=l.getD j 0):i=j:=by
 rw [List.getD_eq_getElem?_getD,List.getD_eq_getElem?_getD,List.getElem?_eq_getElem hi,List.getElem?_eq_getElem hj] at e
 exact (List.getElem_inj h).1 e
theorem G1 {l:List Int} {i:Nat} (hi:i<l.length):l.reverse.getD i 0=l.getD (l.length - 1 - i) 0:=by
 rw [List.getD_eq_getElem?_getD,List.getD_eq_getElem?_getD,List.getElem?_reverse hi]
theorem Jd {l:List Int} (hd:l.Nodup) (h0:0<l.length):lX l.reverse=xB l:=by
 obtain ⟨m,ue,hm2,Om⟩:=ef (jr h0)
 have On:0<l.reverse.length:=by simpa using h0
 obtain ⟨k,wN,hk2,Nj⟩:=ef (jr On)
 have hmin:iN l.reverse=iN l:=by
  have h1:=yT (List.mem_reverse.2 (jr h0))
  have h2:=yT (List.mem_reverse.1 (jr On))
  omega
 rw [List.length_reverse] at hk2
 have hk:l.length - 1 - k=m:=jv hd (by omega) hm2 (by rw [← G1 hk2,Nj,Om,hmin])
 have e1:lX l.reverse=l.reverse.drop k++l.reverse.take k:=by
  simp only [lX,wN,Int.toNat_natCast]
 have e2:xB l=sO l m l.length:=by simp only [xB,ue,Int.toNat_natCast]
 rw [e1,e2]
 refine List.ext_getElem? fun i=> ?_
 by_cases hi:i<l.length
 ·have hr:(sO l m l.length)[i]? =some (l.getD ((m+l.length - i) % l.length) 0):=by
   simp [sO,List.getElem?_range hi]
  rw [hr]
  by_cases hik:i<l.length - k
  ·rw [List.getElem?_append_left (by simp;omega),List.getElem?_drop,List.getElem?_reverse (by omega)]
   have:(m+l.length - i) % l.length=m - i:=by
    rw [show m+l.length - i=(m - i)+l.length from by omega,Nat.add_mod_right,Nat.mod_eq_of_lt (by omega)]
   rw [this,show l.length - 1 - (k+i)=m - i from by omega,List.getD_eq_getElem?_getD,List.getElem?_eq_getElem (by omega)];rfl
  ·rw [List.getElem?_append_right (by simp;omega),List.length_drop,List.length_reverse,List.getElem?_take,if_pos (by omega),List.getElem?_reverse (by omega)]
   have:(m+l.length - i) % l.length=m+l.length - i:=Nat.mod_eq_of_lt (by omega)
   rw [this,show l.length - 1 - (i - (l.length - k))=m+l.length - i from by omega,List.getD_eq_getElem?_getD,List.getElem?_eq_getElem (by omega)];rfl
 ·rw [List.getElem?_eq_none (by simp;omega),List.getElem?_eq_none (by simp [sO];omega)]
theorem Lg {g:Gr} (hm:aN g=true):kN g=mI g:=by
 have hn:=aC hm
 rcases start_eq hm with ⟨h1,h2⟩|⟨a,ha,h1,h2,h3⟩
 ·have:kM g=([], -1):=by
   unfold kM;rw [h1];exact kO (.inl (by omega)) _
  simp only [kN,mI,this]
  rw [if_pos (by omega),if_pos h2]
 ·obtain ⟨he,h4,h5,h6⟩:=G0 hm g.n.toNat (g.n.toNat+1) [] a (by simp) ha h3 yU (Nat.le_succ_of_le yU)
  have hw:kM g=pZ g:=by
   unfold kM pZ;rw [h1,h2];exact he
  have hr:oz g (g.n.toNat+1) [] a=pZ g:=by unfold pZ;rw [h2]
  rw [hr] at h4 h5 h6
  simp only [kN,mI,hw]
  rw [if_neg (by omega),if_neg (by omega)]
  obtain ⟨k,wN,hk2,_⟩:=ef h5
  rw [wN,Int.toNat_natCast]
  exact Jd (List.Pairwise.drop h6) (by simp;omega)
theorem Lh (g:Gr):bL g=gC g:=by
 unfold bL gC
 cases hm:aN g with
 |false=>simp [fT,hm]
 |true=>rw [Lg hm]
end Go.Ab
end
section
namespace Go.Ab
end Go.Ab
end
section
namespace Go.Ab
open Go.Proofs
attribute [local congr] ACall.congr gd.congr Nx.congr
set_option maxRecDepth 10000
def g0:Gr:=⟨3, [(0,1),(1,2),(2,1)]⟩
end Go.Ab
end
