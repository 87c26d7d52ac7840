/- A part of the proof. -/
set_option linter.unusedSimpArgs false
set_option linter.unusedVariables false
section
namespace Go.Ab
set_option maxRecDepth 10000
structure PS where
 m:Nat
 src:Int
 ES:Int
 tl:Int→Int
 hd:Int→Int
 ins:Int→List Int
 outs:Int→List Int
 mW:Int→Nat
 Row:Nat→List Int→List Int→Prop
 k0:Nat
def PS.E (P:PS) (e:Int):Prop:=0≤e∧e<P.m
structure PS.Ok (P:PS):Prop where
 cj:∀x e,e∈P.outs x↔P.E e∧P.tl e=x
 bA:∀x e,e∈P.ins x↔P.E e∧P.hd e=x
 mX:∀x,(P.outs x).Nodup
 xF:∀x,(P.ins x).Nodup
 gW:∀e,P.E e→P.mW (P.tl e)<P.mW (P.hd e)
 Dn:P.Row P.k0 (P.outs P.src) [P.src]
 kI:∀ {k W D},P.Row k W D→W.Nodup
 cV:∀ {k W D},P.Row k W D→∀e,e∈W↔P.E e∧P.tl e∈D∧P.hd e∉D
 kJ:∀ {k W D},P.Row (k+1) W D→∃x A C,W=A++P.ins x++C∧P.ins x≠ []
 mY:∀ {k W D x A C},P.Row k W D→W=A++P.ins x++C→P.ins x≠ []→∃k',k=k'+1∧P.Row k' (A++P.outs x++C) (D++ [x])
 lu:∀ {W D},P.Row 0 W D→∀e,P.E e→P.hd e∈D
 pX:∀ {k W D},P.Row k W D→P.src∈D
 pY:∀ {k W D},P.Row k W D→P.ES∈D→k=0
 oq:P.ins P.src= []
 lz:∀x,P.ins x≠ []→(P.outs x= []↔x=P.ES)
theorem ot {l:List Int} :l.reverse.Nodup↔l.Nodup:=(List.reverse_perm l).nodup_iff
def PS.sV (P:PS):PS:= {P with ins:=fun x=>(P.ins x).reverse,outs:=fun x=>(P.outs x).reverse,Row:=fun k W D=>P.Row k W.reverse D}
theorem PS.Ok.sV {P:PS} (h:P.Ok):P.sV.Ok:=
 {cj:=fun x e=>by show e∈(P.outs x).reverse↔_;rw [List.mem_reverse];exact h.cj x e
  bA:=fun x e=>by show e∈(P.ins x).reverse↔_;rw [List.mem_reverse];exact h.bA x e
  mX:=fun x=>by show (P.outs x).reverse.Nodup;exact ot.2 (h.mX x)
  xF:=fun x=>by show (P.ins x).reverse.Nodup;exact ot.2 (h.xF x)
  gW:=h.gW
  Dn:=by show P.Row _ (P.outs P.src).reverse.reverse _;rw [List.reverse_reverse];exact h.Dn
  kI:=fun {k W D} hr=>ot.1 (h.kI (show P.Row k W.reverse D from hr))
  cV:=fun {k W D} hr e=>by
   have:=h.cV (show P.Row k W.reverse D from hr) e
   rw [List.mem_reverse] at this
   exact this
  kJ:=fun {k W D} hr=>by
   obtain ⟨x,A,C,h1,h2⟩:=h.kJ (show P.Row (k+1) W.reverse D from hr)
   refine ⟨x,C.reverse,A.reverse, ?_,fun h3=>h2 (List.reverse_eq_nil_iff.1 h3)⟩
   show W=C.reverse++(P.ins x).reverse++A.reverse
   rw [← List.reverse_reverse W,h1]
   simp
  mY:=fun {k W D x A C} hr h1 h2=>by
   have h1:W=A++(P.ins x).reverse++C:=h1
   obtain ⟨k',h3,h4⟩:=h.mY (x:=x) (A:=C.reverse) (C:=A.reverse) (show P.Row k W.reverse D from hr) (by rw [h1];simp) (fun h3=>h2 (List.reverse_eq_nil_iff.2 h3))
   refine ⟨k',h3, ?_⟩
   show P.Row k' (A++(P.outs x).reverse++C).reverse (D++ [x])
   have e:(A++(P.outs x).reverse++C).reverse=C.reverse++P.outs x++A.reverse:=by simp
   rw [e];exact h4
  lu:=fun {W D} hr=>h.lu (show P.Row 0 W.reverse D from hr)
  pX:=fun {k W D} hr=>h.pX (show P.Row k W.reverse D from hr)
  pY:=fun {k W D} hr=>h.pY (show P.Row k W.reverse D from hr)
  oq:=by show (P.ins P.src).reverse= [];rw [h.oq];rfl
  lz:=fun x hx=>by
   have h2:P.ins x≠ []:=fun h3=>hx (by show (P.ins x).reverse= [];rw [h3];rfl)
   show (P.outs x).reverse= []↔_
   rw [List.reverse_eq_nil_iff];exact h.lz x h2}
structure MS where
 A:List Int
 B:List Int
 D:List Int
def PS.next (P:PS) (s:MS):MS:=
 match s.B with
 | []=>s
 |e::B=>if P.ins (P.hd e)<:+s.A++ [e] then ⟨(s.A++ [e]).take (s.A.length+1 - (P.ins (P.hd e)).length),P.outs (P.hd e)++B,s.D++ [P.hd e]⟩ else ⟨s.A++ [e],B,s.D⟩
def PS.st (P:PS):Nat→MS
 |0=>⟨[],P.outs P.src, [P.src]⟩
 |j+1=>P.next (P.st j)
def PS.sh (P:PS) (j:Nat):Int:=(P.st j).B.headD 0
def PS.oh (P:PS) (j:Nat):List Int:=(List.range j).map P.sh
variable {P:PS}
theorem PS.qo {j:Nat} :P.oh (j+1)=P.oh j++ [P.sh j]:=by simp [PS.oh,List.range_succ]
theorem PS.pZ {j:Nat} :(P.oh j).length=j:=by simp [PS.oh]
theorem PS.p8 {j:Nat} {e:Int} :e∈P.oh j↔∃i,i<j∧P.sh i=e:=by simp [PS.oh]
structure PS.Inv (P:PS) (j:Nat) (s:MS):Prop where
 row:∃k,P.Row k (s.A++s.B) s.D
 no:∀h,P.ins h≠ []→¬P.ins h<:+:s.A
 nd:(P.oh j).Nodup
 sh:∀e,e∈P.oh j↔P.E e∧(e∈s.A∨P.hd e∈s.D)
 len:j≤P.m
theorem eY:∀ {l m:List Int},l.Nodup→(∀i∈l,i∈m)→l.length≤m.length
 | [],_,_,_=>Nat.zero_le _
 |a::l,m,hn,h=>by
  rw [List.nodup_cons] at hn
  have ha:=h a (List.mem_cons_self ..)
  have:=eY (m:=m.erase a) hn.2 fun i hi=>(List.mem_erase_of_ne (show i≠a from fun e=>hn.1 (by rw [← e];exact hi))).2 (h i (List.mem_cons_of_mem _ hi))
  rw [List.length_erase_of_mem ha] at this
  have:=List.length_pos_of_mem ha
  rw [List.length_cons];omega
theorem ou {l:List Int} {m:Nat} (hall:∀e:Int,0≤e→e<m→e∈l):m≤l.length:=by
 have:=eY (l:=(List.range m).map Int.ofNat) (m:=l) (List.pairwise_map.2 (List.nodup_range.imp fun hab e=>hab (Int.ofNat.inj e))) fun x hx=>by
  obtain ⟨a,ha,rfl⟩:=List.mem_map.1 hx
  have:=List.mem_range.1 ha
  exact hall _ (by simp) (by simp;omega)
 simpa using this
theorem vq {X Y:List Int} (h:X<:+Y):Y=Y.take (Y.length - X.length)++X:=by
 obtain ⟨t,rfl⟩:=h
 simp
theorem PS.Inv.more (h:P.Ok) {j:Nat} {s:MS} (hi:P.Inv j s) (hj:j<P.m):∃e B,s.B=e::B:=by
 cases hB:s.B with
 |cons e B=>exact ⟨e,B,rfl⟩
 |nil=>
  exfalso
  obtain ⟨k,hr⟩:=hi.row
  rw [hB,List.append_nil] at hr
  cases k with
  |succ k=>
   obtain ⟨x,A,C,h1,h2⟩:=h.kJ hr
   exact hi.no x h2 ⟨A,C,h1.symm⟩
  |zero=>
   have hall:∀e,P.E e→e∈P.oh j:=fun e he=>(hi.sh e).2 ⟨he, .inr (h.lu hr e he)⟩
   have:=ou (fun e h1 h2=>hall e ⟨h1,h2⟩)
   rw [PS.pZ] at this
   omega
theorem PS.zB {s:MS} {e:Int} {B:List Int} (hB:s.B=e::B):P.next s=if P.ins (P.hd e)<:+s.A++ [e] then ⟨(s.A++ [e]).take (s.A.length+1 - (P.ins (P.hd e)).length),P.outs (P.hd e)++B,s.D++ [P.hd e]⟩ else ⟨s.A++ [e],B,s.D⟩:=by
 unfold PS.next;rw [hB]
theorem PS.qp (h:P.Ok) {s:MS} {k:Nat} {e:Int} {B:List Int} (hr:P.Row k (s.A++s.B) s.D) (hB:s.B=e::B):
 P.E e∧((∃A',s.A++ [e]=A'++P.ins (P.hd e)∧P.ins (P.hd e)≠ []∧P.next s=⟨A',P.outs (P.hd e)++B,s.D++ [P.hd e]⟩)∨(¬P.ins (P.hd e)<:+s.A++ [e]∧P.next s=⟨s.A++ [e],B,s.D⟩)):=by
 have he:P.E e:=((h.cV hr e).1 (by rw [hB];simp)).1
 refine ⟨he, ?_⟩
 rw [PS.zB hB]
 by_cases hs:P.ins (P.hd e)<:+s.A++ [e]
 ·rw [if_pos hs]
  refine .inl ⟨_, ?_,fun h0=> ?_,rfl⟩
  ·have:=vq hs
   simpa using this
  ·have:=(h.bA (P.hd e) e).2 ⟨he,rfl⟩
   rw [h0] at this;cases this
 ·rw [if_neg hs];exact .inr ⟨hs,rfl⟩
theorem xG {X A:List Int} {e:Int} (h:X<:+:A++ [e]):X<:+:A∨X<:+A++ [e]:=by
 obtain ⟨s,t,ht⟩:=h
 rcases List.eq_nil_or_concat t with rfl|⟨t',a,rfl⟩
 ·rw [List.append_nil] at ht;exact .inr ⟨s,ht⟩
 ·left
  refine ⟨s,t', ?_⟩
  have:s++X++t'++ [a]=A++ [e]:=by rw [← ht];simp
  exact (List.append_inj' this rfl).1
theorem PS.inv (h:P.Ok):∀j,j≤P.m→P.Inv j (P.st j)
 |0,_=>⟨⟨_,h.Dn⟩,fun x hx hs=>hx (by
    have:P.ins x<:+: []:=hs
    simpa using this),by simp [PS.oh],fun e=>(by
     simp only [PS.oh,List.range_zero,List.map_nil,List.not_mem_nil,false_iff]
     rintro ⟨he,h1|h1⟩
     ·cases h1
     ·have h1:P.hd e∈ [P.src]:=h1
      have h2:P.hd e=P.src:=by simpa using h1
      have:=(h.bA P.src e).2 ⟨he,h2⟩
      rw [h.oq] at this;cases this),Nat.zero_le _⟩
 |j+1,hj=>by
  have hi:=PS.inv h j (by omega)
  obtain ⟨e,B,hB⟩:=hi.more h (by omega)
  obtain ⟨k,hr⟩:=hi.row
  have hsh:P.sh j=e:=by unfold PS.sh;rw [hB];rfl
  have Nk:e∈(P.st j).A++(P.st j).B:=by rw [hB];simp
  have hm:=(h.cV hr e).1 Nk
  have bT:=h.kI hr
  have Nl:e∉(P.st j).A:=fun hA=>by
   rw [List.nodup_append] at bT
   exact bT.2.2 e hA e (by rw [hB];simp) rfl
  have hnew:e∉P.oh j:=fun h1=>by
   rcases ((hi.sh e).1 h1).2 with h2|h2
   ·exact Nl h2
   ·exact hm.2.2 h2
  have Gj:(P.oh (j+1)).Nodup:=by
   rw [PS.qo,hsh,List.nodup_append]
   exact ⟨hi.nd,by simp,fun a ha b hb=>by
    rw [List.mem_singleton] at hb
    subst hb
    intro e2;exact hnew (e2 ▸ ha)⟩
  obtain ⟨he,hc⟩:=PS.qp h hr hB
  have hst:P.st (j+1)=P.next (P.st j):=rfl
  rw [hst]
  rcases hc with ⟨A',h1,h2,h3⟩|⟨h1,h3⟩
  ·rw [h3]
   have hrow:(P.st j).A++(P.st j).B=A'++P.ins (P.hd e)++B:=by rw [hB, ← h1];simp
   obtain ⟨k',rfl,hr'⟩:=h.mY hr hrow h2
   refine ⟨⟨k',by simpa using hr'⟩,fun x hx hs=> ?_,Gj,fun f=> ?_,hj⟩
   ·have hs:P.ins x<:+:A':=hs
    have hA:¬P.ins x<:+:(P.st j).A:=hi.no x hx
    obtain ⟨u,v,huv⟩:=hs
    rcases List.eq_nil_or_concat (P.ins (P.hd e)) with h0|⟨I',a,h0⟩
    ·exact h2 h0
    ·rw [h0, ← List.concat_eq_append,List.concat_eq_append] at h1
     have h4:(P.st j).A++ [e]=(A'++I')++ [a]:=by rw [h1];simp
     have h5:=(List.append_inj' h4 rfl).1
     exact hA ⟨u,v++I',by rw [h5, ← huv];simp⟩
   ·rw [PS.qo,hsh,List.mem_append,List.mem_singleton,hi.sh f]
    show _↔P.E f∧(f∈A'∨P.hd f∈(P.st j).D++ [P.hd e])
    constructor
    ·rintro (⟨h4,h5|h5⟩|rfl)
     ·have:f∈A'++P.ins (P.hd e):=by rw [← h1];exact List.mem_append.2 (.inl h5)
      rcases List.mem_append.1 this with h6|h6
      ·exact ⟨h4, .inl h6⟩
      ·exact ⟨h4, .inr (by rw [((h.bA _ _).1 h6).2];simp)⟩
     ·exact ⟨h4, .inr (List.mem_append.2 (.inl h5))⟩
     ·exact ⟨he, .inr (by simp)⟩
    ·rintro ⟨h4,h5|h5⟩
     ·have:f∈(P.st j).A++ [e]:=by rw [h1];exact List.mem_append.2 (.inl h5)
      rcases List.mem_append.1 this with h6|h6
      ·exact .inl ⟨h4, .inl h6⟩
      ·exact .inr (by simpa using h6)
     ·rcases List.mem_append.1 h5 with h6|h6
      ·exact .inl ⟨h4, .inr h6⟩
      ·have h6:P.hd f=P.hd e:=by simpa using h6
       have h7:f∈P.ins (P.hd e):=(h.bA _ _).2 ⟨h4,h6⟩
       have:f∈(P.st j).A++ [e]:=by rw [h1];exact List.mem_append.2 (.inr h7)
       rcases List.mem_append.1 this with h8|h8
       ·exact .inl ⟨h4, .inl h8⟩
       ·exact .inr (by simpa using h8)
  ·rw [h3]
   refine ⟨⟨k,by simpa [hB] using hr⟩,fun x hx hs=> ?_,Gj,fun f=> ?_,hj⟩
   ·rcases xG hs with h4|h4
    ·exact hi.no x hx h4
    ·have hne:e∈P.ins x:=by
      obtain ⟨t,ht⟩:=h4
      rcases List.eq_nil_or_concat (P.ins x) with h0|⟨I',a,h0⟩
      ·exact absurd h0 hx
      ·rw [h0] at ht
       have h5:(t++I')++ [a]=(P.st j).A++ [e]:=by rw [← ht];simp
       have:=(List.append_inj' h5 rfl).2
       rw [h0];simp at this ⊢;exact .inr this.symm
     rw [((h.bA _ _).1 hne).2] at h1
     exact h1 h4
   ·rw [PS.qo,hsh,List.mem_append,List.mem_singleton,hi.sh f]
    show _↔P.E f∧(f∈(P.st j).A++ [e]∨P.hd f∈(P.st j).D)
    rw [List.mem_append,List.mem_singleton]
    constructor
    ·rintro (⟨h4,h5|h5⟩|rfl)
     ·exact ⟨h4, .inl (.inl h5)⟩
     ·exact ⟨h4, .inr h5⟩
     ·exact ⟨he, .inl (.inr rfl)⟩
    ·rintro ⟨h4,(h5|h5)|h5⟩
     ·exact .inl ⟨h4, .inl h5⟩
     ·exact .inr h5
     ·exact .inl ⟨h4, .inr h5⟩
end Go.Ab
end
section
namespace Go.Ab
set_option maxRecDepth 10000
set_option linter.unusedSectionVars false
variable {P:PS}
structure PS.gA (P:PS) (L R:Int→Int) (f0 f1:Int) (low:Int→Int):Prop where
 ne:f0≠f1
 fX:∀ {x u a b v},P.outs x=u++a::b::v→R a=L b
 mu:∀ {x u a b v},P.ins x=u++a::b::v→R a=L b
 fst:∀ {x a u b v},P.ins x=a::u→P.outs x=b::v→L a=L b
 zC:∀ {x a u b v},P.ins x=u++ [a]→P.outs x=v++ [b]→R a=R b
 s0:∀ {b v},P.outs P.src=b::v→L b=f0
 s1:∀ {b v},P.outs P.src=v++ [b]→R b=f1
 new:∀ {x u a b v},P.outs x=u++a::b::v→low (R a)=x∧R a≠f0∧R a≠f1
 new1:∀ {x u a b v u' a' b' v'},P.outs x=u++a::b::v→P.outs x=u'++a'::b'::v'→R a=R a'→a=a'
theorem A5 {l u v u' v':List Int} {a:Int} (hn:l.Nodup) (h1:l=u++a::v) (h2:l=u'++a::v'):u=u'∧v=v':=by
 induction u generalizing l u' with
 |nil=>
  cases u' with
  |nil=>rw [h1] at h2;simpa using h2
  |cons b u'=>
   rw [h1] at h2
   simp only [List.nil_append,List.cons_append,List.cons.injEq] at h2
   rw [h1,h2.2] at hn
   simp at hn
 |cons b u ih=>
  cases u' with
  |nil=>
   rw [h2] at h1
   simp only [List.nil_append,List.cons_append,List.cons.injEq] at h1
   rw [h2,h1.2] at hn
   simp at hn
  |cons b' u'=>
   have h3:=h1.symm.trans h2
   simp only [List.cons_append,List.cons.injEq] at h3
   rw [h1,List.cons_append,List.nodup_cons] at hn
   obtain ⟨h4,h5⟩:=ih hn.2 rfl h3.2
   exact ⟨by rw [h3.1,h4],h5⟩
theorem gP {l u v:List Int} {a b:Int} (h:l.reverse=u++a::b::v):l=v.reverse++b::a::u.reverse:=by
 have:=congrArg List.reverse h
 simpa using this
theorem PS.gA.sV (h:P.Ok) {L R:Int→Int} {f0 f1:Int} {low:Int→Int} (F:P.gA L R f0 f1 low):P.sV.gA R L f1 f0 low:=
 {ne:=F.ne.symm
  fX:=fun {x u a b v} h=>(F.fX (gP (show (P.outs x).reverse=_ from h))).symm
  mu:=fun {x u a b v} h=>(F.mu (gP (show (P.ins x).reverse=_ from h))).symm
  fst:=fun {x a u b v} h1 h2=>F.zC (x:=x) (u:=u.reverse) (v:=v.reverse) (by
     have:=congrArg List.reverse (show (P.ins x).reverse=_ from h1);simpa using this) (by
     have:=congrArg List.reverse (show (P.outs x).reverse=_ from h2);simpa using this)
  zC:=fun {x a u b v} h1 h2=>F.fst (x:=x) (u:=u.reverse) (v:=v.reverse) (by
    have:=congrArg List.reverse (show (P.ins x).reverse=_ from h1);simpa using this) (by
    have:=congrArg List.reverse (show (P.outs x).reverse=_ from h2);simpa using this)
  s0:=fun {b v} h1=>F.s1 (v:=v.reverse) (by
     have:=congrArg List.reverse (show (P.outs P.src).reverse=_ from h1);simpa using this)
  s1:=fun {b v} h1=>F.s0 (v:=v.reverse) (by
     have:=congrArg List.reverse (show (P.outs P.src).reverse=_ from h1);simpa using this)
  new:=fun {x u a b v} h1=>by
   have h2:=gP (show (P.outs x).reverse=_ from h1)
   obtain ⟨h3,h4,h5⟩:=F.new h2
   have h6:=F.fX h2
   rw [← h6];exact ⟨h3,h5,h4⟩
  new1:=fun {x u a b v u' a' b' v'} h1 h2 h3=>by
   have g1:=gP (show (P.outs x).reverse=_ from h1)
   have g2:=gP (show (P.outs x).reverse=_ from h2)
   rw [← F.fX g1, ← F.fX g2] at h3
   have h4:=F.new1 g1 g2 h3
   subst h4
   have:=(A5 (h.mX x) g1 g2).2
   simp only [List.cons.injEq] at this
   exact this.1}
def fI (L R:Int→Int):Int→List Int→Prop
 |_, []=>True
 |f,a::W=>L a=f∧fI L R (R a) W
def gH (R:Int→Int):Int→List Int→Int
 |f, []=>f
 |_,a::W=>gH R (R a) W
theorem bP {L R:Int→Int} :∀ {A B:List Int} {f:Int},fI L R f (A++B)↔fI L R f A∧fI L R (gH R f A) B
 | [],B,f=>by simp [fI,gH]
 |a::A,B,f=>by simp [fI,gH,bP,and_assoc]
theorem ck {R:Int→Int} :∀ {A B:List Int} {f:Int},gH R f (A++B)=gH R (gH R f A) B
 | [],B,f=>rfl
 |a::A,B,f=>by simp [gH,ck]
theorem cy {R:Int→Int} {A:List Int} {a f:Int} :gH R f (A++ [a])=R a:=by rw [ck];rfl
theorem mZ {L R:Int→Int} :∀ {X:List Int} {f:Int},(∀u a b v,X=u++a::b::v→R a=L b)→(∀a u,X=a::u→L a=f)→fI L R f X
 | [],f,_,_=>trivial
 |a::X,f,h,h1=>⟨h1 a X rfl,mZ (fun u b c v e=>h (a::u) b c v (by rw [e];rfl)) fun b v e=>(h [] a b v (by rw [e];rfl)).symm⟩
theorem A6 {L R:Int→Int} {f:Int} {u v:List Int} {a b:Int} (h:fI L R f (u++a::b::v)):R a=L b:=by
 have:=(bP.1 h).2
 exact this.2.1.symm
theorem bV {l:List Int} (h:l≠ []):∃u a,l=u++ [a]:=by
 rcases List.eq_nil_or_concat l with h1|⟨u,a,h1⟩
 ·exact absurd h1 h
 ·exact ⟨u,a,by rw [h1,List.concat_eq_append]⟩
theorem gI {l:List Int} (h:l≠ []):∃a u,l=a::u:=by
 cases l with
 |nil=>exact absurd rfl h
 |cons a u=>exact ⟨a,u,rfl⟩
structure vr (L R:Int→Int) (f0 f1:Int) (low:Int→Int) (W D:List Int):Prop where
 lk:fI L R f0 W
 en:gH R f0 W=f1
 nd:(W.map R).Nodup
 lo:∀a∈W,R a≠f0∧(R a=f1∨(R a≠f1∧low (R a)∈D))
theorem zD {X U V Y:List Int} {r:Int} (h:(X++(U++ [r])++Y).Nodup) (hV:V.Nodup) (hd:∀z∈V,z∉X∧z≠r∧z∉Y):(X++(V++ [r])++Y).Nodup:=by
 have h1:(X++ [r]++Y).Nodup:=by
  refine List.Nodup.sublist ?_ h
  refine List.Sublist.append (List.Sublist.append (List.Sublist.refl _) ?_) (List.Sublist.refl _)
  exact List.sublist_append_right ..
 have h2:(V++(X++ [r]++Y)).Nodup:=by
  rw [List.nodup_append]
  refine ⟨hV,h1,fun a ha b hb e=> ?_⟩
  subst e
  obtain ⟨g1,g2,g3⟩:=hd a ha
  simp only [List.mem_append,List.mem_singleton] at hb
  rcases hb with (hb|hb)|hb
  ·exact g1 hb
  ·exact g2 hb
  ·exact g3 hb
 refine (List.Perm.nodup_iff ?_).1 h2
 have:X++(V++ [r])++Y=(X++V)++([r]++Y):=by simp
 rw [this]
 have:V++(X++ [r]++Y)=(V++X)++([r]++Y):=by simp
 rw [this]
 exact List.Perm.append_right _ List.perm_append_comm
theorem lV {R:Int→Int} :∀ {l:List Int},l.Nodup→(∀a∈l,∀b∈l,R a=R b→a=b)→(l.map R).Nodup
 | [],_,_=>by simp
 |a::l,hn,h=>by
  rw [List.nodup_cons] at hn
  rw [List.map_cons,List.nodup_cons]
  refine ⟨fun hm=> ?_,lV hn.2 fun x hx y hy=>h x (List.mem_cons_of_mem _ hx) y (List.mem_cons_of_mem _ hy)⟩
  obtain ⟨b,hb,e⟩:=List.mem_map.1 hm
  have:=h b (List.mem_cons_of_mem _ hb) a (List.mem_cons_self ..) e
  exact hn.1 (this ▸ hb)
section
variable (h:P.Ok) {L R:Int→Int} {f0 f1:Int} {low:Int→Int} (F:P.gA L R f0 f1 low)
include h F
theorem mw {v:List Int} {b:Int} {x:Int} (hv:P.outs x=v++ [b]) {a:Int} (ha:a∈v):∃u c w,P.outs x=u++a::c::w:=by
 obtain ⟨s,t,rfl⟩:=List.append_of_mem ha
 cases t with
 |nil=>exact ⟨s,b, [],by rw [hv];simp⟩
 |cons c t=>exact ⟨s,c,t++ [b],by rw [hv];simp⟩
theorem sW {x f:Int} (hf:∀b v,P.outs x=b::v→L b=f):fI L R f (P.outs x):=mZ (fun u a b v e=>F.fX e) fun a u e=>hf a u e
theorem A7 {x f:Int} (hf:∀b v,P.ins x=b::v→L b=f):fI L R f (P.ins x):=mZ (fun u a b v e=>F.mu e) fun a u e=>hf a u e
theorem yx {x:Int} {v:List Int} {b:Int} (hv:P.outs x=v++ [b]):(v.map R).Nodup∧∀z∈v.map R,low z=x∧z≠f0∧z≠f1:=by
 have hn:=h.mX x
 rw [hv,List.nodup_append] at hn
 refine ⟨lV hn.1 fun a ha a' A8 e=> ?_,fun z hz=> ?_⟩
 ·obtain ⟨u,c,w,h1⟩:=mw h F hv ha
  obtain ⟨u',c',w',h2⟩:=mw h F hv A8
  exact F.new1 h1 h2 e
 ·obtain ⟨a,ha,rfl⟩:=List.mem_map.1 hz
  obtain ⟨u,c,w,h1⟩:=mw h F hv ha
  exact F.new h1
theorem vr.start (hne:P.outs P.src≠ []):vr L R f0 f1 low (P.outs P.src) [P.src]:=by
 obtain ⟨v,b,hv⟩:=bV hne
 obtain ⟨n1,n2⟩:=yx h F hv
 have hb:=F.s1 hv
 refine ⟨sW h F fun b v e=>F.s0 e,by rw [hv,cy,hb], ?_,fun a ha=> ?_⟩
 ·rw [hv,List.map_append,List.nodup_append]
  refine ⟨n1,by simp,fun z hz y hy e=> ?_⟩
  simp only [List.map_cons,List.map_nil,List.mem_singleton] at hy
  exact (n2 z hz).2.2 (by rw [e,hy,hb])
 ·rw [hv,List.mem_append,List.mem_singleton] at ha
  rcases ha with ha|rfl
  ·obtain ⟨g1,g2,g3⟩:=n2 (R a) (List.mem_map_of_mem ha)
   exact ⟨g2, .inr ⟨g3,by rw [g1];simp⟩⟩
  ·exact ⟨by rw [hb];exact F.ne.symm, .inl hb⟩
theorem vr.step {A C D:List Int} {x:Int} (hi:vr L R f0 f1 low (A++P.ins x++C) D) (hI:P.ins x≠ []) (hO:P.outs x≠ []) (hx:x∉D):vr L R f0 f1 low (A++P.outs x++C) (D++ [x]):=by
 obtain ⟨u,a,hu⟩:=bV hI
 obtain ⟨v,b,hv⟩:=bV hO
 obtain ⟨a0,u0,Dp⟩:=gI hI
 obtain ⟨b0,v0,qq⟩:=gI hO
 have hab:=F.zC hu hv
 have h0:=F.fst Dp qq
 obtain ⟨l1,l2⟩:=bP.1 hi.lk
 obtain ⟨l3,l4⟩:=bP.1 l1
 have Mw:∀f,gH R f (P.ins x)=R a:=fun f=>by rw [hu,cy]
 have Mx:∀f,gH R f (P.outs x)=R b:=fun f=>by rw [hv,cy]
 have hL:L a0=gH R f0 A:=by rw [Dp] at l4;exact l4.1
 obtain ⟨n1,n2⟩:=yx h F hv
 have bT:=hi.nd
 have hlo:=hi.lo
 refine ⟨?_, ?_, ?_,fun c hc=> ?_⟩
 ·rw [bP,bP]
  refine ⟨⟨l3,sW h F fun b' v' e=> ?_⟩, ?_⟩
  ·rw [qq] at e
   simp only [List.cons.injEq] at e
   rw [← e.1, ← h0,hL]
  ·rw [ck,Mx]
   rw [ck,Mw] at l2
   rw [← hab];exact l2
 ·have:=hi.en
  rw [ck,ck,Mw] at this
  rw [ck,ck,Mx, ← hab];exact this
 ·rw [List.map_append,List.map_append,hv,List.map_append]
  rw [List.map_append,List.map_append,hu,List.map_append] at bT
  simp only [List.map_cons,List.map_nil] at bT ⊢
  rw [← hab]
  have hold:∀c∈A++P.ins x++C,R c∉v.map R:=fun c hc hz=>by
   obtain ⟨g1,g2,g3⟩:=n2 _ hz
   rcases (hlo c hc).2 with h1|⟨_,h1⟩
   ·exact g3 h1
   ·rw [g1] at h1;exact hx h1
  refine zD bT n1 fun z hz=>⟨fun AR=> ?_,fun AR=> ?_,fun AR=> ?_⟩
  ·obtain ⟨c,hc,rfl⟩:=List.mem_map.1 AR
   exact hold c (by simp [hc]) hz
  ·exact hold a (by rw [hu];simp) (AR ▸ hz)
  ·obtain ⟨c,hc,rfl⟩:=List.mem_map.1 AR
   exact hold c (by simp [hc]) hz
 ·have hold:∀c∈A++P.ins x++C,R c≠f0∧(R c=f1∨(R c≠f1∧low (R c)∈D++ [x])):=fun c hc=>by
   obtain ⟨g1,g2⟩:=hlo c hc
   exact ⟨g1,g2.imp id fun ⟨g3,g4⟩=>⟨g3,List.mem_append.2 (.inl g4)⟩⟩
  simp only [List.mem_append] at hc
  rcases hc with (hc|hc)|hc
  ·exact hold c (by simp [hc])
  ·rw [hv,List.mem_append,List.mem_singleton] at hc
   rcases hc with hc|rfl
   ·obtain ⟨g1,g2,g3⟩:=n2 (R c) (List.mem_map_of_mem hc)
    exact ⟨g2, .inr ⟨g3,by rw [g1];simp⟩⟩
   ·have:=hold a (by rw [hu];simp)
    rw [hab] at this;exact this
  ·exact hold c (by simp [hc])
end
end Go.Ab
end
section
namespace Go.Ab
set_option maxRecDepth 10000
set_option linter.unusedSectionVars false
variable {P:PS}
inductive PS.sX (P:PS) (x:Int):Int→Prop
 |refl:P.sX x x
 |step {e:Int} :P.sX x (P.tl e)→P.E e→P.sX x (P.hd e)
theorem PS.sX.trans {x y z:Int} (h1:P.sX x y) (h2:P.sX y z):P.sX x z:=by
 induction h2 with
 |refl=>exact h1
 |step _ he ih=>exact .step ih he
inductive PS.Lp (P:PS) (L R:Int→Int) (F:Int):Int→Prop
 |refl:P.Lp L R F F
 |step {e:Int} :P.Lp L R F (L e)→P.E e→P.Lp L R F (R e)
theorem PS.Lp.trans {L R:Int→Int} {x y z:Int} (h1:P.Lp L R x y) (h2:P.Lp L R y z):P.Lp L R x z:=by
 induction h2 with
 |refl=>exact h1
 |step _ he ih=>exact .step ih he
theorem PS.Lp.head {L R:Int→Int} {e z:Int} (he:P.E e) (h2:P.Lp L R (R e) z):P.Lp L R (L e) z:=(PS.Lp.step .refl he).trans h2
theorem PS.Lp.sV {L R:Int→Int} {x y:Int} (h1:P.Lp L R x y):P.sV.Lp R L y x:=by
 induction h1 with
 |refl=>exact .refl
 | @step e h1 he ih=>exact PS.Lp.head (P:=P.sV) (L:=R) (R:=L) (e:=e) he ih
theorem PS.sX.sV {x y:Int} (h1:P.sX x y):P.sV.sX x y:=by
 induction h1 with
 |refl=>exact .refl
 |step h1 he ih=>exact PS.sX.step (P:=P.sV) ih he
section
variable (h:P.Ok)
include h
theorem mz {j:Nat} (hj:j≤P.m):∃k,P.Row k ((P.st j).A++(P.st j).B) (P.st j).D:=(P.inv h j hj).row
theorem fz {j:Nat} (hj:j<P.m):∃B,(P.st j).B=P.sh j::B:=by
 obtain ⟨e,B,hB⟩:=(P.inv h j (by omega)).more h hj
 refine ⟨B, ?_⟩
 have:P.sh j=e:=by unfold PS.sh;rw [hB];rfl
 rw [this,hB]
theorem m9 {j:Nat} (hj:j<P.m):P.E (P.sh j):=by
 obtain ⟨B,hB⟩:=fz h hj
 obtain ⟨k,hr⟩:=mz h (Nat.le_of_lt hj)
 exact ((h.cV hr _).1 (by rw [hB];simp)).1
theorem ua {i j:Nat} (hi:i<P.m) (hj:j<P.m) (e:P.sh i=P.sh j):i=j:=by
 have hn:=(P.inv h P.m (Nat.le_refl _)).nd
 have hl:=PS.pZ (P:=P) (j:=P.m)
 have gi:(P.oh P.m)[i]'(by omega)=P.sh i:=by simp [PS.oh]
 have gj:(P.oh P.m)[j]'(by omega)=P.sh j:=by simp [PS.oh]
 exact (List.getElem_inj hn).1 (by rw [gi,gj,e])
theorem cW {e:Int} (he:P.E e):∃j,j<P.m∧P.sh j=e:=by
 have hi:=P.inv h P.m (Nat.le_refl _)
 refine Decidable.byContradiction fun hne=> ?_
 have hne:e∉P.oh P.m:=fun hm=>hne (PS.p8.1 hm)
 have bT:(e::P.oh P.m).Nodup:=List.nodup_cons.2 ⟨hne,hi.nd⟩
 have:=eY (m:=(List.range P.m).map Int.ofNat) bT fun x hx=>by
  have hE:P.E x:=by
   rcases List.mem_cons.1 hx with rfl|hx
   ·exact he
   ·exact ((hi.sh x).1 hx).1
  have h1:=hE.1;have h2:=hE.2
  exact List.mem_map.2 ⟨x.toNat,List.mem_range.2 (by omega),by simp;omega⟩
 simp [PS.pZ] at this
 omega
theorem iF {i j:Nat} (hi:i<P.m) (hj:j≤P.m):P.sh i∈P.oh j↔i<j:=by
 rw [PS.p8]
 constructor
 ·rintro ⟨i',h1,h2⟩
  have:=ua h (by omega) hi h2
  omega
 ·exact fun h1=>⟨i,h1,rfl⟩
theorem xH:(P.st P.m).A= []:=by
 have hi:=P.inv h P.m (Nat.le_refl _)
 obtain ⟨k,hr⟩:=hi.row
 have hB:(P.st P.m).B= []:=by
  cases hB:(P.st P.m).B with
  |nil=>rfl
  |cons e B=>
   exfalso
   have hm:=(h.cV hr e).1 (by rw [hB];simp)
   obtain ⟨j,hj,e2⟩:=cW h hm.1
   have h1:e∈P.oh P.m:=PS.p8.2 ⟨j,hj,e2⟩
   have bT:=h.kI hr
   rw [List.nodup_append] at bT
   rcases ((hi.sh e).1 h1).2 with h2|h2
   ·exact bT.2.2 e h2 e (by rw [hB];simp) rfl
   ·exact hm.2.2 h2
 rw [hB,List.append_nil] at hr
 cases k with
 |succ k=>
  obtain ⟨x,A,C,h1,h2⟩:=h.kJ hr
  exact absurd ⟨A,C,h1.symm⟩ (hi.no x h2)
 |zero=>
  cases hA:(P.st P.m).A with
  |nil=>rfl
  |cons e A=>
   have hm:=(h.cV hr e).1 (by rw [hA];simp)
   exact absurd (h.lu hr e hm.1) hm.2.2
theorem lB {j:Nat} (hj:j<P.m):∃B,(P.st j).B=P.sh j::B∧((∃A',(P.st j).A++ [P.sh j]=A'++P.ins (P.hd (P.sh j))∧P.ins (P.hd (P.sh j))≠ []∧P.st (j+1)=⟨A',P.outs (P.hd (P.sh j))++B,(P.st j).D++ [P.hd (P.sh j)]⟩)∨
 (¬P.ins (P.hd (P.sh j))<:+(P.st j).A++ [P.sh j]∧P.st (j+1)=⟨(P.st j).A++ [P.sh j],B,(P.st j).D⟩)):=by
 obtain ⟨B,hB⟩:=fz h hj
 obtain ⟨k,hr⟩:=mz h (Nat.le_of_lt hj)
 exact ⟨B,hB,(PS.qp h hr hB).2⟩
theorem JY {j:Nat} (hj:j<P.m):P.sh j∉(P.st j).A:=by
 obtain ⟨B,hB⟩:=fz h hj
 obtain ⟨k,hr⟩:=mz h (Nat.le_of_lt hj)
 have bT:=h.kI hr
 rw [List.nodup_append] at bT
 exact fun hA=>bT.2.2 _ hA _ (by rw [hB];simp) rfl
theorem vt:∀ {d j:Nat},j+d=P.m→∀t∈(P.st j).A,∀u,P.ins (P.hd t)≠u++ [t]
 |0,j,hj,t,ht,u=>by
  obtain rfl:j=P.m:=by omega
  rw [xH h] at ht;cases ht
 |d+1,j,hj,t,ht,u=>by
  have ih:=vt (d:=d) (j:=j+1) (by omega)
  have hjm:j<P.m:=by omega
  obtain ⟨B,hB,hc⟩:=lB h hjm
  have hne:=JY h hjm
  rcases hc with ⟨A',h1,h2,h3⟩|⟨h1,h3⟩
  ·have Db:t∈A'++P.ins (P.hd (P.sh j)):=by rw [← h1];simp [ht]
   rcases List.mem_append.1 Db with h4|h4
   ·exact ih t (by rw [h3];exact h4) u
   ·intro hu
    rw [((h.bA _ _).1 h4).2] at hu
    rw [hu, ← List.append_assoc] at h1
    have:=(List.append_inj' h1 rfl).2
    simp only [List.cons.injEq,and_true] at this
    exact hne (this ▸ ht)
  ·exact ih t (by rw [h3];simp [ht]) u
theorem qs {e:Int} (he:P.E e) {j:Nat} (hj:j<P.m) (hh:P.hd e=P.tl (P.sh j)):e∈P.oh j:=by
 have hi:=P.inv h j (by omega)
 obtain ⟨B,hB⟩:=fz h hj
 obtain ⟨k,hr⟩:=hi.row
 have hm:=(h.cV hr (P.sh j)).1 (by rw [hB];simp)
 exact (hi.sh e).2 ⟨he, .inr (hh ▸ hm.2.1)⟩
theorem Dq {i j:Nat} (hi:i<P.m) (hj:j<P.m) (hR:P.sX (P.hd (P.sh i)) (P.tl (P.sh j))):i<j:=by
 have key:∀y,P.sX (P.hd (P.sh i)) y→∀j,j<P.m→P.tl (P.sh j)=y→i<j:=by
  intro y hy
  induction hy with
  |refl=>
   intro j hj e
   exact (iF h hi (by omega)).1 (qs h (m9 h hi) hj e.symm)
  | @step f _ hf ih=>
    intro j hj e
    obtain ⟨k,hk,rfl⟩:=cW h hf
    have h1:=ih k hk rfl
    have h2:=(iF h hk (by omega)).1 (qs h hf hj e.symm)
    omega
 exact key _ hR j hj rfl
theorem uc {j:Nat} (hj:j<P.m):P.ES∉(P.st j).D:=fun hs=>by
 have hi:=P.inv h j (by omega)
 obtain ⟨k,hr⟩:=hi.row
 have:=h.pY hr hs
 subst this
 have:=ou (l:=P.oh j) (m:=P.m) fun e h1 h2=>(hi.sh e).2 ⟨⟨h1,h2⟩, .inr (h.lu hr e ⟨h1,h2⟩)⟩
 rw [PS.pZ] at this
 omega
variable {L R:Int→Int} {f0 f1:Int} {low:Int→Int} (F:P.gA L R f0 f1 low)
include F
theorem iZ:∀ {j:Nat},j<P.m→vr L R f0 f1 low ((P.st j).A++(P.st j).B) (P.st j).D
 |0,hj=>by
  obtain ⟨B,hB⟩:=fz h hj
  have hB:P.outs P.src=P.sh 0::B:=hB
  exact vr.start h F (by rw [hB];simp)
 |j+1,hj=>by
  have ih:=iZ (j:=j) (by omega)
  obtain ⟨B,hB,hc⟩:=lB h (show j<P.m by omega)
  obtain ⟨k,hr⟩:=mz h (show j≤P.m by omega)
  rcases hc with ⟨A',h1,h2,h3⟩|⟨h1,h3⟩
  ·have hs:=uc h hj
   rw [h3] at hs ⊢
   have hx:P.hd (P.sh j)≠P.ES:=fun e=>hs (by simp [e])
   have hO:P.outs (P.hd (P.sh j))≠ []:=fun e=>hx ((h.lz _ h2).1 e)
   have hm:=(h.cV hr (P.sh j)).1 (by rw [hB];simp)
   have hW:(P.st j).A++(P.st j).B=A'++P.ins (P.hd (P.sh j))++B:=by rw [hB, ← h1];simp
   rw [hW] at ih
   have:=vr.step h F ih h2 hO hm.2.2
   simpa using this
  ·rw [h3]
   have hW:(P.st j).A++(P.st j).B=(P.st j).A++ [P.sh j]++B:=by rw [hB];simp
   rw [hW] at ih
   exact ih
theorem yy {j:Nat} (hj:j<P.m) {a b:Int} (ha:a∈(P.st j).A++(P.st j).B) (hb:b∈(P.st j).A++(P.st j).B) (e:R a=R b):a=b:=by
 have hn:=(iZ h F hj).nd
 obtain ⟨i,hi,rfl⟩:=List.mem_iff_getElem.1 ha
 obtain ⟨k,hk,rfl⟩:=List.mem_iff_getElem.1 hb
 have:=(List.getElem_inj (i:=i) (j:=k) (h₀:=by simpa using hi) (h₁:=by simpa using hk) hn).1 (by rw [List.getElem_map,List.getElem_map];exact e)
 subst this;rfl
theorem mA {j:Nat} (hj:j<P.m):∀ {d:Nat} {e:Int},P.mW (P.tl e)<d→P.E e→R e=L (P.sh j)→e∈P.oh j
 |0,e,hd,_,_=>by omega
 |d+1,e,hd,he,hR=>by
  refine Decidable.byContradiction fun hne=> ?_
  have hi:=P.inv h j (by omega)
  have hF:=iZ h F hj
  obtain ⟨B,hB⟩:=fz h hj
  obtain ⟨k,hr⟩:=hi.row
  have Gk:¬(e∈(P.st j).A∨P.hd e∈(P.st j).D):=fun h1=>hne ((hi.sh e).2 ⟨he,h1⟩)
  have hlk:=hF.lk
  rw [bP,hB] at hlk
  have Eo:L (P.sh j)=gH R f0 (P.st j).A:=hlk.2.1
  rcases List.eq_nil_or_concat (P.st j).A with hA|⟨A',t,hA⟩
  ·
   have Eo:L (P.sh j)=f0:=by rw [Eo,hA];rfl
   have Nm:R e≠f0:=by
    obtain ⟨i,hi2,e2⟩:=cW h he
    obtain ⟨B2,xI⟩:=fz h hi2
    have:=((iZ h F hi2).lo (P.sh i) (by rw [xI];simp)).1
    rw [e2] at this;exact this
   exact Nm (hR.trans Eo)
  ·rw [List.concat_eq_append] at hA
   have Eo:L (P.sh j)=R t:=by rw [Eo,hA,cy]
   have JA:t∈(P.st j).A:=by rw [hA];simp
   have ow:t∈(P.st j).A++(P.st j).B:=List.mem_append.2 (.inl JA)
   have JZ:R e=R t:=hR.trans Eo
   by_cases hc:P.tl e∈(P.st j).D
   ·have Nn:=(h.cV hr e).2 ⟨he,hc,fun h1=>Gk (.inr h1)⟩
    have:=yy h F hj Nn ow JZ
    exact Gk (.inl (this ▸ JA))
   ·have hem:e∈P.outs (P.tl e):=(h.cj _ _).2 ⟨he,rfl⟩
    obtain ⟨s,w,hs⟩:=List.append_of_mem hem
    have Gl:R t≠f1:=fun h1=>by
     have h2:=hF.en
     rw [hB,ck] at h2
     obtain ⟨V,b,My⟩:=bV (l:=P.sh j::B) (by simp)
     rw [My,cy] at h2
     have Mz:b∈(P.st j).B:=by rw [hB,My];simp
     have h3:=yy h F hj ow (List.mem_append.2 (.inr Mz)) (h1.trans h2.symm)
     have bT:=h.kI hr
     rw [List.nodup_append] at bT
     exact bT.2.2 t JA b Mz h3
    cases w with
    |cons b w=>
     obtain ⟨g1,g2,g3⟩:=F.new hs
     have h4:=(hF.lo t ow).2
     rw [← JZ] at h4 Gl
     rcases h4 with h4|⟨_,h4⟩
     ·exact Gl h4
     ·rw [g1] at h4;exact hc h4
    |nil=>
     have hI:P.ins (P.tl e)≠ []:=fun h0=>by
      have h5:P.tl e≠P.src:=fun h6=>hc (h6 ▸ h.pX hr)
      obtain ⟨i,hi2,e2⟩:=cW h he
      obtain ⟨k2,vo⟩:=mz h (show i≤P.m by omega)
      obtain ⟨B2,xI⟩:=fz h hi2
      have hm2:=(h.cV vo (P.sh i)).1 (by rw [xI];simp)
      have:∀i,i≤P.m→∀x∈(P.st i).D,x=P.src∨P.ins x≠ []:=by
       intro i
       induction i with
       |zero=>intro _ x hx;exact .inl (by simpa [PS.st] using hx)
       |succ i ih=>
        intro O7 x hx
        obtain ⟨B3,O8,Ep⟩:=lB h (show i<P.m by omega)
        rcases Ep with ⟨A3,k1,k2,k3⟩|⟨k1,k3⟩
        ·rw [k3] at hx
         rcases List.mem_append.1 hx with hx|hx
         ·exact ih (by omega) x hx
         ·rw [List.mem_singleton] at hx
          exact .inr (hx ▸ k2)
        ·rw [k3] at hx;exact ih (by omega) x hx
      rcases this i (by omega) _ hm2.2.1 with h6|h6
      ·rw [e2] at h6;exact h5 h6
      ·rw [e2] at h6;exact h6 h0
     obtain ⟨u,a,hu⟩:=bV hI
     have Gm:=(h.bA (P.tl e) a).1 (by rw [hu];simp)
     have Gn:R a=R e:=F.zC hu hs
     have hp:=h.gW a Gm.1
     rw [Gm.2] at hp
     have hin:=mA (d:=d) (e:=a) hj (by omega) Gm.1 (Gn.trans hR)
     rcases ((hi.sh a).1 hin).2 with h7|h7
     ·have h8:=yy h F hj (List.mem_append.2 (.inl h7)) ow (Gn.trans JZ)
      subst h8
      exact vt h (d:=P.m - j) (by omega) a JA u (by rw [Gm.2];exact hu)
     ·rw [Gm.2] at h7;exact hc h7
theorem zE {i j:Nat} (hi:i<P.m) (hj:j<P.m) (hR:P.Lp L R (R (P.sh i)) (L (P.sh j))):i<j:=by
 have key:∀y,P.Lp L R (R (P.sh i)) y→∀j,j<P.m→L (P.sh j)=y→i<j:=by
  intro y hy
  induction hy with
  |refl=>
   intro j hj e
   exact (iF h hi (by omega)).1 (mA h F hj (d:=P.mW (P.tl (P.sh i))+1) (by omega) (m9 h hi) e.symm)
  | @step f _ hf ih=>
    intro j hj e
    obtain ⟨k,hk,rfl⟩:=cW h hf
    have h1:=ih k hk rfl
    have h2:=(iF h hk (by omega)).1 (mA h F hj (d:=P.mW (P.tl (P.sh k))+1) (by omega) hf e.symm)
    omega
 exact key _ hR j hj rfl
end
end Go.Ab
end
section
namespace Go.Ab
set_option maxRecDepth 10000
set_option linter.unusedSectionVars false
variable {P:PS}
theorem ud {L R:Int→Int} :∀ {A:List Int} {f:Int},(∀a∈A,P.E a)→fI L R f A→P.Lp L R f (gH R f A)
 | [],_,_,_=> .refl
 |a::A,f,hE,⟨h1,h2⟩=>by
  have:=ud (A:=A) (f:=R a) (fun b hb=>hE b (List.mem_cons_of_mem _ hb)) h2
  rw [← h1]
  exact PS.Lp.head (hE a (List.mem_cons_self ..)) this
section
variable (h:P.Ok) {L R:Int→Int} {f0 f1:Int} {low:Int→Int} (F:P.gA L R f0 f1 low)
include h F
theorem ET {x:Int} {u v v':List Int} {e a:Int} (hu:P.ins x=u++e::v) (ha:P.ins x=v'++ [a]):P.Lp L R (R e) (R a):=by
 have hl:fI L R (L ((P.ins x).headD 0)) (P.ins x):=by
  cases hI:P.ins x with
  |nil=>trivial
  |cons b w=>rw [← hI];exact A7 h F fun b' w' e'=>by rw [hI];rw [hI] at e';simp only [List.cons.injEq] at e';simp [e'.1]
 rw [hu,show u++e::v=(u++ [e])++v by simp,bP,cy] at hl
 have h2:=ud (P:=P) (fun b hb=>((h.bA x b).1 (by rw [hu];simp [hb])).1) hl.2
 have h3:gH R (R e) v=R a:=by
  have e1:gH R 0 (P.ins x)=R a:=by rw [ha,cy]
  rw [hu,show u++e::v=(u++ [e])++v by simp,ck,cy] at e1
  exact e1
 rw [h3] at h2;exact h2
theorem ox {x:Int} (hx:x≠P.src):∀ {j:Nat},j≤P.m→x∈(P.st j).D→∃i B,i<j∧x∉(P.st i).D∧P.hd (P.sh i)=x∧(∃u,P.ins x=u++ [P.sh i])∧(∀e∈P.ins x,e∈P.oh (i+1))∧(P.st (i+1)).B=P.outs x++B∧(P.st i).B=P.sh i::B
 |0,_,hm=>by
  have:x∈ [P.src]:=hm
  simp at this;exact absurd this hx
 |j+1,hj,hm=>by
  by_cases hp:x∈(P.st j).D
  ·obtain ⟨i,B,h1,h2⟩:=ox hx (by omega) hp
   exact ⟨i,B,by omega,h2⟩
  ·obtain ⟨B,hB,hc⟩:=lB h (show j<P.m by omega)
   rcases hc with ⟨A',h1,h2,h3⟩|⟨h1,h3⟩
   ·rw [h3] at hm
    rcases List.mem_append.1 hm with hm|hm
    ·exact absurd hm hp
    ·rw [List.mem_singleton] at hm
     subst hm
     refine ⟨j,B,by omega,hp,rfl, ?_,fun e he=> ?_,by rw [h3],hB⟩
     ·obtain ⟨u,a,hu⟩:=bV h2
      rw [hu, ← List.append_assoc] at h1
      have:=(List.append_inj' h1 rfl).2
      simp only [List.cons.injEq,and_true] at this
      exact ⟨u,by rw [hu,this]⟩
     ·refine ((P.inv h (j+1) hj).sh e).2 ⟨((h.bA _ _).1 he).1, .inr ?_⟩
      rw [h3,((h.bA _ _).1 he).2];simp
   ·rw [h3] at hm;exact absurd hm hp
theorem vu {x a:Int} {i k:Nat} (hk:k<P.m) (hik:i<k) {v B:List Int} (hB:(P.st (i+1)).B=v++a::B) (hv:∀e∈v,P.tl e=x) (ha:P.tl a=x) (hka:P.sh k=a):
 ∀ {t:Nat},i+1≤t→t≤k→∃Z,(P.st t).B=Z++a::B∧∀z∈Z,P.sX x (P.tl z)
 |0,h1,_=>by omega
 |t+1,h1,h2=>by
  by_cases om:t=i
  ·subst om
   exact ⟨v,hB,fun z hz=>by rw [hv z hz];exact .refl⟩
  ·obtain ⟨Z,hZ,hr⟩:=vu hk hik hB hv ha hka (t:=t) (by omega) (by omega)
   obtain ⟨B2,xI,hc⟩:=lB h (show t<P.m by omega)
   cases Z with
   |nil=>
    rw [hZ] at xI
    simp only [List.nil_append,List.cons.injEq] at xI
    have:=ua h hk (show t<P.m by omega) (hka.trans xI.1)
    omega
   |cons z Z=>
    rw [hZ] at xI
    simp only [List.cons_append,List.cons.injEq] at xI
    rcases hc with ⟨A',g1,g2,g3⟩|⟨g1,g3⟩
    ·refine ⟨P.outs (P.hd (P.sh t))++Z,by rw [g3, ← xI.2];simp,fun y hy=> ?_⟩
     rcases List.mem_append.1 hy with hy|hy
     ·rw [((h.cj _ _).1 hy).2]
      have:=hr z (List.mem_cons_self ..)
      rw [xI.1] at this
      exact .step this (m9 h (by omega))
     ·exact hr y (List.mem_cons_of_mem _ hy)
    ·exact ⟨Z,by rw [g3, ← xI.2],fun y hy=>hr y (List.mem_cons_of_mem _ hy)⟩
theorem mB:∀ {d i j:Nat},j - i≤d→i<j→j<P.m→P.sX (P.hd (P.sh i)) (P.tl (P.sh j))∨P.Lp L R (R (P.sh i)) (L (P.sh j))
 |0,i,j,hd,hij,_=>by omega
 |d+1,i,j,hd,hij,hj=>by
  have hi:=P.inv h j (by omega)
  have MA:=m9 h (show i<P.m by omega)
  obtain ⟨B,hB⟩:=fz h hj
  obtain ⟨k,hr⟩:=hi.row
  have hin:=(iF h (show i<P.m by omega) (show j≤P.m by omega)).2 hij
  rcases ((hi.sh _).1 hin).2 with hA|hD
  ·right
   obtain ⟨u,w,hA⟩:=List.append_of_mem hA
   have hlk:=(iZ h F hj).lk
   rw [hB,hA,show u++P.sh i::w++P.sh j::B=(u++ [P.sh i])++(w++P.sh j::B) by simp,bP,cy] at hlk
   have JB:=bP.1 hlk.2
   have h1:=ud (P:=P) (A:=w) (fun b hb=>((h.cV hr b).1 (by rw [hA];simp [hb])).1) JB.1
   rw [← JB.2.1] at h1
   exact h1
  ·generalize hx:P.hd (P.sh i)=x at hD
   have hxs:x≠P.src:=fun e=>by
    have:=(h.bA x (P.sh i)).2 ⟨MA,hx⟩
    rw [e,h.oq] at this;cases this
   obtain ⟨i',B',q1,q2,q3,⟨u,q4⟩,q5,q6,q7⟩:=ox h F hxs (by omega) hD
   have EU:=(h.bA x (P.sh i)).2 ⟨MA,hx⟩
   have hii:i<i'+1:=(iF h (show i<P.m by omega) (by omega)).1 (q5 _ EU)
   have hI:P.ins x≠ []:=fun h0=>by rw [h0] at EU;cases EU
   have hO:P.outs x≠ []:=fun h0=>by
    have:=(h.lz x hI).1 h0
    exact uc h hj (this ▸ hD)
   obtain ⟨v,a,hv⟩:=bV hO
   have ha:=(h.cj x a).1 (by rw [hv];simp)
   obtain ⟨k2,hk2,hka⟩:=cW h ha.1
   have hik:i'<k2:=by
    refine Decidable.byContradiction fun hlt=> ?_
    have h1:a∈P.oh (i'+1):=hka ▸ (iF h hk2 (by omega)).2 (by omega)
    have hi':=P.inv h (i'+1) (by omega)
    obtain ⟨k3,MB⟩:=hi'.row
    have MC:a∈(P.st (i'+1)).B:=by rw [q6,hv];simp
    have J0:=(h.cV MB a).1 (List.mem_append.2 (.inr MC))
    have bT:=h.kI MB
    rw [List.nodup_append] at bT
    rcases ((hi'.sh a).1 h1).2 with h2|h2
    ·exact bT.2.2 a h2 a MC rfl
    ·exact J0.2.2 h2
   have hlp:P.Lp L R (R (P.sh i)) (R a):=by
    obtain ⟨s,w,hs⟩:=List.append_of_mem EU
    have h1:=ET h F hs q4
    rw [F.zC q4 hv] at h1
    exact h1
   by_cases hjk:j≤k2
   ·left
    obtain ⟨Z,hZ,No⟩:=vu h F hk2 hik (x:=x) (a:=a) (v:=v) (B:=B') (by rw [q6,hv];simp) (fun e he=>((h.cj x e).1 (by rw [hv];simp [he])).2) ha.2 hka (t:=j) (by omega) hjk
    rw [hB] at hZ
    cases Z with
    |nil=>
     simp only [List.nil_append,List.cons.injEq] at hZ
     rw [hZ.1,ha.2];exact .refl
    |cons z Z=>
     simp only [List.cons_append,List.cons.injEq] at hZ
     rw [hZ.1];exact No z (List.mem_cons_self ..)
   ·rcases mB (d:=d) (i:=k2) (j:=j) (by omega) (by omega) hj with h1|h1
    ·left
     rw [hka] at h1
     have:P.sX x (P.hd a):= .step (ha.2 ▸ .refl) ha.1
     exact this.trans h1
    ·right
     rw [hka] at h1
     exact hlp.trans h1
end
section
variable (h:P.Ok) {L R:Int→Int} {f0 f1:Int} {low:Int→Int} (F:P.gA L R f0 f1 low) {e f:Int} (he:P.E e) (hf:P.E f)
include h F he hf
theorem Dr (hu:P.sX (P.hd e) (P.tl f)):∃i j,i<j∧j<P.m∧P.sh i=e∧P.sh j=f:=by
 obtain ⟨i,hi,rfl⟩:=cW h he
 obtain ⟨j,hj,rfl⟩:=cW h hf
 exact ⟨i,j,Dq h hi hj hu,hj,rfl,rfl⟩
theorem oy (hu:P.Lp L R (R e) (L f)):∃i j,i<j∧j<P.m∧P.sh i=e∧P.sh j=f:=by
 obtain ⟨i,hi,rfl⟩:=cW h he
 obtain ⟨j,hj,rfl⟩:=cW h hf
 exact ⟨i,j,zE h F hi hj hu,hj,rfl,rfl⟩
theorem sY {i j i' j':Nat} (h1:i<j∧j<P.m∧P.sh i=e∧P.sh j=f) (h2:i'<j'∧j'<P.m∧P.sh i'=f∧P.sh j'=e):False:=by
 have:=ua h (show i<P.m by omega) (show j'<P.m by omega) (h1.2.2.1.trans h2.2.2.2.symm)
 have:=ua h (show j<P.m by omega) (show i'<P.m by omega) (h1.2.2.2.trans h2.2.2.1.symm)
 omega
end
theorem zF (h:P.Ok) {L R:Int→Int} {f0 f1:Int} {low:Int→Int} (F:P.gA L R f0 f1 low) {e f:Int} (he:P.E e) (hf:P.E f) (hne:e≠f):
 P.sX (P.hd e) (P.tl f)∨P.sX (P.hd f) (P.tl e)∨P.Lp L R (R e) (L f)∨P.Lp L R (R f) (L e):=by
 obtain ⟨i,hi,rfl⟩:=cW h he
 obtain ⟨j,hj,rfl⟩:=cW h hf
 rcases Nat.lt_trichotomy i j with h1|h1|h1
 ·rcases mB h F (d:=j - i) (Nat.le_refl _) h1 hj with h2|h2
  ·exact .inl h2
  ·exact .inr (.inr (.inl h2))
 ·exact absurd (by rw [h1]) hne
 ·rcases mB h F (d:=i - j) (Nat.le_refl _) h1 hi with h2|h2
  ·exact .inr (.inl h2)
  ·exact .inr (.inr (.inr h2))
section
variable (h:P.Ok) {L R:Int→Int} {f0 f1:Int} {low:Int→Int} (F:P.gA L R f0 f1 low) {e f:Int} (he:P.E e) (hf:P.E f)
include h F he hf
theorem gX (h1:P.Lp L R (R e) (L f)) (h2:P.Lp L R (R f) (L e)):False:=by
 obtain ⟨i,j,a⟩:=oy h F he hf h1
 obtain ⟨i',j',b⟩:=oy h F hf he h2
 exact sY h F he hf a b
theorem nc (h1:P.sX (P.hd e) (P.tl f)) (h2:P.Lp L R (R f) (L e)):False:=by
 obtain ⟨i,j,a⟩:=Dr h F he hf h1
 obtain ⟨i',j',b⟩:=oy h F hf he h2
 exact sY h F he hf a b
end
end Go.Ab
end
section
namespace Go.Ab
set_option maxRecDepth 10000
set_option linter.unusedSectionVars false
variable {P:PS}
structure PS.Hi (P:PS) (R:Int→Int) (f0 f1:Int) (hi:Int→Int):Prop where
 mid:∀ {x u a b v},P.ins x=u++a::b::v→hi (R a)=x
 h0:hi f0=P.ES
 h1:hi f1=P.ES
def PS.Dc (P:PS) (a:Int):Prop:=∃x u b v,P.outs x=u++a::b::v
section
variable (h:P.Ok) {L R:Int→Int} {f0 f1:Int} {low:Int→Int} (F:P.gA L R f0 f1 low)
include h F
theorem PS.Hi.sV {hi:Int→Int} (H:P.Hi R f0 f1 hi):P.sV.Hi L f1 f0 hi:=
 {mid:=fun {x u a b v} e=>by
   have e:=gP (show (P.ins x).reverse=_ from e)
   rw [← F.mu e];exact H.mid e
  h0:=H.h1
  h1:=H.h0}
theorem ue {a:Int} (ha:P.Dc a):P.E a∧low (R a)=P.tl a∧R a≠f0∧R a≠f1:=by
 obtain ⟨x,u,b,v,e⟩:=ha
 obtain ⟨h1,h2⟩:=(h.cj x a).1 (by rw [e];simp)
 obtain ⟨h3,h4,h5⟩:=F.new e
 exact ⟨h1,by rw [h3,h2],h4,h5⟩
theorem yz {a a':Int} (ha:P.Dc a) (A8:P.Dc a') (e:R a=R a'):a=a':=by
 have t1:=(ue h F ha).2.1
 have t2:=(ue h F A8).2.1
 obtain ⟨x,u,b,v,e1⟩:=ha
 obtain ⟨x',u',b',v',e2⟩:=A8
 obtain ⟨_,h2⟩:=(h.cj x a).1 (by rw [e1];simp)
 obtain ⟨_,h3⟩:=(h.cj x' a').1 (by rw [e2];simp)
 have:x=x':=by rw [← h2, ← h3, ← t1, ← t2,e]
 subst this
 exact F.new1 e1 e2 e
theorem oz {e:Int} (he:P.E e) (hs:P.tl e≠P.src):P.ins (P.tl e)≠ []:=by
 obtain ⟨i,hi,rfl⟩:=cW h he
 obtain ⟨k,hr⟩:=mz h (Nat.le_of_lt hi)
 obtain ⟨B,hB⟩:=fz h hi
 have hm:=(h.cV hr (P.sh i)).1 (by rw [hB];simp)
 obtain ⟨j,B,_,_,_,⟨u,hu⟩,_⟩:=ox h F hs (Nat.le_of_lt hi) hm.2.1
 rw [hu];simp
variable {L' R':Int→Int} {MD ME:Int} {low':Int→Int} (F':P.gA L' R' MD ME low')
include F'
theorem yA:∀ {d:Nat} {e:Int},P.mW (P.tl e)<d→P.E e→(R e=f1∧R' e=ME)∨∃a,P.Dc a∧P.mW (P.tl a)≤P.mW (P.tl e)∧R e=R a∧R' e=R' a
 |0,e,hd,_=>by omega
 |d+1,e,hd,he=>by
  have hem:=(h.cj (P.tl e) e).2 ⟨he,rfl⟩
  obtain ⟨u,v,hu⟩:=List.append_of_mem hem
  cases v with
  |cons b v=>exact .inr ⟨e,⟨_,u,b,v,hu⟩,Nat.le_refl _,rfl,rfl⟩
  |nil=>
   by_cases hs:P.tl e=P.src
   ·rw [hs] at hu
    exact .inl ⟨F.s1 hu,F'.s1 hu⟩
   ·obtain ⟨w,c,hw⟩:=bV (oz h F he hs)
    have e1:=F.zC hw hu
    have e2:=F'.zC hw hu
    obtain ⟨hc,hh⟩:=(h.bA (P.tl e) c).1 (by rw [hw];simp)
    have hp:=h.gW c hc
    rw [hh] at hp
    rw [← e1, ← e2]
    rcases yA (d:=d) (e:=c) (by omega) hc with h1|⟨a,h1,h2,h3⟩
    ·exact .inl h1
    ·exact .inr ⟨a,h1,by omega,h3⟩
theorem Er:∀ {d:Nat} {e:Int},P.mW (P.tl e)<d→P.E e→(L e=f0∧L' e=MD)∨∃a,P.Dc a∧L e=R a∧L' e=R' a
 |0,e,hd,_=>by omega
 |d+1,e,hd,he=>by
  have hem:=(h.cj (P.tl e) e).2 ⟨he,rfl⟩
  obtain ⟨u,v,hu⟩:=List.append_of_mem hem
  rcases List.eq_nil_or_concat u with rfl|⟨u',b,rfl⟩
  ·by_cases hs:P.tl e=P.src
   ·rw [hs] at hu
    exact .inl ⟨F.s0 hu,F'.s0 hu⟩
   ·obtain ⟨c,w,hw⟩:=gI (oz h F he hs)
    have e1:=F.fst hw hu
    have e2:=F'.fst hw hu
    obtain ⟨hc,hh⟩:=(h.bA (P.tl e) c).1 (by rw [hw];simp)
    have hp:=h.gW c hc
    rw [hh] at hp
    rw [← e1, ← e2]
    exact Er (d:=d) (e:=c) (by omega) hc
  ·have hu:P.outs (P.tl e)=u'++b::e::v:=by rw [hu];simp
   exact .inr ⟨b,⟨_,u',e,v,hu⟩,(F.fX hu).symm,(F'.fX hu).symm⟩
end
section
variable (h:P.Ok) {L R:Int→Int} {f0 f1:Int} {low:Int→Int} (F:P.gA L R f0 f1 low)
include h F
theorem EV {e:Int} (he:P.E e):L e≠R e:=fun h1=>gX h F he he (h1 ▸ .refl) (h1 ▸ .refl)
theorem EW {e e':Int} (he:P.E e) (he':P.E e') (hR:R e=R e') (ht:P.tl e=P.tl e'):e=e':=by
 have hem:=(h.cj (P.tl e) e).2 ⟨he,rfl⟩
 have EX:=(h.cj (P.tl e) e').2 ⟨he',ht.symm⟩
 have key:∀ {a b:Int},P.E b→P.tl b=P.tl a→P.Dc a→(∃u,P.outs (P.tl a)=u++ [b])→R a≠R b:=fun {a b} hb hab ha ⟨u,hu⟩ e1=>by
  have oL:=ue h F ha
  by_cases hs:P.tl b=P.src
  ·rw [← hab,hs] at hu
   exact oL.2.2.2 (e1.trans (F.s1 hu))
  ·obtain ⟨w,c,hw⟩:=bV (oz h F hb hs)
   have e2:=F.zC hw (hab ▸ hu)
   obtain ⟨hc,hh⟩:=(h.bA (P.tl b) c).1 (by rw [hw];simp)
   have hp:=h.gW c hc
   rcases yA h F F (d:=_+1) (Nat.lt_succ_self _) hc with ⟨h1,_⟩|⟨a',h1,h2,h3,_⟩
   ·exact oL.2.2.2 (e1.trans (e2.symm.trans h1))
   ·have:=yz h F ha h1 (e1.trans (e2.symm.trans h3))
    subst this
    rw [hh,hab] at hp
    omega
 obtain ⟨u,v,hu⟩:=List.append_of_mem hem
 obtain ⟨u',v',sZ⟩:=List.append_of_mem EX
 cases v with
 |cons b v=>
  cases v' with
  |cons b' v'=>exact yz h F ⟨_,_,_,_,hu⟩ ⟨_,_,_,_,sZ⟩ hR
  |nil=>exact absurd hR (key he' ht.symm ⟨_,_,_,_,hu⟩ ⟨_,sZ⟩)
 |nil=>
  cases v' with
  |cons b' v'=>exact absurd hR.symm (key he ht ⟨_,_,_,_,sZ⟩ ⟨_,ht ▸ hu⟩)
  |nil=>
   have:=(List.append_inj' (hu.symm.trans sZ) rfl).2
   simpa using this
theorem qt {e:Int} (he:P.E e):P.hd e∈(P.st P.m).D:=by
 have hi:=P.inv h P.m (Nat.le_refl _)
 obtain ⟨j,hj,e2⟩:=cW h he
 have h1:e∈P.oh P.m:=PS.p8.2 ⟨j,hj,e2⟩
 rcases ((hi.sh e).1 h1).2 with h2|h2
 ·rw [xH h] at h2;cases h2
 ·exact h2
theorem EY {e:Int} (he:P.E e):P.hd e≠P.src:=fun h1=>by
 have:=(h.bA P.src e).2 ⟨he,h1⟩
 rw [h.oq] at this;cases this
theorem s5 {x:Int} (hx:x≠P.src):∀ {j:Nat},j≤P.m→x∈(P.st j).D→∃i A' B,i<j∧x∉(P.st i).D∧P.hd (P.sh i)=x∧(P.st i).B=P.sh i::B∧(P.st i).A++ [P.sh i]=A'++P.ins x∧P.ins x≠ []∧P.st (i+1)=⟨A',P.outs x++B,(P.st i).D++ [x]⟩
 |0,_,hm=>by
  have:x∈ [P.src]:=hm
  simp at this;exact absurd this hx
 |j+1,hj,hm=>by
  by_cases hp:x∈(P.st j).D
  ·obtain ⟨i,A',B,h1,h2⟩:=s5 hx (j:=j) (by omega) hp
   exact ⟨i,A',B,by omega,h2⟩
  ·obtain ⟨B,hB,hc⟩:=lB h (show j<P.m by omega)
   rcases hc with ⟨A',h1,h2,h3⟩|⟨h1,h3⟩
   ·rw [h3] at hm
    rcases List.mem_append.1 hm with hm|hm
    ·exact absurd hm hp
    ·rw [List.mem_singleton] at hm
     subst hm
     exact ⟨j,A',B,by omega,hp,rfl,hB,h1,h2,h3⟩
   ·rw [h3] at hm;exact absurd hm hp
theorem yB {x:Int} (hx:P.ins x≠ []):∃i A' B,i<P.m∧(P.st i).A++(P.st i).B=A'++P.ins x++B∧P.st (i+1)=⟨A',P.outs x++B,(P.st i).D++ [x]⟩:=by
 obtain ⟨a,u,hu⟩:=gI hx
 obtain ⟨ha,hh⟩:=(h.bA x a).1 (by rw [hu];simp)
 have hs:=EY h F ha
 rw [hh] at hs
 have hD:=qt h F ha
 rw [hh] at hD
 obtain ⟨i,A',B,h1,h2,h3,h4,h5,h6,h7⟩:=s5 h F hs (Nat.le_refl _) hD
 exact ⟨i,A',B,h1,by rw [h4, ← h5];simp,h7⟩
theorem A9 {e e':Int} (he:P.E e) (he':P.E e') (hR:R e=R e') (ht:P.hd e=P.hd e'):e=e':=by
 have hem:=(h.bA (P.hd e) e).2 ⟨he,rfl⟩
 have EX:=(h.bA (P.hd e) e').2 ⟨he',ht.symm⟩
 obtain ⟨i,A',B,hi,h1,_⟩:=yB h F (x:=P.hd e) (fun h0=>by rw [h0] at hem;cases hem)
 exact yy h F hi (by rw [h1];simp [hem]) (by rw [h1];simp [EX]) hR
theorem Ds:(P.st P.m).B= []:=by
 cases hB:(P.st P.m).B with
 |nil=>rfl
 |cons e B=>
  exfalso
  obtain ⟨k,hr⟩:=mz h (Nat.le_refl P.m)
  have hm:=(h.cV hr e).1 (by rw [hB];simp)
  exact hm.2.2 (qt h F hm.1)
variable {hi:Int→Int} (H:P.Hi R f0 f1 hi)
include H
theorem s6 {e:Int} (he:P.E e):P.hd e=hi (R e)∨∃f,P.E f∧R f=R e∧P.tl f=P.hd e:=by
 have hem:=(h.bA (P.hd e) e).2 ⟨he,rfl⟩
 have hI:P.ins (P.hd e)≠ []:=fun h0=>by rw [h0] at hem;cases hem
 obtain ⟨u,v,hu⟩:=List.append_of_mem hem
 cases v with
 |cons b v=>exact .inl (H.mid hu).symm
 |nil=>
  by_cases hO:P.outs (P.hd e)= []
  ·left
   have hs:=(h.lz _ hI).1 hO
   obtain ⟨i,A',B,hil,h1,h2⟩:=yB h F hI
   have hF:=iZ h F hil
   have p9:i+1=P.m:=Decidable.byContradiction fun hne=>uc h (j:=i+1) (by omega) (by rw [h2,hs];simp)
   rw [p9] at h2
   have hA:=xH h
   have hB:=Ds h F
   rw [h2] at hA hB
   simp only at hA hB
   have hB:B= []:=(List.append_eq_nil_iff.1 hB).2
   have J1:=hF.en
   rw [h1,hA,hB,hu] at J1
   simp only [List.nil_append,List.append_nil,cy] at J1
   rw [J1,hs,H.h1]
  ·obtain ⟨v,f,hv⟩:=bV hO
   have:=F.zC hu hv
   obtain ⟨hf,zG⟩:=(h.cj _ f).1 (by rw [hv];simp:f∈P.outs (P.hd e))
   exact .inr ⟨f,hf,this.symm,zG⟩
theorem vv:∀ {d i:Nat},i<P.m→P.m - i≤d→P.mW (P.hd (P.sh i))≤P.mW (hi (R (P.sh i)))
 |0,i,h1,h2=>by omega
 |d+1,i,h1,h2=>by
  have he:=m9 h h1
  rcases s6 h F H he with h3|⟨f,hf,h4,h5⟩
  ·rw [h3];exact Nat.le_refl _
  ·obtain ⟨j,hj,rfl⟩:=cW h hf
   have hij:=(iF h h1 (Nat.le_of_lt hj)).1 (qs h he hj h5.symm)
   have:=vv (d:=d) (i:=j) hj (by omega)
   have hp:=h.gW _ hf
   rw [h5] at hp
   rw [h4] at this
   omega
theorem zH {f:Int} (hf:P.E f):P.tl f≠hi (R f):=fun h1=>by
 obtain ⟨j,hj,rfl⟩:=cW h hf
 have:=vv h F H hj (Nat.le_refl _)
 have hp:=h.gW _ hf
 rw [h1] at hp
 omega
theorem vA (hm:0<P.m) (hl:low f1=P.src) {k:Int} (hk:k=f1∨∃a,P.Dc a∧R a=k):∃e,P.E e∧R e=k∧P.tl e=low k:=by
 rcases hk with rfl|⟨a,ha,rfl⟩
 ·obtain ⟨B,hB⟩:=fz h hm
  have hB:P.outs P.src=P.sh 0::B:=hB
  obtain ⟨v,b,hv⟩:=bV (l:=P.outs P.src) (by rw [hB];simp)
  obtain ⟨h1,h2⟩:=(h.cj P.src b).1 (by rw [hv];simp)
  exact ⟨b,h1,F.s1 hv,by rw [hl,h2]⟩
 ·have:=ue h F ha
  exact ⟨a,this.1,rfl,this.2.1.symm⟩
end
def sJ (t h:Int→Int) (l:List Int) (x:Int):Int:=match l.find? (fun i=>decide (t i=x)) with
 |some i=>h i
 |none=>x
def mC (t h:Int→Int) (l:List Int) (x:Int):Nat→Int
 |0=>x
 |k+1=>sJ t h l (mC t h l x k)
theorem Ba {t h:Int→Int} {l:List Int} {x e:Int} (he:e∈l) (ht:t e=x) (hu:∀f∈l,t f=x→f=e):sJ t h l x=h e:=by
 unfold sJ
 cases hf:l.find? (fun i=>decide (t i=x)) with
 |none=>have:=List.find?_eq_none.1 hf e he;simp [ht] at this
 |some i=>
  have h1:=List.find?_some hf
  have h2:=List.mem_of_find?_eq_some hf
  simp only [decide_eq_true_eq] at h1
  rw [hu i h2 h1]
theorem s7 {t h:Int→Int} {l:List Int} {x:Int} (hu:∀f∈l,t f≠x):sJ t h l x=x:=by
 unfold sJ
 cases hf:l.find? (fun i=>decide (t i=x)) with
 |none=>rfl
 |some i=>
  have h1:=List.find?_some hf
  have h2:=List.mem_of_find?_eq_some hf
  simp only [decide_eq_true_eq] at h1
  exact absurd h1 (hu i h2)
theorem s8 {l:List Int} {x y:Int} (hlt:P.mW x<P.mW y) {e:Int} (he:e∈l) (ht:P.tl e=x):(l.filter fun i=>decide (P.mW (P.tl i)<P.mW x)).length<(l.filter fun i=>decide (P.mW (P.tl i)<P.mW y)).length:=by
 induction l with
 |nil=>cases he
 |cons a l ih=>
  have hmono:(l.filter fun i=>decide (P.mW (P.tl i)<P.mW x)).length≤(l.filter fun i=>decide (P.mW (P.tl i)<P.mW y)).length:=by
   clear ih he
   induction l with
   |nil=>exact Nat.le_refl _
   |cons b l ih=>
    simp only [List.filter_cons]
    by_cases hb:P.mW (P.tl b)<P.mW x
    ·rw [if_pos (decide_eq_true hb),if_pos (decide_eq_true (by omega))];simp;omega
    ·rw [if_neg (by simpa using hb)];split<;>(try simp)<;>omega
  simp only [List.filter_cons]
  by_cases ha:P.mW (P.tl a)<P.mW x
  ·rw [if_pos (decide_eq_true ha),if_pos (decide_eq_true (by omega))]
   rcases List.mem_cons.1 he with rfl|he
   ·rw [ht] at ha;omega
   ·have:=ih he;simp;omega
  ·rw [if_neg (by simpa using ha)]
   rcases List.mem_cons.1 he with rfl|he
   ·rw [if_pos (decide_eq_true (by rw [ht];exact hlt))];simp;omega
   ·have:=ih he;split<;>(try simp)<;>omega
section
variable (h:P.Ok) {L R:Int→Int} {f0 f1:Int} {low:Int→Int} (F:P.gA L R f0 f1 low) {hi:Int→Int} (H:P.Hi R f0 f1 hi)
include h F H
theorem vB {l:List Int} {k:Int} (hl:∀e,e∈l↔P.E e∧R e=k) (hk:∃e,P.E e∧R e=k∧P.tl e=low k):mC P.tl P.hd l (low k) l.length=hi k:=by
 have key:∀j,mC P.tl P.hd l (low k) j=hi k∨((∃e∈l,P.tl e=mC P.tl P.hd l (low k) j)∧j≤(l.filter fun i=>decide (P.mW (P.tl i)<P.mW (mC P.tl P.hd l (low k) j))).length):=by
  intro j
  induction j with
  |zero=>obtain ⟨e,h1,h2,h3⟩:=hk;exact .inr ⟨⟨e,(hl e).2 ⟨h1,h2⟩,h3⟩,Nat.zero_le _⟩
  |succ j ih=>
   rcases ih with ih|⟨⟨e,he,ht⟩,hc⟩
   ·left
    show sJ P.tl P.hd l _=_
    rw [ih,s7 fun f hf e1=> ?_]
    have:=(hl f).1 hf
    exact zH h F H this.1 (by rw [this.2];exact e1)
   ·have h1:=(hl e).1 he
    have hst:mC P.tl P.hd l (low k) (j+1)=P.hd e:=Ba he ht fun f hf e1=>by
     have h2:=(hl f).1 hf
     exact EW h F h2.1 h1.1 (h2.2.trans h1.2.symm) (e1.trans ht.symm)
    rw [hst]
    rcases s6 h F H h1.1 with h2|⟨f,g1,g2,g3⟩
    ·left;rw [h2,h1.2]
    ·right
     have hp:=h.gW e h1.1
     rw [ht] at hp
     have:=s8 (l:=l) hp he ht
     exact ⟨⟨f,(hl f).2 ⟨g1,g2.trans h1.2⟩,g3⟩,by omega⟩
 rcases key l.length with h1|⟨⟨e,he,ht⟩,h2⟩
 ·exact h1
 ·exfalso
  have h3:=(hl e).1 he
  have hp:=h.gW e h3.1
  rw [ht] at hp
  have:=s8 (l:=l) hp he ht
  have:=List.length_filter_le (fun i=>decide (P.mW (P.tl i)<P.mW (P.hd e))) l
  omega
end
end Go.Ab
end
