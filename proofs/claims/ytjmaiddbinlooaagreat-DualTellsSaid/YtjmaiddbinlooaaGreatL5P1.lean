/- A part of the proof. -/
set_option linter.unusedSimpArgs false
set_option linter.unusedVariables false
section
namespace Go.Ab
set_option maxRecDepth 10000
structure PS where
 m:Nat
 src:Int
 Gs:Int
 tl:Int→Int
 hd:Int→Int
 ins:Int→List Int
 outs:Int→List Int
 F5:Int→Nat
 Row:Nat→List Int→List Int→Prop
 k0:Nat
def PS.E (P:PS) (e:Int):Prop:=0≤e∧e<P.m
structure PS.Ok (P:PS):Prop where
 mQ:∀x e,e∈P.outs x↔P.E e∧P.tl e=x
 fL:∀x e,e∈P.ins x↔P.E e∧P.hd e=x
 mR:∀x,(P.outs x).Nodup
 xw:∀x,(P.ins x).Nodup
 tO:∀e,P.E e→P.F5 (P.tl e)<P.F5 (P.hd e)
 Dq:P.Row P.k0 (P.outs P.src) [P.src]
 tP:∀ {k W D},P.Row k W D→W.Nodup
 lD:∀ {k W D},P.Row k W D→∀e,e∈W↔P.E e∧P.tl e∈D∧P.hd e∉D
 mS:∀ {k W D},P.Row (k+1) W D→∃x A C,W=A++P.ins x++C∧P.ins x≠ []
 mT:∀ {k W D x A C},P.Row k W D→W=A++P.ins x++C→P.ins x≠ []→∃k',k=k'+1∧P.Row k' (A++P.outs x++C) (D++ [x])
 pT:∀ {W D},P.Row 0 W D→∀e,P.E e→P.hd e∈D
 tQ:∀ {k W D},P.Row k W D→P.src∈D
 tR:∀ {k W D},P.Row k W D→P.Gs∈D→k=0
 tS:P.ins P.src= []
 tT:∀x,P.ins x≠ []→(P.outs x= []↔x=P.Gs)
theorem oa {l:List Int} :l.reverse.Nodup↔l.Nodup:=(List.reverse_perm l).nodup_iff
def PS.AN (P:PS):PS:= {P with ins:=fun x=>(P.ins x).reverse,outs:=fun x=>(P.outs x).reverse,Row:=fun k W D=>P.Row k W.reverse D}
theorem PS.Ok.AN {P:PS} (h:P.Ok):P.AN.Ok:=
 {mQ:=fun x e=>by show e∈(P.outs x).reverse↔_;rw [List.mem_reverse];exact h.mQ x e
  fL:=fun x e=>by show e∈(P.ins x).reverse↔_;rw [List.mem_reverse];exact h.fL x e
  mR:=fun x=>by show (P.outs x).reverse.Nodup;exact oa.2 (h.mR x)
  xw:=fun x=>by show (P.ins x).reverse.Nodup;exact oa.2 (h.xw x)
  tO:=h.tO
  Dq:=by show P.Row _ (P.outs P.src).reverse.reverse _;rw [List.reverse_reverse];exact h.Dq
  tP:=fun {k W D} hr=>oa.1 (h.tP (show P.Row k W.reverse D from hr))
  lD:=fun {k W D} hr e=>by
   have:=h.lD (show P.Row k W.reverse D from hr) e
   rw [List.mem_reverse] at this
   exact this
  mS:=fun {k W D} hr=>by
   obtain ⟨x,A,C,h1,h2⟩:=h.mS (show P.Row (k+1) W.reverse D from hr)
   refine ⟨x,C.reverse,A.reverse, ?_,fun h3=>h2 (List.reverse_eq_nil_iff.1 h3)⟩
   show W=C.reverse++(P.ins x).reverse++A.reverse
   rw [← List.reverse_reverse W,h1]
   simp
  mT:=fun {k W D x A C} hr h1 h2=>by
   have h1:W=A++(P.ins x).reverse++C:=h1
   obtain ⟨k',h3,h4⟩:=h.mT (x:=x) (A:=C.reverse) (C:=A.reverse) (show P.Row k W.reverse D from hr) (by rw [h1];simp) (fun h3=>h2 (List.reverse_eq_nil_iff.2 h3))
   refine ⟨k',h3, ?_⟩
   show P.Row k' (A++(P.outs x).reverse++C).reverse (D++ [x])
   have e:(A++(P.outs x).reverse++C).reverse=C.reverse++P.outs x++A.reverse:=by simp
   rw [e];exact h4
  pT:=fun {W D} hr=>h.pT (show P.Row 0 W.reverse D from hr)
  tQ:=fun {k W D} hr=>h.tQ (show P.Row k W.reverse D from hr)
  tR:=fun {k W D} hr=>h.tR (show P.Row k W.reverse D from hr)
  tS:=by show (P.ins P.src).reverse= [];rw [h.tS];rfl
  tT:=fun x hx=>by
   have h2:P.ins x≠ []:=fun h3=>hx (by show (P.ins x).reverse= [];rw [h3];rfl)
   show (P.outs x).reverse= []↔_
   rw [List.reverse_eq_nil_iff];exact h.tT x h2}
structure MS where
 A:List Int
 B:List Int
 D:List Int
def PS.next (P:PS) (s:MS):MS:=
 match s.B with
 | []=>s
 |e::B=>if P.ins (P.hd e)<:+s.A++ [e] then ⟨(s.A++ [e]).take (s.A.length+1 - (P.ins (P.hd e)).length),P.outs (P.hd e)++B,s.D++ [P.hd e]⟩ else ⟨s.A++ [e],B,s.D⟩
def PS.st (P:PS):Nat→MS
 |0=>⟨[],P.outs P.src, [P.src]⟩
 |j+1=>P.next (P.st j)
def PS.sh (P:PS) (j:Nat):Int:=(P.st j).B.headD 0
def PS.vk (P:PS) (j:Nat):List Int:=(List.range j).map P.sh
variable {P:PS}
theorem PS.qg {j:Nat} :P.vk (j+1)=P.vk j++ [P.sh j]:=by simp [PS.vk,List.range_succ]
theorem PS.ym {j:Nat} :(P.vk j).length=j:=by simp [PS.vk]
theorem PS.Dr {j:Nat} {e:Int} :e∈P.vk j↔∃i,i<j∧P.sh i=e:=by simp [PS.vk]
structure PS.Inv (P:PS) (j:Nat) (s:MS):Prop where
 row:∃k,P.Row k (s.A++s.B) s.D
 no:∀h,P.ins h≠ []→¬P.ins h<:+:s.A
 nd:(P.vk j).Nodup
 sh:∀e,e∈P.vk j↔P.E e∧(e∈s.A∨P.hd e∈s.D)
 len:j≤P.m
theorem eu:∀ {l m:List Int},l.Nodup→(∀i∈l,i∈m)→l.length≤m.length
 | [],_,_,_=>Nat.zero_le _
 |a::l,m,hn,h=>by
  rw [List.nodup_cons] at hn
  have ha:=h a (List.mem_cons_self ..)
  have:=eu (m:=m.erase a) hn.2 fun i hi=>(List.mem_erase_of_ne (show i≠a from fun e=>hn.1 (by rw [← e];exact hi))).2 (h i (List.mem_cons_of_mem _ hi))
  rw [List.length_erase_of_mem ha] at this
  have:=List.length_pos_of_mem ha
  rw [List.length_cons];omega
theorem sO {l:List Int} {m:Nat} (hall:∀e:Int,0≤e→e<m→e∈l):m≤l.length:=by
 have:=eu (l:=(List.range m).map Int.ofNat) (m:=l) (List.pairwise_map.2 (List.nodup_range.imp fun hab e=>hab (Int.ofNat.inj e))) fun x hx=>by
  obtain ⟨a,ha,rfl⟩:=List.mem_map.1 hx
  have:=List.mem_range.1 ha
  exact hall _ (by simp) (by simp;omega)
 simpa using this
theorem vl {X Y:List Int} (h:X<:+Y):Y=Y.take (Y.length - X.length)++X:=by
 obtain ⟨t,rfl⟩:=h
 simp
theorem PS.Inv.more (h:P.Ok) {j:Nat} {s:MS} (hi:P.Inv j s) (hj:j<P.m):∃e B,s.B=e::B:=by
 cases hB:s.B with
 |cons e B=>exact ⟨e,B,rfl⟩
 |nil=>
  exfalso
  obtain ⟨k,hr⟩:=hi.row
  rw [hB,List.append_nil] at hr
  cases k with
  |succ k=>
   obtain ⟨x,A,C,h1,h2⟩:=h.mS hr
   exact hi.no x h2 ⟨A,C,h1.symm⟩
  |zero=>
   have hall:∀e,P.E e→e∈P.vk j:=fun e he=>(hi.sh e).2 ⟨he, .inr (h.pT hr e he)⟩
   have:=sO (fun e h1 h2=>hall e ⟨h1,h2⟩)
   rw [PS.ym] at this
   omega
theorem PS.zq {s:MS} {e:Int} {B:List Int} (hB:s.B=e::B):P.next s=if P.ins (P.hd e)<:+s.A++ [e] then ⟨(s.A++ [e]).take (s.A.length+1 - (P.ins (P.hd e)).length),P.outs (P.hd e)++B,s.D++ [P.hd e]⟩ else ⟨s.A++ [e],B,s.D⟩:=by
 unfold PS.next;rw [hB]
theorem PS.qh (h:P.Ok) {s:MS} {k:Nat} {e:Int} {B:List Int} (hr:P.Row k (s.A++s.B) s.D) (hB:s.B=e::B):
 P.E e∧((∃A',s.A++ [e]=A'++P.ins (P.hd e)∧P.ins (P.hd e)≠ []∧P.next s=⟨A',P.outs (P.hd e)++B,s.D++ [P.hd e]⟩)∨(¬P.ins (P.hd e)<:+s.A++ [e]∧P.next s=⟨s.A++ [e],B,s.D⟩)):=by
 have he:P.E e:=((h.lD hr e).1 (by rw [hB];simp)).1
 refine ⟨he, ?_⟩
 rw [PS.zq hB]
 by_cases hs:P.ins (P.hd e)<:+s.A++ [e]
 ·rw [if_pos hs]
  refine .inl ⟨_, ?_,fun h0=> ?_,rfl⟩
  ·have:=vl hs
   simpa using this
  ·have:=(h.fL (P.hd e) e).2 ⟨he,rfl⟩
   rw [h0] at this;cases this
 ·rw [if_neg hs];exact .inr ⟨hs,rfl⟩
theorem xx {X A:List Int} {e:Int} (h:X<:+:A++ [e]):X<:+:A∨X<:+A++ [e]:=by
 obtain ⟨s,t,ht⟩:=h
 rcases List.eq_nil_or_concat t with rfl|⟨t',a,rfl⟩
 ·rw [List.append_nil] at ht;exact .inr ⟨s,ht⟩
 ·left
  refine ⟨s,t', ?_⟩
  have:s++X++t'++ [a]=A++ [e]:=by rw [← ht];simp
  exact (List.append_inj' this rfl).1
theorem PS.inv (h:P.Ok):∀j,j≤P.m→P.Inv j (P.st j)
 |0,_=>⟨⟨_,h.Dq⟩,fun x hx hs=>hx (by
    have:P.ins x<:+: []:=hs
    simpa using this),by simp [PS.vk],fun e=>(by
     simp only [PS.vk,List.range_zero,List.map_nil,List.not_mem_nil,false_iff]
     rintro ⟨he,h1|h1⟩
     ·cases h1
     ·have h1:P.hd e∈ [P.src]:=h1
      have h2:P.hd e=P.src:=by simpa using h1
      have:=(h.fL P.src e).2 ⟨he,h2⟩
      rw [h.tS] at this;cases this),Nat.zero_le _⟩
 |j+1,hj=>by
  have hi:=PS.inv h j (by omega)
  obtain ⟨e,B,hB⟩:=hi.more h (by omega)
  obtain ⟨k,hr⟩:=hi.row
  have hsh:P.sh j=e:=by unfold PS.sh;rw [hB];rfl
  have Nr:e∈(P.st j).A++(P.st j).B:=by rw [hB];simp
  have hm:=(h.lD hr e).1 Nr
  have cg:=h.tP hr
  have Ns:e∉(P.st j).A:=fun hA=>by
   rw [List.nodup_append] at cg
   exact cg.2.2 e hA e (by rw [hB];simp) rfl
  have hnew:e∉P.vk j:=fun h1=>by
   rcases ((hi.sh e).1 h1).2 with h2|h2
   ·exact Ns h2
   ·exact hm.2.2 h2
  have Gt:(P.vk (j+1)).Nodup:=by
   rw [PS.qg,hsh,List.nodup_append]
   exact ⟨hi.nd,by simp,fun a ha b hb=>by
    rw [List.mem_singleton] at hb
    subst hb
    intro e2;exact hnew (e2 ▸ ha)⟩
  obtain ⟨he,hc⟩:=PS.qh h hr hB
  have hst:P.st (j+1)=P.next (P.st j):=rfl
  rw [hst]
  rcases hc with ⟨A',h1,h2,h3⟩|⟨h1,h3⟩
  ·rw [h3]
   have hrow:(P.st j).A++(P.st j).B=A'++P.ins (P.hd e)++B:=by rw [hB, ← h1];simp
   obtain ⟨k',rfl,hr'⟩:=h.mT hr hrow h2
   refine ⟨⟨k',by simpa using hr'⟩,fun x hx hs=> ?_,Gt,fun f=> ?_,hj⟩
   ·have hs:P.ins x<:+:A':=hs
    have hA:¬P.ins x<:+:(P.st j).A:=hi.no x hx
    obtain ⟨u,v,huv⟩:=hs
    rcases List.eq_nil_or_concat (P.ins (P.hd e)) with h0|⟨I',a,h0⟩
    ·exact h2 h0
    ·rw [h0, ← List.concat_eq_append,List.concat_eq_append] at h1
     have h4:(P.st j).A++ [e]=(A'++I')++ [a]:=by rw [h1];simp
     have h5:=(List.append_inj' h4 rfl).1
     exact hA ⟨u,v++I',by rw [h5, ← huv];simp⟩
   ·rw [PS.qg,hsh,List.mem_append,List.mem_singleton,hi.sh f]
    show _↔P.E f∧(f∈A'∨P.hd f∈(P.st j).D++ [P.hd e])
    constructor
    ·rintro (⟨h4,h5|h5⟩|rfl)
     ·have:f∈A'++P.ins (P.hd e):=by rw [← h1];exact List.mem_append.2 (.inl h5)
      rcases List.mem_append.1 this with h6|h6
      ·exact ⟨h4, .inl h6⟩
      ·exact ⟨h4, .inr (by rw [((h.fL _ _).1 h6).2];simp)⟩
     ·exact ⟨h4, .inr (List.mem_append.2 (.inl h5))⟩
     ·exact ⟨he, .inr (by simp)⟩
    ·rintro ⟨h4,h5|h5⟩
     ·have:f∈(P.st j).A++ [e]:=by rw [h1];exact List.mem_append.2 (.inl h5)
      rcases List.mem_append.1 this with h6|h6
      ·exact .inl ⟨h4, .inl h6⟩
      ·exact .inr (by simpa using h6)
     ·rcases List.mem_append.1 h5 with h6|h6
      ·exact .inl ⟨h4, .inr h6⟩
      ·have h6:P.hd f=P.hd e:=by simpa using h6
       have h7:f∈P.ins (P.hd e):=(h.fL _ _).2 ⟨h4,h6⟩
       have:f∈(P.st j).A++ [e]:=by rw [h1];exact List.mem_append.2 (.inr h7)
       rcases List.mem_append.1 this with h8|h8
       ·exact .inl ⟨h4, .inl h8⟩
       ·exact .inr (by simpa using h8)
  ·rw [h3]
   refine ⟨⟨k,by simpa [hB] using hr⟩,fun x hx hs=> ?_,Gt,fun f=> ?_,hj⟩
   ·rcases xx hs with h4|h4
    ·exact hi.no x hx h4
    ·have hne:e∈P.ins x:=by
      obtain ⟨t,ht⟩:=h4
      rcases List.eq_nil_or_concat (P.ins x) with h0|⟨I',a,h0⟩
      ·exact absurd h0 hx
      ·rw [h0] at ht
       have h5:(t++I')++ [a]=(P.st j).A++ [e]:=by rw [← ht];simp
       have:=(List.append_inj' h5 rfl).2
       rw [h0];simp at this ⊢;exact .inr this.symm
     rw [((h.fL _ _).1 hne).2] at h1
     exact h1 h4
   ·rw [PS.qg,hsh,List.mem_append,List.mem_singleton,hi.sh f]
    show _↔P.E f∧(f∈(P.st j).A++ [e]∨P.hd f∈(P.st j).D)
    rw [List.mem_append,List.mem_singleton]
    constructor
    ·rintro (⟨h4,h5|h5⟩|rfl)
     ·exact ⟨h4, .inl (.inl h5)⟩
     ·exact ⟨h4, .inr h5⟩
     ·exact ⟨he, .inl (.inr rfl)⟩
    ·rintro ⟨h4,(h5|h5)|h5⟩
     ·exact .inl ⟨h4, .inl h5⟩
     ·exact .inr h5
     ·exact .inl ⟨h4, .inr h5⟩
end Go.Ab
end
section
namespace Go.Ab
set_option maxRecDepth 10000
set_option linter.unusedSectionVars false
variable {P:PS}
structure PS.ij (P:PS) (L R:Int→Int) (f0 f1:Int) (low:Int→Int):Prop where
 ne:f0≠f1
 jT:∀ {x u a b v},P.outs x=u++a::b::v→R a=L b
 tU:∀ {x u a b v},P.ins x=u++a::b::v→R a=L b
 fst:∀ {x a u b v},P.ins x=a::u→P.outs x=b::v→L a=L b
 Ds:∀ {x a u b v},P.ins x=u++ [a]→P.outs x=v++ [b]→R a=R b
 s0:∀ {b v},P.outs P.src=b::v→L b=f0
 s1:∀ {b v},P.outs P.src=v++ [b]→R b=f1
 new:∀ {x u a b v},P.outs x=u++a::b::v→low (R a)=x∧R a≠f0∧R a≠f1
 new1:∀ {x u a b v u' a' b' v'},P.outs x=u++a::b::v→P.outs x=u'++a'::b'::v'→R a=R a'→a=a'
theorem AZ {l u v u' v':List Int} {a:Int} (hn:l.Nodup) (h1:l=u++a::v) (h2:l=u'++a::v'):u=u'∧v=v':=by
 induction u generalizing l u' with
 |nil=>
  cases u' with
  |nil=>rw [h1] at h2;simpa using h2
  |cons b u'=>
   rw [h1] at h2
   simp only [List.nil_append,List.cons_append,List.cons.injEq] at h2
   rw [h1,h2.2] at hn
   simp at hn
 |cons b u ih=>
  cases u' with
  |nil=>
   rw [h2] at h1
   simp only [List.nil_append,List.cons_append,List.cons.injEq] at h1
   rw [h2,h1.2] at hn
   simp at hn
  |cons b' u'=>
   have h3:=h1.symm.trans h2
   simp only [List.cons_append,List.cons.injEq] at h3
   rw [h1,List.cons_append,List.nodup_cons] at hn
   obtain ⟨h4,h5⟩:=ih hn.2 rfl h3.2
   exact ⟨by rw [h3.1,h4],h5⟩
theorem gX {l u v:List Int} {a b:Int} (h:l.reverse=u++a::b::v):l=v.reverse++b::a::u.reverse:=by
 have:=congrArg List.reverse h
 simpa using this
theorem PS.ij.AN (h:P.Ok) {L R:Int→Int} {f0 f1:Int} {low:Int→Int} (F:P.ij L R f0 f1 low):P.AN.ij R L f1 f0 low:=
 {ne:=F.ne.symm
  jT:=fun {x u a b v} h=>(F.jT (gX (show (P.outs x).reverse=_ from h))).symm
  tU:=fun {x u a b v} h=>(F.tU (gX (show (P.ins x).reverse=_ from h))).symm
  fst:=fun {x a u b v} h1 h2=>F.Ds (x:=x) (u:=u.reverse) (v:=v.reverse) (by
     have:=congrArg List.reverse (show (P.ins x).reverse=_ from h1);simpa using this) (by
     have:=congrArg List.reverse (show (P.outs x).reverse=_ from h2);simpa using this)
  Ds:=fun {x a u b v} h1 h2=>F.fst (x:=x) (u:=u.reverse) (v:=v.reverse) (by
    have:=congrArg List.reverse (show (P.ins x).reverse=_ from h1);simpa using this) (by
    have:=congrArg List.reverse (show (P.outs x).reverse=_ from h2);simpa using this)
  s0:=fun {b v} h1=>F.s1 (v:=v.reverse) (by
     have:=congrArg List.reverse (show (P.outs P.src).reverse=_ from h1);simpa using this)
  s1:=fun {b v} h1=>F.s0 (v:=v.reverse) (by
     have:=congrArg List.reverse (show (P.outs P.src).reverse=_ from h1);simpa using this)
  new:=fun {x u a b v} h1=>by
   have h2:=gX (show (P.outs x).reverse=_ from h1)
   obtain ⟨h3,h4,h5⟩:=F.new h2
   have h6:=F.jT h2
   rw [← h6];exact ⟨h3,h5,h4⟩
  new1:=fun {x u a b v u' a' b' v'} h1 h2 h3=>by
   have g1:=gX (show (P.outs x).reverse=_ from h1)
   have g2:=gX (show (P.outs x).reverse=_ from h2)
   rw [← F.jT g1, ← F.jT g2] at h3
   have h4:=F.new1 g1 g2 h3
   subst h4
   have:=(AZ (h.mR x) g1 g2).2
   simp only [List.cons.injEq] at this
   exact this.1}
def iq (L R:Int→Int):Int→List Int→Prop
 |_, []=>True
 |f,a::W=>L a=f∧iq L R (R a) W
def jo (R:Int→Int):Int→List Int→Int
 |f, []=>f
 |_,a::W=>jo R (R a) W
theorem cj {L R:Int→Int} :∀ {A B:List Int} {f:Int},iq L R f (A++B)↔iq L R f A∧iq L R (jo R f A) B
 | [],B,f=>by simp [iq,jo]
 |a::A,B,f=>by simp [iq,jo,cj,and_assoc]
theorem cO {R:Int→Int} :∀ {A B:List Int} {f:Int},jo R f (A++B)=jo R (jo R f A) B
 | [],B,f=>rfl
 |a::A,B,f=>by simp [jo,cO]
theorem gY {R:Int→Int} {A:List Int} {a f:Int} :jo R f (A++ [a])=R a:=by rw [cO];rfl
theorem qi {L R:Int→Int} :∀ {X:List Int} {f:Int},(∀u a b v,X=u++a::b::v→R a=L b)→(∀a u,X=a::u→L a=f)→iq L R f X
 | [],f,_,_=>trivial
 |a::X,f,h,h1=>⟨h1 a X rfl,qi (fun u b c v e=>h (a::u) b c v (by rw [e];rfl)) fun b v e=>(h [] a b v (by rw [e];rfl)).symm⟩
theorem A3 {L R:Int→Int} {f:Int} {u v:List Int} {a b:Int} (h:iq L R f (u++a::b::v)):R a=L b:=by
 have:=(cj.1 h).2
 exact this.2.1.symm
theorem cG {l:List Int} (h:l≠ []):∃u a,l=u++ [a]:=by
 rcases List.eq_nil_or_concat l with h1|⟨u,a,h1⟩
 ·exact absurd h1 h
 ·exact ⟨u,a,by rw [h1,List.concat_eq_append]⟩
theorem iR {l:List Int} (h:l≠ []):∃a u,l=a::u:=by
 cases l with
 |nil=>exact absurd rfl h
 |cons a u=>exact ⟨a,u,rfl⟩
structure EY (L R:Int→Int) (f0 f1:Int) (low:Int→Int) (W D:List Int):Prop where
 lk:iq L R f0 W
 en:jo R f0 W=f1
 nd:(W.map R).Nodup
 lo:∀a∈W,R a≠f0∧(R a=f1∨(R a≠f1∧low (R a)∈D))
theorem zu {X U V Y:List Int} {r:Int} (h:(X++(U++ [r])++Y).Nodup) (hV:V.Nodup) (hd:∀z∈V,z∉X∧z≠r∧z∉Y):(X++(V++ [r])++Y).Nodup:=by
 have h1:(X++ [r]++Y).Nodup:=by
  refine List.Nodup.sublist ?_ h
  refine List.Sublist.append (List.Sublist.append (List.Sublist.refl _) ?_) (List.Sublist.refl _)
  exact List.sublist_append_right ..
 have h2:(V++(X++ [r]++Y)).Nodup:=by
  rw [List.nodup_append]
  refine ⟨hV,h1,fun a ha b hb e=> ?_⟩
  subst e
  obtain ⟨g1,g2,g3⟩:=hd a ha
  simp only [List.mem_append,List.mem_singleton] at hb
  rcases hb with (hb|hb)|hb
  ·exact g1 hb
  ·exact g2 hb
  ·exact g3 hb
 refine (List.Perm.nodup_iff ?_).1 h2
 have:X++(V++ [r])++Y=(X++V)++([r]++Y):=by simp
 rw [this]
 have:V++(X++ [r]++Y)=(V++X)++([r]++Y):=by simp
 rw [this]
 exact List.Perm.append_right _ List.perm_append_comm
theorem lZ {R:Int→Int} :∀ {l:List Int},l.Nodup→(∀a∈l,∀b∈l,R a=R b→a=b)→(l.map R).Nodup
 | [],_,_=>by simp
 |a::l,hn,h=>by
  rw [List.nodup_cons] at hn
  rw [List.map_cons,List.nodup_cons]
  refine ⟨fun hm=> ?_,lZ hn.2 fun x hx y hy=>h x (List.mem_cons_of_mem _ hx) y (List.mem_cons_of_mem _ hy)⟩
  obtain ⟨b,hb,e⟩:=List.mem_map.1 hm
  have:=h b (List.mem_cons_of_mem _ hb) a (List.mem_cons_self ..) e
  exact hn.1 (this ▸ hb)
section
variable (h:P.Ok) {L R:Int→Int} {f0 f1:Int} {low:Int→Int} (F:P.ij L R f0 f1 low)
include h F
theorem mo {v:List Int} {b:Int} {x:Int} (hv:P.outs x=v++ [b]) {a:Int} (ha:a∈v):∃u c w,P.outs x=u++a::c::w:=by
 obtain ⟨s,t,rfl⟩:=List.append_of_mem ha
 cases t with
 |nil=>exact ⟨s,b, [],by rw [hv];simp⟩
 |cons c t=>exact ⟨s,c,t++ [b],by rw [hv];simp⟩
theorem zv {x f:Int} (hf:∀b v,P.outs x=b::v→L b=f):iq L R f (P.outs x):=qi (fun u a b v e=>F.jT e) fun a u e=>hf a u e
theorem Dt {x:Int} {v:List Int} {b:Int} (hv:P.outs x=v++ [b]):(v.map R).Nodup∧∀z∈v.map R,low z=x∧z≠f0∧z≠f1:=by
 have hn:=h.mR x
 rw [hv,List.nodup_append] at hn
 refine ⟨lZ hn.1 fun a ha a' JY e=> ?_,fun z hz=> ?_⟩
 ·obtain ⟨u,c,w,h1⟩:=mo h F hv ha
  obtain ⟨u',c',w',h2⟩:=mo h F hv JY
  exact F.new1 h1 h2 e
 ·obtain ⟨a,ha,rfl⟩:=List.mem_map.1 hz
  obtain ⟨u,c,w,h1⟩:=mo h F hv ha
  exact F.new h1
theorem EY.step {A C D:List Int} {x:Int} (hi:EY L R f0 f1 low (A++P.ins x++C) D) (hI:P.ins x≠ []) (hO:P.outs x≠ []) (hx:x∉D):EY L R f0 f1 low (A++P.outs x++C) (D++ [x]):=by
 obtain ⟨u,a,hu⟩:=cG hI
 obtain ⟨v,b,hv⟩:=cG hO
 obtain ⟨a0,u0,AO⟩:=iR hI
 obtain ⟨b0,v0,qj⟩:=iR hO
 have hab:=F.Ds hu hv
 have h0:=F.fst AO qj
 obtain ⟨l1,l2⟩:=cj.1 hi.lk
 obtain ⟨l3,l4⟩:=cj.1 l1
 have MB:∀f,jo R f (P.ins x)=R a:=fun f=>by rw [hu,gY]
 have MC:∀f,jo R f (P.outs x)=R b:=fun f=>by rw [hv,gY]
 have hL:L a0=jo R f0 A:=by rw [AO] at l4;exact l4.1
 obtain ⟨n1,n2⟩:=Dt h F hv
 have cg:=hi.nd
 have hlo:=hi.lo
 refine ⟨?_, ?_, ?_,fun c hc=> ?_⟩
 ·rw [cj,cj]
  refine ⟨⟨l3,zv h F fun b' v' e=> ?_⟩, ?_⟩
  ·rw [qj] at e
   simp only [List.cons.injEq] at e
   rw [← e.1, ← h0,hL]
  ·rw [cO,MC]
   rw [cO,MB] at l2
   rw [← hab];exact l2
 ·have:=hi.en
  rw [cO,cO,MB] at this
  rw [cO,cO,MC, ← hab];exact this
 ·rw [List.map_append,List.map_append,hv,List.map_append]
  rw [List.map_append,List.map_append,hu,List.map_append] at cg
  simp only [List.map_cons,List.map_nil] at cg ⊢
  rw [← hab]
  have hold:∀c∈A++P.ins x++C,R c∉v.map R:=fun c hc hz=>by
   obtain ⟨g1,g2,g3⟩:=n2 _ hz
   rcases (hlo c hc).2 with h1|⟨_,h1⟩
   ·exact g3 h1
   ·rw [g1] at h1;exact hx h1
  refine zu cg n1 fun z hz=>⟨fun De=> ?_,fun De=> ?_,fun De=> ?_⟩
  ·obtain ⟨c,hc,rfl⟩:=List.mem_map.1 De
   exact hold c (by simp [hc]) hz
  ·exact hold a (by rw [hu];simp) (De ▸ hz)
  ·obtain ⟨c,hc,rfl⟩:=List.mem_map.1 De
   exact hold c (by simp [hc]) hz
 ·have hold:∀c∈A++P.ins x++C,R c≠f0∧(R c=f1∨(R c≠f1∧low (R c)∈D++ [x])):=fun c hc=>by
   obtain ⟨g1,g2⟩:=hlo c hc
   exact ⟨g1,g2.imp id fun ⟨g3,g4⟩=>⟨g3,List.mem_append.2 (.inl g4)⟩⟩
  simp only [List.mem_append] at hc
  rcases hc with (hc|hc)|hc
  ·exact hold c (by simp [hc])
  ·rw [hv,List.mem_append,List.mem_singleton] at hc
   rcases hc with hc|rfl
   ·obtain ⟨g1,g2,g3⟩:=n2 (R c) (List.mem_map_of_mem hc)
    exact ⟨g2, .inr ⟨g3,by rw [g1];simp⟩⟩
   ·have:=hold a (by rw [hu];simp)
    rw [hab] at this;exact this
  ·exact hold c (by simp [hc])
end
end Go.Ab
end
section
namespace Go.Ab
set_option maxRecDepth 10000
set_option linter.unusedSectionVars false
variable {P:PS}
inductive PS.A4 (P:PS) (x:Int):Int→Prop
 |refl:P.A4 x x
 |step {e:Int} :P.A4 x (P.tl e)→P.E e→P.A4 x (P.hd e)
theorem PS.A4.trans {x y z:Int} (h1:P.A4 x y) (h2:P.A4 y z):P.A4 x z:=by
 induction h2 with
 |refl=>exact h1
 |step _ he ih=>exact .step ih he
inductive PS.Lp (P:PS) (L R:Int→Int) (F:Int):Int→Prop
 |refl:P.Lp L R F F
 |step {e:Int} :P.Lp L R F (L e)→P.E e→P.Lp L R F (R e)
theorem PS.Lp.trans {L R:Int→Int} {x y z:Int} (h1:P.Lp L R x y) (h2:P.Lp L R y z):P.Lp L R x z:=by
 induction h2 with
 |refl=>exact h1
 |step _ he ih=>exact .step ih he
theorem PS.Lp.head {L R:Int→Int} {e z:Int} (he:P.E e) (h2:P.Lp L R (R e) z):P.Lp L R (L e) z:=(PS.Lp.step .refl he).trans h2
theorem PS.Lp.AN {L R:Int→Int} {x y:Int} (h1:P.Lp L R x y):P.AN.Lp R L y x:=by
 induction h1 with
 |refl=>exact .refl
 | @step e h1 he ih=>exact PS.Lp.head (P:=P.AN) (L:=R) (R:=L) (e:=e) he ih
theorem PS.A4.AN {x y:Int} (h1:P.A4 x y):P.AN.A4 x y:=by
 induction h1 with
 |refl=>exact .refl
 |step h1 he ih=>exact PS.A4.step (P:=P.AN) ih he
section
variable (h:P.Ok)
include h
theorem A5 {j:Nat} (hj:j≤P.m):∃k,P.Row k ((P.st j).A++(P.st j).B) (P.st j).D:=(P.inv h j hj).row
theorem yo {j:Nat} (hj:j<P.m):∃B,(P.st j).B=P.sh j::B:=by
 obtain ⟨e,B,hB⟩:=(P.inv h j (by omega)).more h hj
 refine ⟨B, ?_⟩
 have:P.sh j=e:=by unfold PS.sh;rw [hB];rfl
 rw [this,hB]
theorem Du {e:Int} (he:P.E e):∃j,j<P.m∧P.sh j=e:=by
 have hi:=P.inv h P.m (Nat.le_refl _)
 refine Decidable.byContradiction fun hne=> ?_
 have hne:e∉P.vk P.m:=fun hm=>hne (PS.Dr.1 hm)
 have cg:(e::P.vk P.m).Nodup:=List.nodup_cons.2 ⟨hne,hi.nd⟩
 have:=eu (m:=(List.range P.m).map Int.ofNat) cg fun x hx=>by
  have hE:P.E x:=by
   rcases List.mem_cons.1 hx with rfl|hx
   ·exact he
   ·exact ((hi.sh x).1 hx).1
  have h1:=hE.1;have h2:=hE.2
  exact List.mem_map.2 ⟨x.toNat,List.mem_range.2 (by omega),by simp;omega⟩
 simp [PS.ym] at this
 omega
theorem Dv {j:Nat} (hj:j<P.m):∃B,(P.st j).B=P.sh j::B∧((∃A',(P.st j).A++ [P.sh j]=A'++P.ins (P.hd (P.sh j))∧P.ins (P.hd (P.sh j))≠ []∧P.st (j+1)=⟨A',P.outs (P.hd (P.sh j))++B,(P.st j).D++ [P.hd (P.sh j)]⟩)∨
 (¬P.ins (P.hd (P.sh j))<:+(P.st j).A++ [P.sh j]∧P.st (j+1)=⟨(P.st j).A++ [P.sh j],B,(P.st j).D⟩)):=by
 obtain ⟨B,hB⟩:=yo h hj
 obtain ⟨k,hr⟩:=A5 h (Nat.le_of_lt hj)
 exact ⟨B,hB,(PS.qh h hr hB).2⟩
variable {L R:Int→Int} {f0 f1:Int} {low:Int→Int} (F:P.ij L R f0 f1 low)
include F
end
end Go.Ab
end
section
namespace Go.Ab
set_option maxRecDepth 10000
set_option linter.unusedSectionVars false
variable {P:PS}
section
variable (h:P.Ok) {L R:Int→Int} {f0 f1:Int} {low:Int→Int} (F:P.ij L R f0 f1 low)
include h F
theorem sP {x:Int} (hx:x≠P.src):∀ {j:Nat},j≤P.m→x∈(P.st j).D→∃i B,i<j∧x∉(P.st i).D∧P.hd (P.sh i)=x∧(∃u,P.ins x=u++ [P.sh i])∧(∀e∈P.ins x,e∈P.vk (i+1))∧(P.st (i+1)).B=P.outs x++B∧(P.st i).B=P.sh i::B
 |0,_,hm=>by
  have:x∈ [P.src]:=hm
  simp at this;exact absurd this hx
 |j+1,hj,hm=>by
  by_cases hp:x∈(P.st j).D
  ·obtain ⟨i,B,h1,h2⟩:=sP hx (by omega) hp
   exact ⟨i,B,by omega,h2⟩
  ·obtain ⟨B,hB,hc⟩:=Dv h (show j<P.m by omega)
   rcases hc with ⟨A',h1,h2,h3⟩|⟨h1,h3⟩
   ·rw [h3] at hm
    rcases List.mem_append.1 hm with hm|hm
    ·exact absurd hm hp
    ·rw [List.mem_singleton] at hm
     subst hm
     refine ⟨j,B,by omega,hp,rfl, ?_,fun e he=> ?_,by rw [h3],hB⟩
     ·obtain ⟨u,a,hu⟩:=cG h2
      rw [hu, ← List.append_assoc] at h1
      have:=(List.append_inj' h1 rfl).2
      simp only [List.cons.injEq,and_true] at this
      exact ⟨u,by rw [hu,this]⟩
     ·refine ((P.inv h (j+1) hj).sh e).2 ⟨((h.fL _ _).1 he).1, .inr ?_⟩
      rw [h3,((h.fL _ _).1 he).2];simp
   ·rw [h3] at hm;exact absurd hm hp
end
section
variable (h:P.Ok) {L R:Int→Int} {f0 f1:Int} {low:Int→Int} (F:P.ij L R f0 f1 low) {e f:Int} (he:P.E e) (hf:P.E f)
include h F he hf
end
section
variable (h:P.Ok) {L R:Int→Int} {f0 f1:Int} {low:Int→Int} (F:P.ij L R f0 f1 low) {e f:Int} (he:P.E e) (hf:P.E f)
include h F he hf
end
end Go.Ab
end
section
namespace Go.Ab
set_option maxRecDepth 10000
set_option linter.unusedSectionVars false
variable {P:PS}
structure PS.Hi (P:PS) (R:Int→Int) (f0 f1:Int) (hi:Int→Int):Prop where
 mid:∀ {x u a b v},P.ins x=u++a::b::v→hi (R a)=x
 h0:hi f0=P.Gs
 h1:hi f1=P.Gs
def PS.JZ (P:PS) (a:Int):Prop:=∃x u b v,P.outs x=u++a::b::v
section
variable (h:P.Ok) {L R:Int→Int} {f0 f1:Int} {low:Int→Int} (F:P.ij L R f0 f1 low)
include h F
theorem PS.Hi.AN {hi:Int→Int} (H:P.Hi R f0 f1 hi):P.AN.Hi L f1 f0 hi:=
 {mid:=fun {x u a b v} e=>by
   have e:=gX (show (P.ins x).reverse=_ from e)
   rw [← F.tU e];exact H.mid e
  h0:=H.h1
  h1:=H.h0}
theorem zw {e:Int} (he:P.E e) (hs:P.tl e≠P.src):P.ins (P.tl e)≠ []:=by
 obtain ⟨i,hi,rfl⟩:=Du h he
 obtain ⟨k,hr⟩:=A5 h (Nat.le_of_lt hi)
 obtain ⟨B,hB⟩:=yo h hi
 have hm:=(h.lD hr (P.sh i)).1 (by rw [hB];simp)
 obtain ⟨j,B,_,_,_,⟨u,hu⟩,_⟩:=sP h F hs (Nat.le_of_lt hi) hm.2.1
 rw [hu];simp
variable {L' R':Int→Int} {Nt MD:Int} {low':Int→Int} (F':P.ij L' R' Nt MD low')
include F'
theorem Ex:∀ {d:Nat} {e:Int},P.F5 (P.tl e)<d→P.E e→(R e=f1∧R' e=MD)∨∃a,P.JZ a∧P.F5 (P.tl a)≤P.F5 (P.tl e)∧R e=R a∧R' e=R' a
 |0,e,hd,_=>by omega
 |d+1,e,hd,he=>by
  have hem:=(h.mQ (P.tl e) e).2 ⟨he,rfl⟩
  obtain ⟨u,v,hu⟩:=List.append_of_mem hem
  cases v with
  |cons b v=>exact .inr ⟨e,⟨_,u,b,v,hu⟩,Nat.le_refl _,rfl,rfl⟩
  |nil=>
   by_cases hs:P.tl e=P.src
   ·rw [hs] at hu
    exact .inl ⟨F.s1 hu,F'.s1 hu⟩
   ·obtain ⟨w,c,hw⟩:=cG (zw h F he hs)
    have e1:=F.Ds hw hu
    have e2:=F'.Ds hw hu
    obtain ⟨hc,hh⟩:=(h.fL (P.tl e) c).1 (by rw [hw];simp)
    have hp:=h.tO c hc
    rw [hh] at hp
    rw [← e1, ← e2]
    rcases Ex (d:=d) (e:=c) (by omega) hc with h1|⟨a,h1,h2,h3⟩
    ·exact .inl h1
    ·exact .inr ⟨a,h1,by omega,h3⟩
end
section
variable (h:P.Ok) {L R:Int→Int} {f0 f1:Int} {low:Int→Int} (F:P.ij L R f0 f1 low)
include h F
variable {hi:Int→Int} (H:P.Hi R f0 f1 hi)
include H
end
def J0 (t h:Int→Int) (l:List Int) (x:Int):Int:=match l.find? (fun i=>decide (t i=x)) with
 |some i=>h i
 |none=>x
def J1 (t h:Int→Int) (l:List Int) (x:Int):Nat→Int
 |0=>x
 |k+1=>J0 t h l (J1 t h l x k)
section
variable (h:P.Ok) {L R:Int→Int} {f0 f1:Int} {low:Int→Int} (F:P.ij L R f0 f1 low) {hi:Int→Int} (H:P.Hi R f0 f1 hi)
include h F H
end
end Go.Ab
end
