/- A part of the proof. -/
set_option linter.unusedSimpArgs false
set_option linter.unusedVariables false
section
namespace Go.Ab
set_option maxRecDepth 10000
structure PS where
 m:Nat
 src:Int
 Er:Int
 tl:Int→Int
 hd:Int→Int
 ins:Int→List Int
 outs:Int→List Int
 CH:Int→Nat
 Row:Nat→List Int→List Int→Prop
 k0:Nat
def PS.E (P:PS) (e:Int):Prop:=0≤e∧e<P.m
structure PS.Ok (P:PS):Prop where
 dz:∀x e,e∈P.outs x↔P.E e∧P.tl e=x
 bV:∀x e,e∈P.ins x↔P.E e∧P.hd e=x
 mJ:∀x,(P.outs x).Nodup
 w5:∀x,(P.ins x).Nodup
 nW:∀e,P.E e→P.CH (P.tl e)<P.CH (P.hd e)
 CV:P.Row P.k0 (P.outs P.src) [P.src]
 ko:∀ {k W D},P.Row k W D→W.Nodup
 di:∀ {k W D},P.Row k W D→∀e,e∈W↔P.E e∧P.tl e∈D∧P.hd e∉D
 kq:∀ {k W D},P.Row (k+1) W D→∃x A C,W=A++P.ins x++C∧P.ins x≠ []
 mK:∀ {k W D x A C},P.Row k W D→W=A++P.ins x++C→P.ins x≠ []→∃k',k=k'+1∧P.Row k' (A++P.outs x++C) (D++ [x])
 k4:∀ {W D},P.Row 0 W D→∀e,P.E e→P.hd e∈D
 pK:∀ {k W D},P.Row k W D→P.src∈D
 pL:∀ {k W D},P.Row k W D→P.Er∈D→k=0
 qa:P.ins P.src= []
 mL:∀x,P.ins x≠ []→(P.outs x= []↔x=P.Er)
theorem nZ {l:List Int} :l.reverse.Nodup↔l.Nodup:=(List.reverse_perm l).nodup_iff
def PS.Al (P:PS):PS:= {P with ins:=fun x=>(P.ins x).reverse,outs:=fun x=>(P.outs x).reverse,Row:=fun k W D=>P.Row k W.reverse D}
theorem PS.Ok.Al {P:PS} (h:P.Ok):P.Al.Ok:=
 {dz:=fun x e=>by show e∈(P.outs x).reverse↔_;rw [List.mem_reverse];exact h.dz x e
  bV:=fun x e=>by show e∈(P.ins x).reverse↔_;rw [List.mem_reverse];exact h.bV x e
  mJ:=fun x=>by show (P.outs x).reverse.Nodup;exact nZ.2 (h.mJ x)
  w5:=fun x=>by show (P.ins x).reverse.Nodup;exact nZ.2 (h.w5 x)
  nW:=h.nW
  CV:=by show P.Row _ (P.outs P.src).reverse.reverse _;rw [List.reverse_reverse];exact h.CV
  ko:=fun {k W D} hr=>nZ.1 (h.ko (show P.Row k W.reverse D from hr))
  di:=fun {k W D} hr e=>by
   have:=h.di (show P.Row k W.reverse D from hr) e
   rw [List.mem_reverse] at this
   exact this
  kq:=fun {k W D} hr=>by
   obtain ⟨x,A,C,h1,h2⟩:=h.kq (show P.Row (k+1) W.reverse D from hr)
   refine ⟨x,C.reverse,A.reverse, ?_,fun h3=>h2 (List.reverse_eq_nil_iff.1 h3)⟩
   show W=C.reverse++(P.ins x).reverse++A.reverse
   rw [← List.reverse_reverse W,h1]
   simp
  mK:=fun {k W D x A C} hr h1 h2=>by
   have h1:W=A++(P.ins x).reverse++C:=h1
   obtain ⟨k',h3,h4⟩:=h.mK (x:=x) (A:=C.reverse) (C:=A.reverse) (show P.Row k W.reverse D from hr) (by rw [h1];simp) (fun h3=>h2 (List.reverse_eq_nil_iff.2 h3))
   refine ⟨k',h3, ?_⟩
   show P.Row k' (A++(P.outs x).reverse++C).reverse (D++ [x])
   have e:(A++(P.outs x).reverse++C).reverse=C.reverse++P.outs x++A.reverse:=by simp
   rw [e];exact h4
  k4:=fun {W D} hr=>h.k4 (show P.Row 0 W.reverse D from hr)
  pK:=fun {k W D} hr=>h.pK (show P.Row k W.reverse D from hr)
  pL:=fun {k W D} hr=>h.pL (show P.Row k W.reverse D from hr)
  qa:=by show (P.ins P.src).reverse= [];rw [h.qa];rfl
  mL:=fun x hx=>by
   have h2:P.ins x≠ []:=fun h3=>hx (by show (P.ins x).reverse= [];rw [h3];rfl)
   show (P.outs x).reverse= []↔_
   rw [List.reverse_eq_nil_iff];exact h.mL x h2}
structure MS where
 A:List Int
 B:List Int
 D:List Int
def PS.next (P:PS) (s:MS):MS:=
 match s.B with
 | []=>s
 |e::B=>if P.ins (P.hd e)<:+s.A++ [e] then ⟨(s.A++ [e]).take (s.A.length+1 - (P.ins (P.hd e)).length),P.outs (P.hd e)++B,s.D++ [P.hd e]⟩ else ⟨s.A++ [e],B,s.D⟩
def PS.st (P:PS):Nat→MS
 |0=>⟨[],P.outs P.src, [P.src]⟩
 |j+1=>P.next (P.st j)
def PS.sh (P:PS) (j:Nat):Int:=(P.st j).B.headD 0
def PS.n0 (P:PS) (j:Nat):List Int:=(List.range j).map P.sh
variable {P:PS}
theorem PS.qb {j:Nat} :P.n0 (j+1)=P.n0 j++ [P.sh j]:=by simp [PS.n0,List.range_succ]
theorem PS.pM {j:Nat} :(P.n0 j).length=j:=by simp [PS.n0]
theorem PS.tE {j:Nat} {e:Int} :e∈P.n0 j↔∃i,i<j∧P.sh i=e:=by simp [PS.n0]
structure PS.Inv (P:PS) (j:Nat) (s:MS):Prop where
 row:∃k,P.Row k (s.A++s.B) s.D
 no:∀h,P.ins h≠ []→¬P.ins h<:+:s.A
 nd:(P.n0 j).Nodup
 sh:∀e,e∈P.n0 j↔P.E e∧(e∈s.A∨P.hd e∈s.D)
 len:j≤P.m
theorem eO:∀ {l m:List Int},l.Nodup→(∀i∈l,i∈m)→l.length≤m.length
 | [],_,_,_=>Nat.zero_le _
 |a::l,m,hn,h=>by
  rw [List.nodup_cons] at hn
  have ha:=h a (List.mem_cons_self ..)
  have:=eO (m:=m.erase a) hn.2 fun i hi=>(List.mem_erase_of_ne (show i≠a from fun e=>hn.1 (by rw [← e];exact hi))).2 (h i (List.mem_cons_of_mem _ hi))
  rw [List.length_erase_of_mem ha] at this
  have:=List.length_pos_of_mem ha
  rw [List.length_cons];omega
theorem oa {l:List Int} {m:Nat} (hall:∀e:Int,0≤e→e<m→e∈l):m≤l.length:=by
 have:=eO (l:=(List.range m).map Int.ofNat) (m:=l) (List.pairwise_map.2 (List.nodup_range.imp fun hab e=>hab (Int.ofNat.inj e))) fun x hx=>by
  obtain ⟨a,ha,rfl⟩:=List.mem_map.1 hx
  have:=List.mem_range.1 ha
  exact hall _ (by simp) (by simp;omega)
 simpa using this
theorem uX {X Y:List Int} (h:X<:+Y):Y=Y.take (Y.length - X.length)++X:=by
 obtain ⟨t,rfl⟩:=h
 simp
theorem PS.Inv.more (h:P.Ok) {j:Nat} {s:MS} (hi:P.Inv j s) (hj:j<P.m):∃e B,s.B=e::B:=by
 cases hB:s.B with
 |cons e B=>exact ⟨e,B,rfl⟩
 |nil=>
  exfalso
  obtain ⟨k,hr⟩:=hi.row
  rw [hB,List.append_nil] at hr
  cases k with
  |succ k=>
   obtain ⟨x,A,C,h1,h2⟩:=h.kq hr
   exact hi.no x h2 ⟨A,C,h1.symm⟩
  |zero=>
   have hall:∀e,P.E e→e∈P.n0 j:=fun e he=>(hi.sh e).2 ⟨he, .inr (h.k4 hr e he)⟩
   have:=oa (fun e h1 h2=>hall e ⟨h1,h2⟩)
   rw [PS.pM] at this
   omega
theorem PS.yW {s:MS} {e:Int} {B:List Int} (hB:s.B=e::B):P.next s=if P.ins (P.hd e)<:+s.A++ [e] then ⟨(s.A++ [e]).take (s.A.length+1 - (P.ins (P.hd e)).length),P.outs (P.hd e)++B,s.D++ [P.hd e]⟩ else ⟨s.A++ [e],B,s.D⟩:=by
 unfold PS.next;rw [hB]
theorem PS.qc (h:P.Ok) {s:MS} {k:Nat} {e:Int} {B:List Int} (hr:P.Row k (s.A++s.B) s.D) (hB:s.B=e::B):
 P.E e∧((∃A',s.A++ [e]=A'++P.ins (P.hd e)∧P.ins (P.hd e)≠ []∧P.next s=⟨A',P.outs (P.hd e)++B,s.D++ [P.hd e]⟩)∨(¬P.ins (P.hd e)<:+s.A++ [e]∧P.next s=⟨s.A++ [e],B,s.D⟩)):=by
 have he:P.E e:=((h.di hr e).1 (by rw [hB];simp)).1
 refine ⟨he, ?_⟩
 rw [PS.yW hB]
 by_cases hs:P.ins (P.hd e)<:+s.A++ [e]
 ·rw [if_pos hs]
  refine .inl ⟨_, ?_,fun h0=> ?_,rfl⟩
  ·have:=uX hs
   simpa using this
  ·have:=(h.bV (P.hd e) e).2 ⟨he,rfl⟩
   rw [h0] at this;cases this
 ·rw [if_neg hs];exact .inr ⟨hs,rfl⟩
theorem w6 {X A:List Int} {e:Int} (h:X<:+:A++ [e]):X<:+:A∨X<:+A++ [e]:=by
 obtain ⟨s,t,ht⟩:=h
 rcases List.eq_nil_or_concat t with rfl|⟨t',a,rfl⟩
 ·rw [List.append_nil] at ht;exact .inr ⟨s,ht⟩
 ·left
  refine ⟨s,t', ?_⟩
  have:s++X++t'++ [a]=A++ [e]:=by rw [← ht];simp
  exact (List.append_inj' this rfl).1
theorem PS.inv (h:P.Ok):∀j,j≤P.m→P.Inv j (P.st j)
 |0,_=>⟨⟨_,h.CV⟩,fun x hx hs=>hx (by
    have:P.ins x<:+: []:=hs
    simpa using this),by simp [PS.n0],fun e=>(by
     simp only [PS.n0,List.range_zero,List.map_nil,List.not_mem_nil,false_iff]
     rintro ⟨he,h1|h1⟩
     ·cases h1
     ·have h1:P.hd e∈ [P.src]:=h1
      have h2:P.hd e=P.src:=by simpa using h1
      have:=(h.bV P.src e).2 ⟨he,h2⟩
      rw [h.qa] at this;cases this),Nat.zero_le _⟩
 |j+1,hj=>by
  have hi:=PS.inv h j (by omega)
  obtain ⟨e,B,hB⟩:=hi.more h (by omega)
  obtain ⟨k,hr⟩:=hi.row
  have hsh:P.sh j=e:=by unfold PS.sh;rw [hB];rfl
  have MN:e∈(P.st j).A++(P.st j).B:=by rw [hB];simp
  have hm:=(h.di hr e).1 MN
  have bT:=h.ko hr
  have MO:e∉(P.st j).A:=fun hA=>by
   rw [List.nodup_append] at bT
   exact bT.2.2 e hA e (by rw [hB];simp) rfl
  have hnew:e∉P.n0 j:=fun h1=>by
   rcases ((hi.sh e).1 h1).2 with h2|h2
   ·exact MO h2
   ·exact hm.2.2 h2
  have FU:(P.n0 (j+1)).Nodup:=by
   rw [PS.qb,hsh,List.nodup_append]
   exact ⟨hi.nd,by simp,fun a ha b hb=>by
    rw [List.mem_singleton] at hb
    subst hb
    intro e2;exact hnew (e2 ▸ ha)⟩
  obtain ⟨he,hc⟩:=PS.qc h hr hB
  have hst:P.st (j+1)=P.next (P.st j):=rfl
  rw [hst]
  rcases hc with ⟨A',h1,h2,h3⟩|⟨h1,h3⟩
  ·rw [h3]
   have hrow:(P.st j).A++(P.st j).B=A'++P.ins (P.hd e)++B:=by rw [hB, ← h1];simp
   obtain ⟨k',rfl,hr'⟩:=h.mK hr hrow h2
   refine ⟨⟨k',by simpa using hr'⟩,fun x hx hs=> ?_,FU,fun f=> ?_,hj⟩
   ·have hs:P.ins x<:+:A':=hs
    have hA:¬P.ins x<:+:(P.st j).A:=hi.no x hx
    obtain ⟨u,v,huv⟩:=hs
    rcases List.eq_nil_or_concat (P.ins (P.hd e)) with h0|⟨I',a,h0⟩
    ·exact h2 h0
    ·rw [h0, ← List.concat_eq_append,List.concat_eq_append] at h1
     have h4:(P.st j).A++ [e]=(A'++I')++ [a]:=by rw [h1];simp
     have h5:=(List.append_inj' h4 rfl).1
     exact hA ⟨u,v++I',by rw [h5, ← huv];simp⟩
   ·rw [PS.qb,hsh,List.mem_append,List.mem_singleton,hi.sh f]
    show _↔P.E f∧(f∈A'∨P.hd f∈(P.st j).D++ [P.hd e])
    constructor
    ·rintro (⟨h4,h5|h5⟩|rfl)
     ·have:f∈A'++P.ins (P.hd e):=by rw [← h1];exact List.mem_append.2 (.inl h5)
      rcases List.mem_append.1 this with h6|h6
      ·exact ⟨h4, .inl h6⟩
      ·exact ⟨h4, .inr (by rw [((h.bV _ _).1 h6).2];simp)⟩
     ·exact ⟨h4, .inr (List.mem_append.2 (.inl h5))⟩
     ·exact ⟨he, .inr (by simp)⟩
    ·rintro ⟨h4,h5|h5⟩
     ·have:f∈(P.st j).A++ [e]:=by rw [h1];exact List.mem_append.2 (.inl h5)
      rcases List.mem_append.1 this with h6|h6
      ·exact .inl ⟨h4, .inl h6⟩
      ·exact .inr (by simpa using h6)
     ·rcases List.mem_append.1 h5 with h6|h6
      ·exact .inl ⟨h4, .inr h6⟩
      ·have h6:P.hd f=P.hd e:=by simpa using h6
       have h7:f∈P.ins (P.hd e):=(h.bV _ _).2 ⟨h4,h6⟩
       have:f∈(P.st j).A++ [e]:=by rw [h1];exact List.mem_append.2 (.inr h7)
       rcases List.mem_append.1 this with h8|h8
       ·exact .inl ⟨h4, .inl h8⟩
       ·exact .inr (by simpa using h8)
  ·rw [h3]
   refine ⟨⟨k,by simpa [hB] using hr⟩,fun x hx hs=> ?_,FU,fun f=> ?_,hj⟩
   ·rcases w6 hs with h4|h4
    ·exact hi.no x hx h4
    ·have hne:e∈P.ins x:=by
      obtain ⟨t,ht⟩:=h4
      rcases List.eq_nil_or_concat (P.ins x) with h0|⟨I',a,h0⟩
      ·exact absurd h0 hx
      ·rw [h0] at ht
       have h5:(t++I')++ [a]=(P.st j).A++ [e]:=by rw [← ht];simp
       have:=(List.append_inj' h5 rfl).2
       rw [h0];simp at this ⊢;exact .inr this.symm
     rw [((h.bV _ _).1 hne).2] at h1
     exact h1 h4
   ·rw [PS.qb,hsh,List.mem_append,List.mem_singleton,hi.sh f]
    show _↔P.E f∧(f∈(P.st j).A++ [e]∨P.hd f∈(P.st j).D)
    rw [List.mem_append,List.mem_singleton]
    constructor
    ·rintro (⟨h4,h5|h5⟩|rfl)
     ·exact ⟨h4, .inl (.inl h5)⟩
     ·exact ⟨h4, .inr h5⟩
     ·exact ⟨he, .inl (.inr rfl)⟩
    ·rintro ⟨h4,(h5|h5)|h5⟩
     ·exact .inl ⟨h4, .inl h5⟩
     ·exact .inr h5
     ·exact .inl ⟨h4, .inr h5⟩
end Go.Ab
end
section
namespace Go.Ab
set_option maxRecDepth 10000
set_option linter.unusedSectionVars false
variable {P:PS}
structure PS.gB (P:PS) (L R:Int→Int) (f0 f1:Int) (low:Int→Int):Prop where
 ne:f0≠f1
 fY:∀ {x u a b v},P.outs x=u++a::b::v→R a=L b
 lW:∀ {x u a b v},P.ins x=u++a::b::v→R a=L b
 fst:∀ {x a u b v},P.ins x=a::u→P.outs x=b::v→L a=L b
 As:∀ {x a u b v},P.ins x=u++ [a]→P.outs x=v++ [b]→R a=R b
 s0:∀ {b v},P.outs P.src=b::v→L b=f0
 s1:∀ {b v},P.outs P.src=v++ [b]→R b=f1
 new:∀ {x u a b v},P.outs x=u++a::b::v→low (R a)=x∧R a≠f0∧R a≠f1
 new1:∀ {x u a b v u' a' b' v'},P.outs x=u++a::b::v→P.outs x=u'++a'::b'::v'→R a=R a'→a=a'
theorem Au {l u v u' v':List Int} {a:Int} (hn:l.Nodup) (h1:l=u++a::v) (h2:l=u'++a::v'):u=u'∧v=v':=by
 induction u generalizing l u' with
 |nil=>
  cases u' with
  |nil=>rw [h1] at h2;simpa using h2
  |cons b u'=>
   rw [h1] at h2
   simp only [List.nil_append,List.cons_append,List.cons.injEq] at h2
   rw [h1,h2.2] at hn
   simp at hn
 |cons b u ih=>
  cases u' with
  |nil=>
   rw [h2] at h1
   simp only [List.nil_append,List.cons_append,List.cons.injEq] at h1
   rw [h2,h1.2] at hn
   simp at hn
  |cons b' u'=>
   have h3:=h1.symm.trans h2
   simp only [List.cons_append,List.cons.injEq] at h3
   rw [h1,List.cons_append,List.nodup_cons] at hn
   obtain ⟨h4,h5⟩:=ih hn.2 rfl h3.2
   exact ⟨by rw [h3.1,h4],h5⟩
theorem gP {l u v:List Int} {a b:Int} (h:l.reverse=u++a::b::v):l=v.reverse++b::a::u.reverse:=by
 have:=congrArg List.reverse h
 simpa using this
theorem PS.gB.Al (h:P.Ok) {L R:Int→Int} {f0 f1:Int} {low:Int→Int} (F:P.gB L R f0 f1 low):P.Al.gB R L f1 f0 low:=
 {ne:=F.ne.symm
  fY:=fun {x u a b v} h=>(F.fY (gP (show (P.outs x).reverse=_ from h))).symm
  lW:=fun {x u a b v} h=>(F.lW (gP (show (P.ins x).reverse=_ from h))).symm
  fst:=fun {x a u b v} h1 h2=>F.As (x:=x) (u:=u.reverse) (v:=v.reverse) (by
     have:=congrArg List.reverse (show (P.ins x).reverse=_ from h1);simpa using this) (by
     have:=congrArg List.reverse (show (P.outs x).reverse=_ from h2);simpa using this)
  As:=fun {x a u b v} h1 h2=>F.fst (x:=x) (u:=u.reverse) (v:=v.reverse) (by
    have:=congrArg List.reverse (show (P.ins x).reverse=_ from h1);simpa using this) (by
    have:=congrArg List.reverse (show (P.outs x).reverse=_ from h2);simpa using this)
  s0:=fun {b v} h1=>F.s1 (v:=v.reverse) (by
     have:=congrArg List.reverse (show (P.outs P.src).reverse=_ from h1);simpa using this)
  s1:=fun {b v} h1=>F.s0 (v:=v.reverse) (by
     have:=congrArg List.reverse (show (P.outs P.src).reverse=_ from h1);simpa using this)
  new:=fun {x u a b v} h1=>by
   have h2:=gP (show (P.outs x).reverse=_ from h1)
   obtain ⟨h3,h4,h5⟩:=F.new h2
   have h6:=F.fY h2
   rw [← h6];exact ⟨h3,h5,h4⟩
  new1:=fun {x u a b v u' a' b' v'} h1 h2 h3=>by
   have g1:=gP (show (P.outs x).reverse=_ from h1)
   have g2:=gP (show (P.outs x).reverse=_ from h2)
   rw [← F.fY g1, ← F.fY g2] at h3
   have h4:=F.new1 g1 g2 h3
   subst h4
   have:=(Au (h.mJ x) g1 g2).2
   simp only [List.cons.injEq] at this
   exact this.1}
def fJ (L R:Int→Int):Int→List Int→Prop
 |_, []=>True
 |f,a::W=>L a=f∧fJ L R (R a) W
def gI (R:Int→Int):Int→List Int→Int
 |f, []=>f
 |_,a::W=>gI R (R a) W
theorem bN {L R:Int→Int} :∀ {A B:List Int} {f:Int},fJ L R f (A++B)↔fJ L R f A∧fJ L R (gI R f A) B
 | [],B,f=>by simp [fJ,gI]
 |a::A,B,f=>by simp [fJ,gI,bN,and_assoc]
theorem cj {R:Int→Int} :∀ {A B:List Int} {f:Int},gI R f (A++B)=gI R (gI R f A) B
 | [],B,f=>rfl
 |a::A,B,f=>by simp [gI,cj]
theorem cC {R:Int→Int} {A:List Int} {a f:Int} :gI R f (A++ [a])=R a:=by rw [cj];rfl
theorem mM {L R:Int→Int} :∀ {X:List Int} {f:Int},(∀u a b v,X=u++a::b::v→R a=L b)→(∀a u,X=a::u→L a=f)→fJ L R f X
 | [],f,_,_=>trivial
 |a::X,f,h,h1=>⟨h1 a X rfl,mM (fun u b c v e=>h (a::u) b c v (by rw [e];rfl)) fun b v e=>(h [] a b v (by rw [e];rfl)).symm⟩
theorem Av {L R:Int→Int} {f:Int} {u v:List Int} {a b:Int} (h:fJ L R f (u++a::b::v)):R a=L b:=by
 have:=(bN.1 h).2
 exact this.2.1.symm
theorem cm {l:List Int} (h:l≠ []):∃u a,l=u++ [a]:=by
 rcases List.eq_nil_or_concat l with h1|⟨u,a,h1⟩
 ·exact absurd h1 h
 ·exact ⟨u,a,by rw [h1,List.concat_eq_append]⟩
theorem iB {l:List Int} (h:l≠ []):∃a u,l=a::u:=by
 cases l with
 |nil=>exact absurd rfl h
 |cons a u=>exact ⟨a,u,rfl⟩
structure uY (L R:Int→Int) (f0 f1:Int) (low:Int→Int) (W D:List Int):Prop where
 lk:fJ L R f0 W
 en:gI R f0 W=f1
 nd:(W.map R).Nodup
 lo:∀a∈W,R a≠f0∧(R a=f1∨(R a≠f1∧low (R a)∈D))
theorem yX {X U V Y:List Int} {r:Int} (h:(X++(U++ [r])++Y).Nodup) (hV:V.Nodup) (hd:∀z∈V,z∉X∧z≠r∧z∉Y):(X++(V++ [r])++Y).Nodup:=by
 have h1:(X++ [r]++Y).Nodup:=by
  refine List.Nodup.sublist ?_ h
  refine List.Sublist.append (List.Sublist.append (List.Sublist.refl _) ?_) (List.Sublist.refl _)
  exact List.sublist_append_right ..
 have h2:(V++(X++ [r]++Y)).Nodup:=by
  rw [List.nodup_append]
  refine ⟨hV,h1,fun a ha b hb e=> ?_⟩
  subst e
  obtain ⟨g1,g2,g3⟩:=hd a ha
  simp only [List.mem_append,List.mem_singleton] at hb
  rcases hb with (hb|hb)|hb
  ·exact g1 hb
  ·exact g2 hb
  ·exact g3 hb
 refine (List.Perm.nodup_iff ?_).1 h2
 have:X++(V++ [r])++Y=(X++V)++([r]++Y):=by simp
 rw [this]
 have:V++(X++ [r]++Y)=(V++X)++([r]++Y):=by simp
 rw [this]
 exact List.Perm.append_right _ List.perm_append_comm
theorem lG {R:Int→Int} :∀ {l:List Int},l.Nodup→(∀a∈l,∀b∈l,R a=R b→a=b)→(l.map R).Nodup
 | [],_,_=>by simp
 |a::l,hn,h=>by
  rw [List.nodup_cons] at hn
  rw [List.map_cons,List.nodup_cons]
  refine ⟨fun hm=> ?_,lG hn.2 fun x hx y hy=>h x (List.mem_cons_of_mem _ hx) y (List.mem_cons_of_mem _ hy)⟩
  obtain ⟨b,hb,e⟩:=List.mem_map.1 hm
  have:=h b (List.mem_cons_of_mem _ hb) a (List.mem_cons_self ..) e
  exact hn.1 (this ▸ hb)
section
variable (h:P.Ok) {L R:Int→Int} {f0 f1:Int} {low:Int→Int} (F:P.gB L R f0 f1 low)
include h F
theorem lX {v:List Int} {b:Int} {x:Int} (hv:P.outs x=v++ [b]) {a:Int} (ha:a∈v):∃u c w,P.outs x=u++a::c::w:=by
 obtain ⟨s,t,rfl⟩:=List.append_of_mem ha
 cases t with
 |nil=>exact ⟨s,b, [],by rw [hv];simp⟩
 |cons c t=>exact ⟨s,c,t++ [b],by rw [hv];simp⟩
theorem sx {x f:Int} (hf:∀b v,P.outs x=b::v→L b=f):fJ L R f (P.outs x):=mM (fun u a b v e=>F.fY e) fun a u e=>hf a u e
theorem Aw {x f:Int} (hf:∀b v,P.ins x=b::v→L b=f):fJ L R f (P.ins x):=mM (fun u a b v e=>F.lW e) fun a u e=>hf a u e
theorem x3 {x:Int} {v:List Int} {b:Int} (hv:P.outs x=v++ [b]):(v.map R).Nodup∧∀z∈v.map R,low z=x∧z≠f0∧z≠f1:=by
 have hn:=h.mJ x
 rw [hv,List.nodup_append] at hn
 refine ⟨lG hn.1 fun a ha a' DX e=> ?_,fun z hz=> ?_⟩
 ·obtain ⟨u,c,w,h1⟩:=lX h F hv ha
  obtain ⟨u',c',w',h2⟩:=lX h F hv DX
  exact F.new1 h1 h2 e
 ·obtain ⟨a,ha,rfl⟩:=List.mem_map.1 hz
  obtain ⟨u,c,w,h1⟩:=lX h F hv ha
  exact F.new h1
theorem uY.start (hne:P.outs P.src≠ []):uY L R f0 f1 low (P.outs P.src) [P.src]:=by
 obtain ⟨v,b,hv⟩:=cm hne
 obtain ⟨n1,n2⟩:=x3 h F hv
 have hb:=F.s1 hv
 refine ⟨sx h F fun b v e=>F.s0 e,by rw [hv,cC,hb], ?_,fun a ha=> ?_⟩
 ·rw [hv,List.map_append,List.nodup_append]
  refine ⟨n1,by simp,fun z hz y hy e=> ?_⟩
  simp only [List.map_cons,List.map_nil,List.mem_singleton] at hy
  exact (n2 z hz).2.2 (by rw [e,hy,hb])
 ·rw [hv,List.mem_append,List.mem_singleton] at ha
  rcases ha with ha|rfl
  ·obtain ⟨g1,g2,g3⟩:=n2 (R a) (List.mem_map_of_mem ha)
   exact ⟨g2, .inr ⟨g3,by rw [g1];simp⟩⟩
  ·exact ⟨by rw [hb];exact F.ne.symm, .inl hb⟩
theorem uY.step {A C D:List Int} {x:Int} (hi:uY L R f0 f1 low (A++P.ins x++C) D) (hI:P.ins x≠ []) (hO:P.outs x≠ []) (hx:x∉D):uY L R f0 f1 low (A++P.outs x++C) (D++ [x]):=by
 obtain ⟨u,a,hu⟩:=cm hI
 obtain ⟨v,b,hv⟩:=cm hO
 obtain ⟨a0,u0,CW⟩:=iB hI
 obtain ⟨b0,v0,qd⟩:=iB hO
 have hab:=F.As hu hv
 have h0:=F.fst CW qd
 obtain ⟨l1,l2⟩:=bN.1 hi.lk
 obtain ⟨l3,l4⟩:=bN.1 l1
 have LX:∀f,gI R f (P.ins x)=R a:=fun f=>by rw [hu,cC]
 have LY:∀f,gI R f (P.outs x)=R b:=fun f=>by rw [hv,cC]
 have hL:L a0=gI R f0 A:=by rw [CW] at l4;exact l4.1
 obtain ⟨n1,n2⟩:=x3 h F hv
 have bT:=hi.nd
 have hlo:=hi.lo
 refine ⟨?_, ?_, ?_,fun c hc=> ?_⟩
 ·rw [bN,bN]
  refine ⟨⟨l3,sx h F fun b' v' e=> ?_⟩, ?_⟩
  ·rw [qd] at e
   simp only [List.cons.injEq] at e
   rw [← e.1, ← h0,hL]
  ·rw [cj,LY]
   rw [cj,LX] at l2
   rw [← hab];exact l2
 ·have:=hi.en
  rw [cj,cj,LX] at this
  rw [cj,cj,LY, ← hab];exact this
 ·rw [List.map_append,List.map_append,hv,List.map_append]
  rw [List.map_append,List.map_append,hu,List.map_append] at bT
  simp only [List.map_cons,List.map_nil] at bT ⊢
  rw [← hab]
  have hold:∀c∈A++P.ins x++C,R c∉v.map R:=fun c hc hz=>by
   obtain ⟨g1,g2,g3⟩:=n2 _ hz
   rcases (hlo c hc).2 with h1|⟨_,h1⟩
   ·exact g3 h1
   ·rw [g1] at h1;exact hx h1
  refine yX bT n1 fun z hz=>⟨fun CI=> ?_,fun CI=> ?_,fun CI=> ?_⟩
  ·obtain ⟨c,hc,rfl⟩:=List.mem_map.1 CI
   exact hold c (by simp [hc]) hz
  ·exact hold a (by rw [hu];simp) (CI ▸ hz)
  ·obtain ⟨c,hc,rfl⟩:=List.mem_map.1 CI
   exact hold c (by simp [hc]) hz
 ·have hold:∀c∈A++P.ins x++C,R c≠f0∧(R c=f1∨(R c≠f1∧low (R c)∈D++ [x])):=fun c hc=>by
   obtain ⟨g1,g2⟩:=hlo c hc
   exact ⟨g1,g2.imp id fun ⟨g3,g4⟩=>⟨g3,List.mem_append.2 (.inl g4)⟩⟩
  simp only [List.mem_append] at hc
  rcases hc with (hc|hc)|hc
  ·exact hold c (by simp [hc])
  ·rw [hv,List.mem_append,List.mem_singleton] at hc
   rcases hc with hc|rfl
   ·obtain ⟨g1,g2,g3⟩:=n2 (R c) (List.mem_map_of_mem hc)
    exact ⟨g2, .inr ⟨g3,by rw [g1];simp⟩⟩
   ·have:=hold a (by rw [hu];simp)
    rw [hab] at this;exact this
  ·exact hold c (by simp [hc])
end
end Go.Ab
end
section
namespace Go.Ab
set_option maxRecDepth 10000
set_option linter.unusedSectionVars false
variable {P:PS}
inductive PS.sy (P:PS) (x:Int):Int→Prop
 |refl:P.sy x x
 |step {e:Int} :P.sy x (P.tl e)→P.E e→P.sy x (P.hd e)
theorem PS.sy.trans {x y z:Int} (h1:P.sy x y) (h2:P.sy y z):P.sy x z:=by
 induction h2 with
 |refl=>exact h1
 |step _ he ih=>exact .step ih he
inductive PS.Lp (P:PS) (L R:Int→Int) (F:Int):Int→Prop
 |refl:P.Lp L R F F
 |step {e:Int} :P.Lp L R F (L e)→P.E e→P.Lp L R F (R e)
theorem PS.Lp.trans {L R:Int→Int} {x y z:Int} (h1:P.Lp L R x y) (h2:P.Lp L R y z):P.Lp L R x z:=by
 induction h2 with
 |refl=>exact h1
 |step _ he ih=>exact .step ih he
theorem PS.Lp.head {L R:Int→Int} {e z:Int} (he:P.E e) (h2:P.Lp L R (R e) z):P.Lp L R (L e) z:=(PS.Lp.step .refl he).trans h2
theorem PS.Lp.Al {L R:Int→Int} {x y:Int} (h1:P.Lp L R x y):P.Al.Lp R L y x:=by
 induction h1 with
 |refl=>exact .refl
 | @step e h1 he ih=>exact PS.Lp.head (P:=P.Al) (L:=R) (R:=L) (e:=e) he ih
theorem PS.sy.Al {x y:Int} (h1:P.sy x y):P.Al.sy x y:=by
 induction h1 with
 |refl=>exact .refl
 |step h1 he ih=>exact PS.sy.step (P:=P.Al) ih he
section
variable (h:P.Ok)
include h
theorem oc {j:Nat} (hj:j≤P.m):∃k,P.Row k ((P.st j).A++(P.st j).B) (P.st j).D:=(P.inv h j hj).row
theorem eo {j:Nat} (hj:j<P.m):∃B,(P.st j).B=P.sh j::B:=by
 obtain ⟨e,B,hB⟩:=(P.inv h j (by omega)).more h hj
 refine ⟨B, ?_⟩
 have:P.sh j=e:=by unfold PS.sh;rw [hB];rfl
 rw [this,hB]
theorem mN {j:Nat} (hj:j<P.m):P.E (P.sh j):=by
 obtain ⟨B,hB⟩:=eo h hj
 obtain ⟨k,hr⟩:=oc h (Nat.le_of_lt hj)
 exact ((h.di hr _).1 (by rw [hB];simp)).1
theorem tF {i j:Nat} (hi:i<P.m) (hj:j<P.m) (e:P.sh i=P.sh j):i=j:=by
 have hn:=(P.inv h P.m (Nat.le_refl _)).nd
 have hl:=PS.pM (P:=P) (j:=P.m)
 have gi:(P.n0 P.m)[i]'(by omega)=P.sh i:=by simp [PS.n0]
 have gj:(P.n0 P.m)[j]'(by omega)=P.sh j:=by simp [PS.n0]
 exact (List.getElem_inj hn).1 (by rw [gi,gj,e])
theorem dD {e:Int} (he:P.E e):∃j,j<P.m∧P.sh j=e:=by
 have hi:=P.inv h P.m (Nat.le_refl _)
 refine Decidable.byContradiction fun hne=> ?_
 have hne:e∉P.n0 P.m:=fun hm=>hne (PS.tE.1 hm)
 have bT:(e::P.n0 P.m).Nodup:=List.nodup_cons.2 ⟨hne,hi.nd⟩
 have:=eO (m:=(List.range P.m).map Int.ofNat) bT fun x hx=>by
  have hE:P.E x:=by
   rcases List.mem_cons.1 hx with rfl|hx
   ·exact he
   ·exact ((hi.sh x).1 hx).1
  have h1:=hE.1;have h2:=hE.2
  exact List.mem_map.2 ⟨x.toNat,List.mem_range.2 (by omega),by simp;omega⟩
 simp [PS.pM] at this
 omega
theorem jD {i j:Nat} (hi:i<P.m) (hj:j≤P.m):P.sh i∈P.n0 j↔i<j:=by
 rw [PS.tE]
 constructor
 ·rintro ⟨i',h1,h2⟩
  have:=tF h (by omega) hi h2
  omega
 ·exact fun h1=>⟨i,h1,rfl⟩
theorem Es:(P.st P.m).A= []:=by
 have hi:=P.inv h P.m (Nat.le_refl _)
 obtain ⟨k,hr⟩:=hi.row
 have hB:(P.st P.m).B= []:=by
  cases hB:(P.st P.m).B with
  |nil=>rfl
  |cons e B=>
   exfalso
   have hm:=(h.di hr e).1 (by rw [hB];simp)
   obtain ⟨j,hj,e2⟩:=dD h hm.1
   have h1:e∈P.n0 P.m:=PS.tE.2 ⟨j,hj,e2⟩
   have bT:=h.ko hr
   rw [List.nodup_append] at bT
   rcases ((hi.sh e).1 h1).2 with h2|h2
   ·exact bT.2.2 e h2 e (by rw [hB];simp) rfl
   ·exact hm.2.2 h2
 rw [hB,List.append_nil] at hr
 cases k with
 |succ k=>
  obtain ⟨x,A,C,h1,h2⟩:=h.kq hr
  exact absurd ⟨A,C,h1.symm⟩ (hi.no x h2)
 |zero=>
  cases hA:(P.st P.m).A with
  |nil=>rfl
  |cons e A=>
   have hm:=(h.di hr e).1 (by rw [hA];simp)
   exact absurd (h.k4 hr e hm.1) hm.2.2
theorem mO {j:Nat} (hj:j<P.m):∃B,(P.st j).B=P.sh j::B∧((∃A',(P.st j).A++ [P.sh j]=A'++P.ins (P.hd (P.sh j))∧P.ins (P.hd (P.sh j))≠ []∧P.st (j+1)=⟨A',P.outs (P.hd (P.sh j))++B,(P.st j).D++ [P.hd (P.sh j)]⟩)∨
 (¬P.ins (P.hd (P.sh j))<:+(P.st j).A++ [P.sh j]∧P.st (j+1)=⟨(P.st j).A++ [P.sh j],B,(P.st j).D⟩)):=by
 obtain ⟨B,hB⟩:=eo h hj
 obtain ⟨k,hr⟩:=oc h (Nat.le_of_lt hj)
 exact ⟨B,hB,(PS.qc h hr hB).2⟩
theorem Js {j:Nat} (hj:j<P.m):P.sh j∉(P.st j).A:=by
 obtain ⟨B,hB⟩:=eo h hj
 obtain ⟨k,hr⟩:=oc h (Nat.le_of_lt hj)
 have bT:=h.ko hr
 rw [List.nodup_append] at bT
 exact fun hA=>bT.2.2 _ hA _ (by rw [hB];simp) rfl
theorem uZ:∀ {d j:Nat},j+d=P.m→∀t∈(P.st j).A,∀u,P.ins (P.hd t)≠u++ [t]
 |0,j,hj,t,ht,u=>by
  obtain rfl:j=P.m:=by omega
  rw [Es h] at ht;cases ht
 |d+1,j,hj,t,ht,u=>by
  have ih:=uZ (d:=d) (j:=j+1) (by omega)
  have hjm:j<P.m:=by omega
  obtain ⟨B,hB,hc⟩:=mO h hjm
  have hne:=Js h hjm
  rcases hc with ⟨A',h1,h2,h3⟩|⟨h1,h3⟩
  ·have CJ:t∈A'++P.ins (P.hd (P.sh j)):=by rw [← h1];simp [ht]
   rcases List.mem_append.1 CJ with h4|h4
   ·exact ih t (by rw [h3];exact h4) u
   ·intro hu
    rw [((h.bV _ _).1 h4).2] at hu
    rw [hu, ← List.append_assoc] at h1
    have:=(List.append_inj' h1 rfl).2
    simp only [List.cons.injEq,and_true] at this
    exact hne (this ▸ ht)
  ·exact ih t (by rw [h3];simp [ht]) u
theorem u5 {e:Int} (he:P.E e) {j:Nat} (hj:j<P.m) (hh:P.hd e=P.tl (P.sh j)):e∈P.n0 j:=by
 have hi:=P.inv h j (by omega)
 obtain ⟨B,hB⟩:=eo h hj
 obtain ⟨k,hr⟩:=hi.row
 have hm:=(h.di hr (P.sh j)).1 (by rw [hB];simp)
 exact (hi.sh e).2 ⟨he, .inr (hh ▸ hm.2.1)⟩
theorem CX {i j:Nat} (hi:i<P.m) (hj:j<P.m) (hR:P.sy (P.hd (P.sh i)) (P.tl (P.sh j))):i<j:=by
 have key:∀y,P.sy (P.hd (P.sh i)) y→∀j,j<P.m→P.tl (P.sh j)=y→i<j:=by
  intro y hy
  induction hy with
  |refl=>
   intro j hj e
   exact (jD h hi (by omega)).1 (u5 h (mN h hi) hj e.symm)
  | @step f _ hf ih=>
    intro j hj e
    obtain ⟨k,hk,rfl⟩:=dD h hf
    have h1:=ih k hk rfl
    have h2:=(jD h hk (by omega)).1 (u5 h hf hj e.symm)
    omega
 exact key _ hR j hj rfl
theorem x4 {j:Nat} (hj:j<P.m):P.Er∉(P.st j).D:=fun hs=>by
 have hi:=P.inv h j (by omega)
 obtain ⟨k,hr⟩:=hi.row
 have:=h.pL hr hs
 subst this
 have:=oa (l:=P.n0 j) (m:=P.m) fun e h1 h2=>(hi.sh e).2 ⟨⟨h1,h2⟩, .inr (h.k4 hr e ⟨h1,h2⟩)⟩
 rw [PS.pM] at this
 omega
variable {L R:Int→Int} {f0 f1:Int} {low:Int→Int} (F:P.gB L R f0 f1 low)
include F
theorem kr:∀ {j:Nat},j<P.m→uY L R f0 f1 low ((P.st j).A++(P.st j).B) (P.st j).D
 |0,hj=>by
  obtain ⟨B,hB⟩:=eo h hj
  have hB:P.outs P.src=P.sh 0::B:=hB
  exact uY.start h F (by rw [hB];simp)
 |j+1,hj=>by
  have ih:=kr (j:=j) (by omega)
  obtain ⟨B,hB,hc⟩:=mO h (show j<P.m by omega)
  obtain ⟨k,hr⟩:=oc h (show j≤P.m by omega)
  rcases hc with ⟨A',h1,h2,h3⟩|⟨h1,h3⟩
  ·have hs:=x4 h hj
   rw [h3] at hs ⊢
   have hx:P.hd (P.sh j)≠P.Er:=fun e=>hs (by simp [e])
   have hO:P.outs (P.hd (P.sh j))≠ []:=fun e=>hx ((h.mL _ h2).1 e)
   have hm:=(h.di hr (P.sh j)).1 (by rw [hB];simp)
   have hW:(P.st j).A++(P.st j).B=A'++P.ins (P.hd (P.sh j))++B:=by rw [hB, ← h1];simp
   rw [hW] at ih
   have:=uY.step h F ih h2 hO hm.2.2
   simpa using this
  ·rw [h3]
   have hW:(P.st j).A++(P.st j).B=(P.st j).A++ [P.sh j]++B:=by rw [hB];simp
   rw [hW] at ih
   exact ih
theorem Ax {j:Nat} (hj:j<P.m) {a b:Int} (ha:a∈(P.st j).A++(P.st j).B) (hb:b∈(P.st j).A++(P.st j).B) (e:R a=R b):a=b:=by
 have hn:=(kr h F hj).nd
 obtain ⟨i,hi,rfl⟩:=List.mem_iff_getElem.1 ha
 obtain ⟨k,hk,rfl⟩:=List.mem_iff_getElem.1 hb
 have:=(List.getElem_inj (i:=i) (j:=k) (h₀:=by simpa using hi) (h₁:=by simpa using hk) hn).1 (by rw [List.getElem_map,List.getElem_map];exact e)
 subst this;rfl
theorem lZ {j:Nat} (hj:j<P.m):∀ {d:Nat} {e:Int},P.CH (P.tl e)<d→P.E e→R e=L (P.sh j)→e∈P.n0 j
 |0,e,hd,_,_=>by omega
 |d+1,e,hd,he,hR=>by
  refine Decidable.byContradiction fun hne=> ?_
  have hi:=P.inv h j (by omega)
  have hF:=kr h F hj
  obtain ⟨B,hB⟩:=eo h hj
  obtain ⟨k,hr⟩:=hi.row
  have FV:¬(e∈(P.st j).A∨P.hd e∈(P.st j).D):=fun h1=>hne ((hi.sh e).2 ⟨he,h1⟩)
  have hlk:=hF.lk
  rw [bN,hB] at hlk
  have FA:L (P.sh j)=gI R f0 (P.st j).A:=hlk.2.1
  rcases List.eq_nil_or_concat (P.st j).A with hA|⟨A',t,hA⟩
  ·
   have FA:L (P.sh j)=f0:=by rw [FA,hA];rfl
   have MP:R e≠f0:=by
    obtain ⟨i,hi2,e2⟩:=dD h he
    obtain ⟨B2,w8⟩:=eo h hi2
    have:=((kr h F hi2).lo (P.sh i) (by rw [w8];simp)).1
    rw [e2] at this;exact this
   exact MP (hR.trans FA)
  ·rw [List.concat_eq_append] at hA
   have FA:L (P.sh j)=R t:=by rw [FA,hA,cC]
   have I7:t∈(P.st j).A:=by rw [hA];simp
   have od:t∈(P.st j).A++(P.st j).B:=List.mem_append.2 (.inl I7)
   have Jt:R e=R t:=hR.trans FA
   by_cases hc:P.tl e∈(P.st j).D
   ·have MQ:=(h.di hr e).2 ⟨he,hc,fun h1=>FV (.inr h1)⟩
    have:=Ax h F hj MQ od Jt
    exact FV (.inl (this ▸ I7))
   ·have hem:e∈P.outs (P.tl e):=(h.dz _ _).2 ⟨he,rfl⟩
    obtain ⟨s,w,hs⟩:=List.append_of_mem hem
    have FW:R t≠f1:=fun h1=>by
     have h2:=hF.en
     rw [hB,cj] at h2
     obtain ⟨V,b,LZ⟩:=cm (l:=P.sh j::B) (by simp)
     rw [LZ,cC] at h2
     have L0:b∈(P.st j).B:=by rw [hB,LZ];simp
     have h3:=Ax h F hj od (List.mem_append.2 (.inr L0)) (h1.trans h2.symm)
     have bT:=h.ko hr
     rw [List.nodup_append] at bT
     exact bT.2.2 t I7 b L0 h3
    cases w with
    |cons b w=>
     obtain ⟨g1,g2,g3⟩:=F.new hs
     have h4:=(hF.lo t od).2
     rw [← Jt] at h4 FW
     rcases h4 with h4|⟨_,h4⟩
     ·exact FW h4
     ·rw [g1] at h4;exact hc h4
    |nil=>
     have hI:P.ins (P.tl e)≠ []:=fun h0=>by
      have h5:P.tl e≠P.src:=fun h6=>hc (h6 ▸ h.pK hr)
      obtain ⟨i,hi2,e2⟩:=dD h he
      obtain ⟨k2,uU⟩:=oc h (show i≤P.m by omega)
      obtain ⟨B2,w8⟩:=eo h hi2
      have hm2:=(h.di uU (P.sh i)).1 (by rw [w8];simp)
      have:∀i,i≤P.m→∀x∈(P.st i).D,x=P.src∨P.ins x≠ []:=by
       intro i
       induction i with
       |zero=>intro _ x hx;exact .inl (by simpa [PS.st] using hx)
       |succ i ih=>
        intro OA x hx
        obtain ⟨B3,OB,DY⟩:=mO h (show i<P.m by omega)
        rcases DY with ⟨A3,k1,k2,k3⟩|⟨k1,k3⟩
        ·rw [k3] at hx
         rcases List.mem_append.1 hx with hx|hx
         ·exact ih (by omega) x hx
         ·rw [List.mem_singleton] at hx
          exact .inr (hx ▸ k2)
        ·rw [k3] at hx;exact ih (by omega) x hx
      rcases this i (by omega) _ hm2.2.1 with h6|h6
      ·rw [e2] at h6;exact h5 h6
      ·rw [e2] at h6;exact h6 h0
     obtain ⟨u,a,hu⟩:=cm hI
     have FX:=(h.bV (P.tl e) a).1 (by rw [hu];simp)
     have FY:R a=R e:=F.As hu hs
     have hp:=h.nW a FX.1
     rw [FX.2] at hp
     have hin:=lZ (d:=d) (e:=a) hj (by omega) FX.1 (FY.trans hR)
     rcases ((hi.sh a).1 hin).2 with h7|h7
     ·have h8:=Ax h F hj (List.mem_append.2 (.inl h7)) od (FY.trans Jt)
      subst h8
      exact uZ h (d:=P.m - j) (by omega) a I7 u (by rw [FX.2];exact hu)
     ·rw [FX.2] at h7;exact hc h7
theorem sC {i j:Nat} (hi:i<P.m) (hj:j<P.m) (hR:P.Lp L R (R (P.sh i)) (L (P.sh j))):i<j:=by
 have key:∀y,P.Lp L R (R (P.sh i)) y→∀j,j<P.m→L (P.sh j)=y→i<j:=by
  intro y hy
  induction hy with
  |refl=>
   intro j hj e
   exact (jD h hi (by omega)).1 (lZ h F hj (d:=P.CH (P.tl (P.sh i))+1) (by omega) (mN h hi) e.symm)
  | @step f _ hf ih=>
    intro j hj e
    obtain ⟨k,hk,rfl⟩:=dD h hf
    have h1:=ih k hk rfl
    have h2:=(jD h hk (by omega)).1 (lZ h F hj (d:=P.CH (P.tl (P.sh k))+1) (by omega) hf e.symm)
    omega
 exact key _ hR j hj rfl
end
end Go.Ab
end
section
namespace Go.Ab
set_option maxRecDepth 10000
set_option linter.unusedSectionVars false
variable {P:PS}
theorem tG {L R:Int→Int} :∀ {A:List Int} {f:Int},(∀a∈A,P.E a)→fJ L R f A→P.Lp L R f (gI R f A)
 | [],_,_,_=> .refl
 |a::A,f,hE,⟨h1,h2⟩=>by
  have:=tG (A:=A) (f:=R a) (fun b hb=>hE b (List.mem_cons_of_mem _ hb)) h2
  rw [← h1]
  exact PS.Lp.head (hE a (List.mem_cons_self ..)) this
section
variable (h:P.Ok) {L R:Int→Int} {f0 f1:Int} {low:Int→Int} (F:P.gB L R f0 f1 low)
include h F
theorem Et {x:Int} {u v v':List Int} {e a:Int} (hu:P.ins x=u++e::v) (ha:P.ins x=v'++ [a]):P.Lp L R (R e) (R a):=by
 have hl:fJ L R (L ((P.ins x).headD 0)) (P.ins x):=by
  cases hI:P.ins x with
  |nil=>trivial
  |cons b w=>rw [← hI];exact Aw h F fun b' w' e'=>by rw [hI];rw [hI] at e';simp only [List.cons.injEq] at e';simp [e'.1]
 rw [hu,show u++e::v=(u++ [e])++v by simp,bN,cC] at hl
 have h2:=tG (P:=P) (fun b hb=>((h.bV x b).1 (by rw [hu];simp [hb])).1) hl.2
 have h3:gI R (R e) v=R a:=by
  have e1:gI R 0 (P.ins x)=R a:=by rw [ha,cC]
  rw [hu,show u++e::v=(u++ [e])++v by simp,cj,cC] at e1
  exact e1
 rw [h3] at h2;exact h2
theorem oe {x:Int} (hx:x≠P.src):∀ {j:Nat},j≤P.m→x∈(P.st j).D→∃i B,i<j∧x∉(P.st i).D∧P.hd (P.sh i)=x∧(∃u,P.ins x=u++ [P.sh i])∧(∀e∈P.ins x,e∈P.n0 (i+1))∧(P.st (i+1)).B=P.outs x++B∧(P.st i).B=P.sh i::B
 |0,_,hm=>by
  have:x∈ [P.src]:=hm
  simp at this;exact absurd this hx
 |j+1,hj,hm=>by
  by_cases hp:x∈(P.st j).D
  ·obtain ⟨i,B,h1,h2⟩:=oe hx (by omega) hp
   exact ⟨i,B,by omega,h2⟩
  ·obtain ⟨B,hB,hc⟩:=mO h (show j<P.m by omega)
   rcases hc with ⟨A',h1,h2,h3⟩|⟨h1,h3⟩
   ·rw [h3] at hm
    rcases List.mem_append.1 hm with hm|hm
    ·exact absurd hm hp
    ·rw [List.mem_singleton] at hm
     subst hm
     refine ⟨j,B,by omega,hp,rfl, ?_,fun e he=> ?_,by rw [h3],hB⟩
     ·obtain ⟨u,a,hu⟩:=cm h2
      rw [hu, ← List.append_assoc] at h1
      have:=(List.append_inj' h1 rfl).2
      simp only [List.cons.injEq,and_true] at this
      exact ⟨u,by rw [hu,this]⟩
     ·refine ((P.inv h (j+1) hj).sh e).2 ⟨((h.bV _ _).1 he).1, .inr ?_⟩
      rw [h3,((h.bV _ _).1 he).2];simp
   ·rw [h3] at hm;exact absurd hm hp
theorem u6 {x a:Int} {i k:Nat} (hk:k<P.m) (hik:i<k) {v B:List Int} (hB:(P.st (i+1)).B=v++a::B) (hv:∀e∈v,P.tl e=x) (ha:P.tl a=x) (hka:P.sh k=a):
 ∀ {t:Nat},i+1≤t→t≤k→∃Z,(P.st t).B=Z++a::B∧∀z∈Z,P.sy x (P.tl z)
 |0,h1,_=>by omega
 |t+1,h1,h2=>by
  by_cases nT:t=i
  ·subst nT
   exact ⟨v,hB,fun z hz=>by rw [hv z hz];exact .refl⟩
  ·obtain ⟨Z,hZ,hr⟩:=u6 hk hik hB hv ha hka (t:=t) (by omega) (by omega)
   obtain ⟨B2,w8,hc⟩:=mO h (show t<P.m by omega)
   cases Z with
   |nil=>
    rw [hZ] at w8
    simp only [List.nil_append,List.cons.injEq] at w8
    have:=tF h hk (show t<P.m by omega) (hka.trans w8.1)
    omega
   |cons z Z=>
    rw [hZ] at w8
    simp only [List.cons_append,List.cons.injEq] at w8
    rcases hc with ⟨A',g1,g2,g3⟩|⟨g1,g3⟩
    ·refine ⟨P.outs (P.hd (P.sh t))++Z,by rw [g3, ← w8.2];simp,fun y hy=> ?_⟩
     rcases List.mem_append.1 hy with hy|hy
     ·rw [((h.dz _ _).1 hy).2]
      have:=hr z (List.mem_cons_self ..)
      rw [w8.1] at this
      exact .step this (mN h (by omega))
     ·exact hr y (List.mem_cons_of_mem _ hy)
    ·exact ⟨Z,by rw [g3, ← w8.2],fun y hy=>hr y (List.mem_cons_of_mem _ hy)⟩
theorem l7:∀ {d i j:Nat},j - i≤d→i<j→j<P.m→P.sy (P.hd (P.sh i)) (P.tl (P.sh j))∨P.Lp L R (R (P.sh i)) (L (P.sh j))
 |0,i,j,hd,hij,_=>by omega
 |d+1,i,j,hd,hij,hj=>by
  have hi:=P.inv h j (by omega)
  have L3:=mN h (show i<P.m by omega)
  obtain ⟨B,hB⟩:=eo h hj
  obtain ⟨k,hr⟩:=hi.row
  have hin:=(jD h (show i<P.m by omega) (show j≤P.m by omega)).2 hij
  rcases ((hi.sh _).1 hin).2 with hA|hD
  ·right
   obtain ⟨u,w,hA⟩:=List.append_of_mem hA
   have hlk:=(kr h F hj).lk
   rw [hB,hA,show u++P.sh i::w++P.sh j::B=(u++ [P.sh i])++(w++P.sh j::B) by simp,bN,cC] at hlk
   have I8:=bN.1 hlk.2
   have h1:=tG (P:=P) (A:=w) (fun b hb=>((h.di hr b).1 (by rw [hA];simp [hb])).1) I8.1
   rw [← I8.2.1] at h1
   exact h1
  ·generalize hx:P.hd (P.sh i)=x at hD
   have hxs:x≠P.src:=fun e=>by
    have:=(h.bV x (P.sh i)).2 ⟨L3,hx⟩
    rw [e,h.qa] at this;cases this
   obtain ⟨i',B',q1,q2,q3,⟨u,q4⟩,q5,q6,q7⟩:=oe h F hxs (by omega) hD
   have Eu:=(h.bV x (P.sh i)).2 ⟨L3,hx⟩
   have hii:i<i'+1:=(jD h (show i<P.m by omega) (by omega)).1 (q5 _ Eu)
   have hI:P.ins x≠ []:=fun h0=>by rw [h0] at Eu;cases Eu
   have hO:P.outs x≠ []:=fun h0=>by
    have:=(h.mL x hI).1 h0
    exact x4 h hj (this ▸ hD)
   obtain ⟨v,a,hv⟩:=cm hO
   have ha:=(h.dz x a).1 (by rw [hv];simp)
   obtain ⟨k2,hk2,hka⟩:=dD h ha.1
   have hik:i'<k2:=by
    refine Decidable.byContradiction fun hlt=> ?_
    have h1:a∈P.n0 (i'+1):=hka ▸ (jD h hk2 (by omega)).2 (by omega)
    have hi':=P.inv h (i'+1) (by omega)
    obtain ⟨k3,L4⟩:=hi'.row
    have L5:a∈(P.st (i'+1)).B:=by rw [q6,hv];simp
    have Ju:=(h.di L4 a).1 (List.mem_append.2 (.inr L5))
    have bT:=h.ko L4
    rw [List.nodup_append] at bT
    rcases ((hi'.sh a).1 h1).2 with h2|h2
    ·exact bT.2.2 a h2 a L5 rfl
    ·exact Ju.2.2 h2
   have hlp:P.Lp L R (R (P.sh i)) (R a):=by
    obtain ⟨s,w,hs⟩:=List.append_of_mem Eu
    have h1:=Et h F hs q4
    rw [F.As q4 hv] at h1
    exact h1
   by_cases hjk:j≤k2
   ·left
    obtain ⟨Z,hZ,MR⟩:=u6 h F hk2 hik (x:=x) (a:=a) (v:=v) (B:=B') (by rw [q6,hv];simp) (fun e he=>((h.dz x e).1 (by rw [hv];simp [he])).2) ha.2 hka (t:=j) (by omega) hjk
    rw [hB] at hZ
    cases Z with
    |nil=>
     simp only [List.nil_append,List.cons.injEq] at hZ
     rw [hZ.1,ha.2];exact .refl
    |cons z Z=>
     simp only [List.cons_append,List.cons.injEq] at hZ
     rw [hZ.1];exact MR z (List.mem_cons_self ..)
   ·rcases l7 (d:=d) (i:=k2) (j:=j) (by omega) (by omega) hj with h1|h1
    ·left
     rw [hka] at h1
     have:P.sy x (P.hd a):= .step (ha.2 ▸ .refl) ha.1
     exact this.trans h1
    ·right
     rw [hka] at h1
     exact hlp.trans h1
end
section
variable (h:P.Ok) {L R:Int→Int} {f0 f1:Int} {low:Int→Int} (F:P.gB L R f0 f1 low) {e f:Int} (he:P.E e) (hf:P.E f)
include h F he hf
theorem CY (hu:P.sy (P.hd e) (P.tl f)):∃i j,i<j∧j<P.m∧P.sh i=e∧P.sh j=f:=by
 obtain ⟨i,hi,rfl⟩:=dD h he
 obtain ⟨j,hj,rfl⟩:=dD h hf
 exact ⟨i,j,CX h hi hj hu,hj,rfl,rfl⟩
theorem og (hu:P.Lp L R (R e) (L f)):∃i j,i<j∧j<P.m∧P.sh i=e∧P.sh j=f:=by
 obtain ⟨i,hi,rfl⟩:=dD h he
 obtain ⟨j,hj,rfl⟩:=dD h hf
 exact ⟨i,j,sC h F hi hj hu,hj,rfl,rfl⟩
theorem sD {i j i' j':Nat} (h1:i<j∧j<P.m∧P.sh i=e∧P.sh j=f) (h2:i'<j'∧j'<P.m∧P.sh i'=f∧P.sh j'=e):False:=by
 have:=tF h (show i<P.m by omega) (show j'<P.m by omega) (h1.2.2.1.trans h2.2.2.2.symm)
 have:=tF h (show j<P.m by omega) (show i'<P.m by omega) (h1.2.2.2.trans h2.2.2.1.symm)
 omega
end
theorem yY (h:P.Ok) {L R:Int→Int} {f0 f1:Int} {low:Int→Int} (F:P.gB L R f0 f1 low) {e f:Int} (he:P.E e) (hf:P.E f) (hne:e≠f):
 P.sy (P.hd e) (P.tl f)∨P.sy (P.hd f) (P.tl e)∨P.Lp L R (R e) (L f)∨P.Lp L R (R f) (L e):=by
 obtain ⟨i,hi,rfl⟩:=dD h he
 obtain ⟨j,hj,rfl⟩:=dD h hf
 rcases Nat.lt_trichotomy i j with h1|h1|h1
 ·rcases l7 h F (d:=j - i) (Nat.le_refl _) h1 hj with h2|h2
  ·exact .inl h2
  ·exact .inr (.inr (.inl h2))
 ·exact absurd (by rw [h1]) hne
 ·rcases l7 h F (d:=i - j) (Nat.le_refl _) h1 hi with h2|h2
  ·exact .inr (.inl h2)
  ·exact .inr (.inr (.inr h2))
section
variable (h:P.Ok) {L R:Int→Int} {f0 f1:Int} {low:Int→Int} (F:P.gB L R f0 f1 low) {e f:Int} (he:P.E e) (hf:P.E f)
include h F he hf
theorem ku (h1:P.Lp L R (R e) (L f)) (h2:P.Lp L R (R f) (L e)):False:=by
 obtain ⟨i,j,a⟩:=og h F he hf h1
 obtain ⟨i',j',b⟩:=og h F hf he h2
 exact sD h F he hf a b
theorem mP (h1:P.sy (P.hd e) (P.tl f)) (h2:P.Lp L R (R f) (L e)):False:=by
 obtain ⟨i,j,a⟩:=CY h F he hf h1
 obtain ⟨i',j',b⟩:=og h F hf he h2
 exact sD h F he hf a b
end
end Go.Ab
end
section
namespace Go.Ab
set_option maxRecDepth 10000
set_option linter.unusedSectionVars false
variable {P:PS}
structure PS.Hi (P:PS) (R:Int→Int) (f0 f1:Int) (hi:Int→Int):Prop where
 mid:∀ {x u a b v},P.ins x=u++a::b::v→hi (R a)=x
 h0:hi f0=P.Er
 h1:hi f1=P.Er
def PS.DZ (P:PS) (a:Int):Prop:=∃x u b v,P.outs x=u++a::b::v
section
variable (h:P.Ok) {L R:Int→Int} {f0 f1:Int} {low:Int→Int} (F:P.gB L R f0 f1 low)
include h F
theorem PS.Hi.Al {hi:Int→Int} (H:P.Hi R f0 f1 hi):P.Al.Hi L f1 f0 hi:=
 {mid:=fun {x u a b v} e=>by
   have e:=gP (show (P.ins x).reverse=_ from e)
   rw [← F.lW e];exact H.mid e
  h0:=H.h1
  h1:=H.h0}
theorem Ay {a:Int} (ha:P.DZ a):P.E a∧low (R a)=P.tl a∧R a≠f0∧R a≠f1:=by
 obtain ⟨x,u,b,v,e⟩:=ha
 obtain ⟨h1,h2⟩:=(h.dz x a).1 (by rw [e];simp)
 obtain ⟨h3,h4,h5⟩:=F.new e
 exact ⟨h1,by rw [h3,h2],h4,h5⟩
theorem sF {e:Int} (he:P.E e) (hs:P.tl e≠P.src):P.ins (P.tl e)≠ []:=by
 obtain ⟨i,hi,rfl⟩:=dD h he
 obtain ⟨k,hr⟩:=oc h (Nat.le_of_lt hi)
 obtain ⟨B,hB⟩:=eo h hi
 have hm:=(h.di hr (P.sh i)).1 (by rw [hB];simp)
 obtain ⟨j,B,_,_,_,⟨u,hu⟩,_⟩:=oe h F hs (Nat.le_of_lt hi) hm.2.1
 rw [hu];simp
variable {L' R':Int→Int} {L6 L7:Int} {low':Int→Int} (F':P.gB L' R' L6 L7 low')
include F'
theorem Az:∀ {d:Nat} {e:Int},P.CH (P.tl e)<d→P.E e→(R e=f1∧R' e=L7)∨∃a,P.DZ a∧P.CH (P.tl a)≤P.CH (P.tl e)∧R e=R a∧R' e=R' a
 |0,e,hd,_=>by omega
 |d+1,e,hd,he=>by
  have hem:=(h.dz (P.tl e) e).2 ⟨he,rfl⟩
  obtain ⟨u,v,hu⟩:=List.append_of_mem hem
  cases v with
  |cons b v=>exact .inr ⟨e,⟨_,u,b,v,hu⟩,Nat.le_refl _,rfl,rfl⟩
  |nil=>
   by_cases hs:P.tl e=P.src
   ·rw [hs] at hu
    exact .inl ⟨F.s1 hu,F'.s1 hu⟩
   ·obtain ⟨w,c,hw⟩:=cm (sF h F he hs)
    have e1:=F.As hw hu
    have e2:=F'.As hw hu
    obtain ⟨hc,hh⟩:=(h.bV (P.tl e) c).1 (by rw [hw];simp)
    have hp:=h.nW c hc
    rw [hh] at hp
    rw [← e1, ← e2]
    rcases Az (d:=d) (e:=c) (by omega) hc with h1|⟨a,h1,h2,h3⟩
    ·exact .inl h1
    ·exact .inr ⟨a,h1,by omega,h3⟩
theorem D2:∀ {d:Nat} {e:Int},P.CH (P.tl e)<d→P.E e→(L e=f0∧L' e=L6)∨∃a,P.DZ a∧L e=R a∧L' e=R' a
 |0,e,hd,_=>by omega
 |d+1,e,hd,he=>by
  have hem:=(h.dz (P.tl e) e).2 ⟨he,rfl⟩
  obtain ⟨u,v,hu⟩:=List.append_of_mem hem
  rcases List.eq_nil_or_concat u with rfl|⟨u',b,rfl⟩
  ·by_cases hs:P.tl e=P.src
   ·rw [hs] at hu
    exact .inl ⟨F.s0 hu,F'.s0 hu⟩
   ·obtain ⟨c,w,hw⟩:=iB (sF h F he hs)
    have e1:=F.fst hw hu
    have e2:=F'.fst hw hu
    obtain ⟨hc,hh⟩:=(h.bV (P.tl e) c).1 (by rw [hw];simp)
    have hp:=h.nW c hc
    rw [hh] at hp
    rw [← e1, ← e2]
    exact D2 (d:=d) (e:=c) (by omega) hc
  ·have hu:P.outs (P.tl e)=u'++b::e::v:=by rw [hu];simp
   exact .inr ⟨b,⟨_,u',e,v,hu⟩,(F.fY hu).symm,(F'.fY hu).symm⟩
end
section
variable (h:P.Ok) {L R:Int→Int} {f0 f1:Int} {low:Int→Int} (F:P.gB L R f0 f1 low)
include h F
variable {hi:Int→Int} (H:P.Hi R f0 f1 hi)
include H
theorem AA (hm:0<P.m) (hl:low f1=P.src) {k:Int} (hk:k=f1∨∃a,P.DZ a∧R a=k):∃e,P.E e∧R e=k∧P.tl e=low k:=by
 rcases hk with rfl|⟨a,ha,rfl⟩
 ·obtain ⟨B,hB⟩:=eo h hm
  have hB:P.outs P.src=P.sh 0::B:=hB
  obtain ⟨v,b,hv⟩:=cm (l:=P.outs P.src) (by rw [hB];simp)
  obtain ⟨h1,h2⟩:=(h.dz P.src b).1 (by rw [hv];simp)
  exact ⟨b,h1,F.s1 hv,by rw [hl,h2]⟩
 ·have:=Ay h F ha
  exact ⟨a,this.1,rfl,this.2.1.symm⟩
end
def Jv (t h:Int→Int) (l:List Int) (x:Int):Int:=match l.find? (fun i=>decide (t i=x)) with
 |some i=>h i
 |none=>x
def Jw (t h:Int→Int) (l:List Int) (x:Int):Nat→Int
 |0=>x
 |k+1=>Jv t h l (Jw t h l x k)
section
variable (h:P.Ok) {L R:Int→Int} {f0 f1:Int} {low:Int→Int} (F:P.gB L R f0 f1 low) {hi:Int→Int} (H:P.Hi R f0 f1 hi)
include h F H
end
end Go.Ab
end
