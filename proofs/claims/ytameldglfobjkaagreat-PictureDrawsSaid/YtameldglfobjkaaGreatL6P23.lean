/- A part of the proof. -/
import Derived.Test.YtameldglfobjkaaGreatL6P22
set_option linter.unusedSimpArgs false
set_option linter.unusedVariables false
section
namespace Go.Ab
set_option maxRecDepth 10000
set_option linter.unusedSectionVars false
variable {P:PS}
structure PS.fM (P:PS) (L R:Int->Int) (f0 f1:Int) (low:Int->Int):Prop where
 ne:f0≠f1
 kQ:∀ {x u a b v},P.outs x=u++a::b::v->R a=L b
 uV:∀ {x u a b v},P.ins x=u++a::b::v->R a=L b
 fst:∀ {x a u b v},P.ins x=a::u->P.outs x=b::v->L a=L b
 GL:∀ {x a u b v},P.ins x=u++ [a]->P.outs x=v++ [b]->R a=R b
 s0:∀ {b v},P.outs P.src=b::v->L b=f0
 s1:∀ {b v},P.outs P.src=v++ [b]->R b=f1
 new:∀ {x u a b v},P.outs x=u++a::b::v->low (R a)=x/\R a≠f0/\R a≠f1
 new1:∀ {x u a b v u' a' b' v'},P.outs x=u++a::b::v->P.outs x=u'++a'::b'::v'->R a=R a'->a=a'
theorem Qg{l u v u' v':List Int}{a:Int}(hn:l.Nodup)(h1:l=u++a::v)(h2:l=u'++a::v'):u=u'/\v=v':=by
 induction u generalizing l u' with
 |nil=>
  cases u' with
  |nil=>rw[h1]at h2;simpa using h2
  |cons b u'=>
   rw[h1]at h2
   simp only[List.nil_append,List.cons_append,adA]at h2
   rw[h1,h2.2]at hn
   simp at hn
 |cons b u ih=>
  cases u' with
  |nil=>
   rw[h2]at h1
   simp only[List.nil_append,List.cons_append,adA]at h1
   rw[h2,h1.2]at hn
   simp at hn
  |cons b' u'=>
   have h3:=h1.symm.trans h2
   simp only[List.cons_append,adA]at h3
   rw[h1,List.cons_append,ad5]at hn
   obtain⟨h4,h5⟩:=ih hn.2 rfl h3.2
   exact⟨by rw[h3.1,h4],h5⟩
theorem lC{l u v:List Int}{a b:Int}(h:l.reverse=u++a::b::v):l=v.reverse++b::a::u.reverse:=by
 have:=congrArg List.reverse h
 simpa using this
theorem PS.fM.Di(h:P.Ok){L R:Int->Int}{f0 f1:Int}{low:Int->Int}(F:P.fM L R f0 f1 low):P.Di.fM R L f1 f0 low:=
 {ne:=F.ne.symm
  kQ:=fun {x u a b v} h=>(F.kQ (lC (show(P.outs x).reverse=_ from h))).symm
  uV:=fun {x u a b v} h=>(F.uV (lC (show(P.ins x).reverse=_ from h))).symm
  fst:=fun {x a u b v} h1 h2=>F.GL (x:=x) (u:=u.reverse) (v:=v.reverse) (by
     have:=congrArg List.reverse (show(P.ins x).reverse=_ from h1);simpa using this) (by
     have:=congrArg List.reverse (show(P.outs x).reverse=_ from h2);simpa using this)
  GL:=fun {x a u b v} h1 h2=>F.fst (x:=x) (u:=u.reverse) (v:=v.reverse) (by
    have:=congrArg List.reverse (show(P.ins x).reverse=_ from h1);simpa using this) (by
    have:=congrArg List.reverse (show(P.outs x).reverse=_ from h2);simpa using this)
  s0:=fun {b v} h1=>F.s1 (v:=v.reverse) (by
     have:=congrArg List.reverse (show(P.outs P.src).reverse=_ from h1);simpa using this)
  s1:=fun {b v} h1=>F.s0 (v:=v.reverse) (by
     have:=congrArg List.reverse (show(P.outs P.src).reverse=_ from h1);simpa using this)
  new:=fun {x u a b v} h1=>by
   have h2:=lC (show(P.outs x).reverse=_ from h1)
   obtain⟨h3,h4,h5⟩:=F.new h2
   have h6:=F.kQ h2
   rw[<- h6];exact⟨h3,h5,h4⟩
  new1:=fun {x u a b v u' a' b' v'} h1 h2 h3=>by
   have g1:=lC (show(P.outs x).reverse=_ from h1)
   have g2:=lC (show(P.outs x).reverse=_ from h2)
   rw[<- F.kQ g1, <- F.kQ g2]at h3
   have h4:=F.new1 g1 g2 h3
   subst h4
   have:=(Qg (h.wW x) g1 g2).2
   simp only[adA]at this
   exact this.1}
def ja(L R:Int->Int):Int->List Int->Prop
 |_, []=>True
 |f,a::W=>L a=f/\ja L R (R a) W
def ku(R:Int->Int):Int->List Int->Int
 |f, []=>f
 |_,a::W=>ku R (R a) W
theorem cw{L R:Int->Int} :∀ {A B:List Int} {f:Int},ja L R f (A++B)↔ja L R f A/\ja L R (ku R f A) B
 | [],B,f=>by simp[ja,ku]
 |a::A,B,f=>by simp[ja,ku,cw,and_assoc]
theorem dn{R:Int->Int} :∀ {A B:List Int} {f:Int},ku R f (A++B)=ku R (ku R f A) B
 | [],B,f=>rfl
 |a::A,B,f=>by simp[ku,dn]
theorem cW{R:Int->Int}{A:List Int}{a f:Int} :ku R f (A++ [a])=R a:=by rw[dn];rfl
theorem w5{L R:Int->Int} :∀ {X:List Int} {f:Int},(∀u a b v,X=u++a::b::v->R a=L b)->(∀a u,X=a::u->L a=f)->ja L R f X
 | [],f,_,_=>trivial
 |a::X,f,h,h1=>⟨h1 a X rfl,w5 (fun u b c v e=>h (a::u) b c v (by rw[e];rfl)) fun b v e=>(h [] a b v (by rw[e];rfl)).symm⟩
theorem Qh{L R:Int->Int}{f:Int}{u v:List Int}{a b:Int}(h:ja L R f (u++a::b::v)):R a=L b:=by
 have:=(cw.1 h).2
 exact this.2.1.symm
theorem iA{l:List Int}(h:l≠ []):∃u a,l=u++ [a]:=by
 rcases aft l with h1|⟨u,a,h1⟩
 ·exact absurd h1 h
 ·exact⟨u,a,by rw[h1,agh]⟩
theorem jZ{l:List Int}(h:l≠ []):∃a u,l=a::u:=by
 cases l with
 |nil=>exact absurd rfl h
 |cons a u=>exact⟨a,u,rfl⟩
structure GQ (L R:Int->Int) (f0 f1:Int) (low:Int->Int) (W D:List Int):Prop where
 lk:ja L R f0 W
 en:ku R f0 W=f1
 nd:(W.map R).Nodup
 lo:∀a∈W,R a≠f0/\(R a=f1\/(R a≠f1/\low (R a)∈D))
theorem M0{X U V Y:List Int}{r:Int}(h:(X++(U++ [r])++Y).Nodup)(hV:V.Nodup)(hd:∀z∈V,z∉X/\z≠r/\z∉Y):(X++(V++ [r])++Y).Nodup:=by
 have h1:(X++ [r]++Y).Nodup:=by
  refine List.Nodup.sublist ?_ h
  refine agJ (agJ (agB _) ?_) (agB _)
  exact List.sublist_append_right ..
 have h2:(V++(X++ [r]++Y)).Nodup:=by
  rw[adt]
  refine⟨hV,h1,fun a ha b hb e=> ?_⟩
  subst e
  obtain⟨g1,g2,g3⟩:=hd a ha
  simp only[ac8,adu]at hb
  rcases hb with (hb|hb)|hb
  ·exact g1 hb
  ·exact g2 hb
  ·exact g3 hb
 refine(List.Perm.nodup_iff ?_).1 h2
 have:X++(V++ [r])++Y=(X++V)++([r]++Y):=by simp
 rw[this]
 have:V++(X++ [r]++Y)=(V++X)++([r]++Y):=by simp
 rw[this]
 exact List.Perm.append_right _ List.perm_append_comm
theorem tZ{R:Int->Int} :∀ {l:List Int},l.Nodup->(∀a∈l,∀b∈l,R a=R b->a=b)->(l.map R).Nodup
 | [],_,_=>by simp
 |a::l,hn,h=>by
  rw[ad5]at hn
  rw[adC,ad5]
  refine⟨fun hm=> ?_,tZ hn.2 fun x hx y hy=>h x (adz _ hx) y (adz _ hy)⟩
  obtain⟨b,hb,e⟩:=ada.1 hm
  have:=h b (adz _ hb) a (adH ..) e
  exact hn.1 (this ▸ hb)
section
variable (h:P.Ok) {L R:Int->Int} {f0 f1:Int} {low:Int->Int} (F:P.fM L R f0 f1 low)
include h F
theorem uW{v:List Int}{b:Int}{x:Int}(hv:P.outs x=v++ [b]){a:Int}(ha:a∈v):∃u c w,P.outs x=u++a::c::w:=by
 obtain⟨s,t,rfl⟩:=aeW ha
 cases t with
 |nil=>exact⟨s,b, [],by rw[hv];simp⟩
 |cons c t=>exact⟨s,c,t++ [b],by rw[hv];simp⟩
theorem sW{x f:Int}(hf:∀b v,P.outs x=b::v->L b=f):ja L R f (P.outs x):=w5 (fun u a b v e=>F.kQ e) fun a u e=>hf a u e
theorem GR{x f:Int}(hf:∀b v,P.ins x=b::v->L b=f):ja L R f (P.ins x):=w5 (fun u a b v e=>F.uV e) fun a u e=>hf a u e
theorem KR{x:Int}{v:List Int}{b:Int}(hv:P.outs x=v++ [b]):(v.map R).Nodup/\∀z∈v.map R,low z=x/\z≠f0/\z≠f1:=by
 have hn:=h.wW x
 rw[hv,adt]at hn
 refine⟨tZ hn.1 fun a ha a' TZ e=> ?_,fun z hz=> ?_⟩
 ·obtain⟨u,c,w,h1⟩:=uW h F hv ha
  obtain⟨u',c',w',h2⟩:=uW h F hv TZ
  exact F.new1 h1 h2 e
 ·obtain⟨a,ha,rfl⟩:=ada.1 hz
  obtain⟨u,c,w,h1⟩:=uW h F hv ha
  exact F.new h1
theorem GQ.start(hne:P.outs P.src≠ []):GQ L R f0 f1 low (P.outs P.src) [P.src]:=by
 obtain⟨v,b,hv⟩:=iA hne
 obtain⟨n1,n2⟩:=KR h F hv
 have hb:=F.s1 hv
 refine⟨sW h F fun b v e=>F.s0 e,by rw[hv,cW,hb], ?_,fun a ha=> ?_⟩
 ·rw[hv,ads,adt]
  refine⟨n1,by simp,fun z hz y hy e=> ?_⟩
  simp only[adC,adO,adu]at hy
  exact(n2 z hz).2.2 (by rw[e,hy,hb])
 ·rw[hv,ac8,adu]at ha
  rcases ha with ha|rfl
  ·obtain⟨g1,g2,g3⟩:=n2 (R a) (aeO ha)
   exact⟨g2, .inr ⟨g3,by rw[g1];simp⟩⟩
  ·exact⟨by rw[hb];exact F.ne.symm, .inl hb⟩
theorem GQ.step{A C D:List Int}{x:Int}(hi:GQ L R f0 f1 low (A++P.ins x++C) D)(hI:P.ins x≠ [])(hO:P.outs x≠ [])(hx:x∉D):GQ L R f0 f1 low (A++P.outs x++C) (D++ [x]):=by
 obtain⟨u,a,hu⟩:=iA hI
 obtain⟨v,b,hv⟩:=iA hO
 obtain⟨a0,u0,VF⟩:=jZ hI
 obtain⟨b0,v0,TV⟩:=jZ hO
 have hab:=F.GL hu hv
 have h0:=F.fst VF TV
 obtain⟨l1,l2⟩:=cw.1 hi.lk
 obtain⟨l3,l4⟩:=cw.1 l1
 have WL:∀f,ku R f (P.ins x)=R a:=fun f=>by rw[hu,cW]
 have heb:∀f,ku R f (P.outs x)=R b:=fun f=>by rw[hv,cW]
 have hL:L a0=ku R f0 A:=by rw[VF]at l4;exact l4.1
 obtain⟨n1,n2⟩:=KR h F hv
 have bR:=hi.nd
 have hlo:=hi.lo
 refine⟨?_, ?_, ?_,fun c hc=> ?_⟩
 ·rw[cw,cw]
  refine⟨⟨l3,sW h F fun b' v' e=> ?_⟩, ?_⟩
  ·rw[TV]at e
   simp only[adA]at e
   rw[<- e.1, <- h0,hL]
  ·rw[dn,heb]
   rw[dn,WL]at l2
   rw[<- hab];exact l2
 ·have:=hi.en
  rw[dn,dn,WL]at this
  rw[dn,dn,heb, <- hab];exact this
 ·rw[ads,ads,hv,ads]
  rw[ads,ads,hu,ads]at bR
  simp only[adC,adO]at bR ⊢
  rw[<- hab]
  have hold:∀c∈A++P.ins x++C,R c∉v.map R:=fun c hc hz=>by
   obtain⟨g1,g2,g3⟩:=n2 _ hz
   rcases(hlo c hc).2 with h1|⟨_,h1⟩
   ·exact g3 h1
   ·rw[g1]at h1;exact hx h1
  refine M0 bR n1 fun z hz=>⟨fun Md=> ?_,fun Md=> ?_,fun Md=> ?_⟩
  ·obtain⟨c,hc,rfl⟩:=ada.1 Md
   exact hold c (by simp[hc]) hz
  ·exact hold a (by rw[hu];simp) (Md ▸ hz)
  ·obtain⟨c,hc,rfl⟩:=ada.1 Md
   exact hold c (by simp[hc]) hz
 ·have hold:∀c∈A++P.ins x++C,R c≠f0/\(R c=f1\/(R c≠f1/\low (R c)∈D++ [x])):=fun c hc=>by
   obtain⟨g1,g2⟩:=hlo c hc
   exact⟨g1,g2.imp id fun ⟨g3,g4⟩=>⟨g3,ac8.2 (.inl g4)⟩⟩
  simp only[ac8]at hc
  rcases hc with (hc|hc)|hc
  ·exact hold c (by simp[hc])
  ·rw[hv,ac8,adu]at hc
   rcases hc with hc|rfl
   ·obtain⟨g1,g2,g3⟩:=n2 (R c) (aeO hc)
    exact⟨g2, .inr ⟨g3,by rw[g1];simp⟩⟩
   ·have:=hold a (by rw[hu];simp)
    rw[hab]at this;exact this
  ·exact hold c (by simp[hc])
end
end Go.Ab
end
section
namespace Go.Ab
set_option maxRecDepth 10000
set_option linter.unusedSectionVars false
variable {P:PS}
inductive PS.gD (P:PS) (x:Int):Int->Prop
 |refl:P.gD x x
 |step {e:Int} :P.gD x (P.tl e)->P.E e->P.gD x (P.hd e)
theorem PS.gD.trans{x y z:Int}(h1:P.gD x y)(h2:P.gD y z):P.gD x z:=by
 induction h2 with
 |refl=>exact h1
 |step _ he ih=>exact .step ih he
inductive PS.Lp (P:PS) (L R:Int->Int) (F:Int):Int->Prop
 |refl:P.Lp L R F F
 |step {e:Int} :P.Lp L R F (L e)->P.E e->P.Lp L R F (R e)
theorem PS.Lp.trans{L R:Int->Int}{x y z:Int}(h1:P.Lp L R x y)(h2:P.Lp L R y z):P.Lp L R x z:=by
 induction h2 with
 |refl=>exact h1
 |step _ he ih=>exact .step ih he
theorem PS.Lp.head{L R:Int->Int}{e z:Int}(he:P.E e)(h2:P.Lp L R (R e) z):P.Lp L R (L e) z:=(PS.Lp.step .refl he).trans h2
theorem PS.Lp.Di{L R:Int->Int}{x y:Int}(h1:P.Lp L R x y):P.Di.Lp R L y x:=by
 induction h1 with
 |refl=>exact .refl
 | @step e h1 he ih=>exact PS.Lp.head (P:=P.Di) (L:=R) (R:=L) (e:=e) he ih
theorem PS.gD.Di{x y:Int}(h1:P.gD x y):P.Di.gD x y:=by
 induction h1 with
 |refl=>exact .refl
 |step h1 he ih=>exact PS.gD.step (P:=P.Di) ih he
section
variable (h:P.Ok)
include h
theorem pV{j:Nat}(hj:j<=P.m):∃k,P.Row k ((P.st j).A++(P.st j).B) (P.st j).D:=(P.inv h j hj).row
theorem js{j:Nat}(hj:j<P.m):∃B,(P.st j).B=P.sh j::B:=by
 obtain⟨e,B,hB⟩:=(P.inv h j (by omega)).more h hj
 refine⟨B, ?_⟩
 have:P.sh j=e:=by unfold PS.sh;rw[hB];rfl
 rw[this,hB]
theorem EP{j:Nat}(hj:j<P.m):P.E (P.sh j):=by
 obtain⟨B,hB⟩:=js h hj
 obtain⟨k,hr⟩:=pV h (aga hj)
 exact((h.eW hr _).1 (by rw[hB];simp)).1
theorem yj{i j:Nat}(hi:i<P.m)(hj:j<P.m)(e:P.sh i=P.sh j):i=j:=by
 have hn:=(P.inv h P.m (adg _)).nd
 have hl:=PS.zS (P:=P) (j:=P.m)
 have gi:(P.xQ P.m)[i]'(by omega)=P.sh i:=by simp[PS.xQ]
 have gj:(P.xQ P.m)[j]'(by omega)=P.sh j:=by simp[PS.xQ]
 exact(agl hn).1 (by rw[gi,gj,e])
theorem j0{e:Int}(he:P.E e):∃j,j<P.m/\P.sh j=e:=by
 have hi:=P.inv h P.m (adg _)
 refine adl fun hne=> ?_
 have hne:e∉P.xQ P.m:=fun hm=>hne (PS.wZ.1 hm)
 have bR:(e::P.xQ P.m).Nodup:=ad5.2 ⟨hne,hi.nd⟩
 have:=lB (m:=(List.range P.m).map Int.ofNat) bR fun x hx=>by
  have hE:P.E x:=by
   rcases adv.1 hx with rfl|hx
   ·exact he
   ·exact((hi.sh x).1 hx).1
  have h1:=hE.1;have h2:=hE.2
  exact ada.2 ⟨x.toNat,adk.2 (by omega),by simp;omega⟩
 simp[PS.zS]at this
 omega
theorem w6{i j:Nat}(hi:i<P.m)(hj:j<=P.m):P.sh i∈P.xQ j↔i<j:=by
 rw[PS.wZ]
 constructor
 ·rintro⟨i',h1,h2⟩
  have:=yj h (by omega) hi h2
  omega
 ·exact fun h1=>⟨i,h1,rfl⟩
theorem Qi:(P.st P.m).A= []:=by
 have hi:=P.inv h P.m (adg _)
 obtain⟨k,hr⟩:=hi.row
 have hB:(P.st P.m).B= []:=by
  cases hB:(P.st P.m).B with
  |nil=>rfl
  |cons e B=>
   exfalso
   have hm:=(h.eW hr e).1 (by rw[hB];simp)
   obtain⟨j,hj,e2⟩:=j0 h hm.1
   have h1:e∈P.xQ P.m:=PS.wZ.2 ⟨j,hj,e2⟩
   have bR:=h.qX hr
   rw[adt]at bR
   rcases((hi.sh e).1 h1).2 with h2|h2
   ·exact bR.2.2 e h2 e (by rw[hB];simp) rfl
   ·exact hm.2.2 h2
 rw[hB,ad4]at hr
 cases k with
 |succ k=>
  obtain⟨x,A,C,h1,h2⟩:=h.qY hr
  exact absurd ⟨A,C,h1.symm⟩ (hi.no x h2)
 |zero=>
  cases hA:(P.st P.m).A with
  |nil=>rfl
  |cons e A=>
   have hm:=(h.eW hr e).1 (by rw[hA];simp)
   exact absurd (h.sV hr e hm.1) hm.2.2
theorem mX{j:Nat}(hj:j<P.m):∃B,(P.st j).B=P.sh j::B/\((∃A',(P.st j).A++ [P.sh j]=A'++P.ins (P.hd (P.sh j))/\P.ins (P.hd (P.sh j))≠ []/\P.st (j+1)=⟨A',P.outs (P.hd (P.sh j))++B,(P.st j).D++ [P.hd (P.sh j)]⟩)\/
 (¬P.ins (P.hd (P.sh j))<:+(P.st j).A++ [P.sh j]/\P.st (j+1)=⟨(P.st j).A++ [P.sh j],B,(P.st j).D⟩)):=by
 obtain⟨B,hB⟩:=js h hj
 obtain⟨k,hr⟩:=pV h (aga hj)
 exact⟨B,hB,(PS.BC h hr hB).2⟩
theorem aa2{j:Nat}(hj:j<P.m):P.sh j∉(P.st j).A:=by
 obtain⟨B,hB⟩:=js h hj
 obtain⟨k,hr⟩:=pV h (aga hj)
 have bR:=h.qX hr
 rw[adt]at bR
 exact fun hA=>bR.2.2 _ hA _ (by rw[hB];simp) rfl
theorem GS:∀ {d j:Nat},j+d=P.m->∀t∈(P.st j).A,∀u,P.ins (P.hd t)≠u++ [t]
 |0,j,hj,t,ht,u=>by
  obtain rfl:j=P.m:=by omega
  rw[Qi h]at ht;cases ht
 |d+1,j,hj,t,ht,u=>by
  have ih:=GS (d:=d) (j:=j+1) (by omega)
  have hjm:j<P.m:=by omega
  obtain⟨B,hB,hc⟩:=mX h hjm
  have hne:=aa2 h hjm
  rcases hc with ⟨A',h1,h2,h3⟩|⟨h1,h3⟩
  ·have Sx:t∈A'++P.ins (P.hd (P.sh j)):=by rw[<- h1];simp[ht]
   rcases ac8.1 Sx with h4|h4
   ·exact ih t (by rw[h3];exact h4) u
   ·intro hu
    rw[((h.cz _ _).1 h4).2]at hu
    rw[hu, <- List.append_assoc]at h1
    have:=(afX h1 rfl).2
    simp only[adA,afc]at this
    exact hne (this ▸ ht)
  ·exact ih t (by rw[h3];simp[ht]) u
theorem KS{j:Nat}(hj:j<P.m):P.VE∉(P.st j).D:=fun hs=>by
 have hi:=P.inv h j (by omega)
 obtain⟨k,hr⟩:=hi.row
 have:=h.zR hr hs
 subst this
 have:=Dj (l:=P.xQ j) (m:=P.m) fun e h1 h2=>(hi.sh e).2 ⟨⟨h1,h2⟩, .inr (h.sV hr e ⟨h1,h2⟩)⟩
 rw[PS.zS]at this
 omega
variable {L R:Int->Int} {f0 f1:Int} {low:Int->Int} (F:P.fM L R f0 f1 low)
include F
theorem qZ:∀ {j:Nat},j<P.m->GQ L R f0 f1 low ((P.st j).A++(P.st j).B) (P.st j).D
 |0,hj=>by
  obtain⟨B,hB⟩:=js h hj
  have hB:P.outs P.src=P.sh 0::B:=hB
  exact GQ.start h F (by rw[hB];simp)
 |j+1,hj=>by
  have ih:=qZ (j:=j) (by omega)
  obtain⟨B,hB,hc⟩:=mX h (show j<P.m by omega)
  obtain⟨k,hr⟩:=pV h (show j<=P.m by omega)
  rcases hc with ⟨A',h1,h2,h3⟩|⟨h1,h3⟩
  ·have hs:=KS h hj
   rw[h3]at hs ⊢
   have hx:P.hd (P.sh j)≠P.VE:=fun e=>hs (by simp[e])
   have hO:P.outs (P.hd (P.sh j))≠ []:=fun e=>hx ((h.wY _ h2).1 e)
   have hm:=(h.eW hr (P.sh j)).1 (by rw[hB];simp)
   have hW:(P.st j).A++(P.st j).B=A'++P.ins (P.hd (P.sh j))++B:=by rw[hB, <- h1];simp
   rw[hW]at ih
   have:=GQ.step h F ih h2 hO hm.2.2
   simpa using this
  ·rw[h3]
   have hW:(P.st j).A++(P.st j).B=(P.st j).A++ [P.sh j]++B:=by rw[hB];simp
   rw[hW]at ih
   exact ih
theorem Qj{j:Nat}(hj:j<P.m){a b:Int}(ha:a∈(P.st j).A++(P.st j).B)(hb:b∈(P.st j).A++(P.st j).B)(e:R a=R b):a=b:=by
 have hn:=(qZ h F hj).nd
 obtain⟨i,hi,rfl⟩:=adr.1 ha
 obtain⟨k,hk,rfl⟩:=adr.1 hb
 have:=(agl (i:=i) (j:=k) (h₀:=by simpa using hi) (h₁:=by simpa using hk) hn).1 (by rw[afY,afY];exact e)
 subst this;rfl
theorem uX{j:Nat}(hj:j<P.m):∀ {d:Nat} {e:Int},P.WJ (P.tl e)<d->P.E e->R e=L (P.sh j)->e∈P.xQ j
 |0,e,hd,_,_=>by omega
 |d+1,e,hd,he,hR=>by
  refine adl fun hne=> ?_
  have hi:=P.inv h j (by omega)
  have hF:=qZ h F hj
  obtain⟨B,hB⟩:=js h hj
  obtain⟨k,hr⟩:=hi.row
  have ER:¬(e∈(P.st j).A\/P.hd e∈(P.st j).D):=fun h1=>hne ((hi.sh e).2 ⟨he,h1⟩)
  have hlk:=hF.lk
  rw[cw,hB]at hlk
  have ES:L (P.sh j)=ku R f0 (P.st j).A:=hlk.2.1
  rcases aft (P.st j).A with hA|⟨A',t,hA⟩
  ·
   have ES:L (P.sh j)=f0:=by rw[ES,hA];rfl
   have hR0:R e≠f0:=by
    obtain⟨i,hi2,e2⟩:=j0 h he
    obtain⟨B2,CI⟩:=js h hi2
    have:=((qZ h F hi2).lo (P.sh i) (by rw[CI];simp)).1
    rw[e2]at this;exact this
   exact hR0 (hR.trans ES)
  ·rw[agh]at hA
   have ES:L (P.sh j)=R t:=by rw[ES,hA,cW]
   have WM:t∈(P.st j).A:=by rw[hA];simp
   have Zf:t∈(P.st j).A++(P.st j).B:=ac8.2 (.inl WM)
   have X6:R e=R t:=hR.trans ES
   by_cases hc:P.tl e∈(P.st j).D
   ·have heW:=(h.eW hr e).2 ⟨he,hc,fun h1=>ER (.inr h1)⟩
    have:=Qj h F hj heW Zf X6
    exact ER (.inl (this ▸ WM))
   ·have hem:e∈P.outs (P.tl e):=(h.bI _ _).2 ⟨he,rfl⟩
    obtain⟨s,w,hs⟩:=aeW hem
    have X7:R t≠f1:=fun h1=>by
     have h2:=hF.en
     rw[hB,dn]at h2
     obtain⟨V,b,hVb⟩:=iA (l:=P.sh j::B) (by simp)
     rw[hVb,cW]at h2
     have hbB:b∈(P.st j).B:=by rw[hB,hVb];simp
     have h3:=Qj h F hj Zf (ac8.2 (.inr hbB)) (h1.trans h2.symm)
     have bR:=h.qX hr
     rw[adt]at bR
     exact bR.2.2 t WM b hbB h3
    cases w with
    |cons b w=>
     obtain⟨g1,g2,g3⟩:=F.new hs
     have h4:=(hF.lo t Zf).2
     rw[<- X6]at h4 X7
     rcases h4 with h4|⟨_,h4⟩
     ·exact X7 h4
     ·rw[g1]at h4;exact hc h4
    |nil=>
     have hI:P.ins (P.tl e)≠ []:=fun h0=>by
      have h5:P.tl e≠P.src:=fun h6=>hc (h6 ▸ h.wX hr)
      obtain⟨i,hi2,e2⟩:=j0 h he
      obtain⟨k2,tQ⟩:=pV h (show i<=P.m by omega)
      obtain⟨B2,CI⟩:=js h hi2
      have hm2:=(h.eW tQ (P.sh i)).1 (by rw[CI];simp)
      have:∀i,i<=P.m->∀x∈(P.st i).D,x=P.src\/P.ins x≠ []:=by
       intro i
       induction i with
       |zero=>intro _ x hx;exact .inl (by simpa[PS.st]using hx)
       |succ i ih=>
        intro hi3 x hx
        obtain⟨B3,hB3,WD⟩:=mX h (show i<P.m by omega)
        rcases WD with ⟨A3,k1,k2,k3⟩|⟨k1,k3⟩
        ·rw[k3]at hx
         rcases ac8.1 hx with hx|hx
         ·exact ih (by omega) x hx
         ·rw[adu]at hx
          exact .inr (hx ▸ k2)
        ·rw[k3]at hx;exact ih (by omega) x hx
      rcases this i (by omega) _ hm2.2.1 with h6|h6
      ·rw[e2]at h6;exact h5 h6
      ·rw[e2]at h6;exact h6 h0
     obtain⟨u,a,hu⟩:=iA hI
     have X8:=(h.cz (P.tl e) a).1 (by rw[hu];simp)
     have X9:R a=R e:=F.GL hu hs
     have hp:=h.EO a X8.1
     rw[X8.2]at hp
     have hin:=uX (d:=d) (e:=a) hj (by omega) X8.1 (X9.trans hR)
     rcases((hi.sh a).1 hin).2 with h7|h7
     ·have h8:=Qj h F hj (ac8.2 (.inl h7)) Zf (X9.trans X6)
      subst h8
      exact GS h (d:=P.m - j) (by omega) a WM u (by rw[X8.2];exact hu)
     ·rw[X8.2]at h7;exact hc h7
theorem M1{i j:Nat}(hi:i<P.m)(hj:j<P.m)(hR:P.Lp L R (R (P.sh i)) (L (P.sh j))):i<j:=by
 have key:∀y,P.Lp L R (R (P.sh i)) y->∀j,j<P.m->L (P.sh j)=y->i<j:=by
  intro y hy
  induction hy with
  |refl=>
   intro j hj e
   exact(w6 h hi (by omega)).1 (uX h F hj (d:=P.WJ (P.tl (P.sh i))+1) (by omega) (EP h hi) e.symm)
  | @step f _ hf ih=>
    intro j hj e
    obtain⟨k,hk,rfl⟩:=j0 h hf
    have h1:=ih k hk rfl
    have h2:=(w6 h hk (by omega)).1 (uX h F hj (d:=P.WJ (P.tl (P.sh k))+1) (by omega) hf e.symm)
    omega
 exact key _ hR j hj rfl
end
end Go.Ab
end
section
namespace Go.Ab
set_option maxRecDepth 10000
set_option linter.unusedSectionVars false
variable {P:PS}
theorem w8{L R:Int->Int} :∀ {A:List Int} {f:Int},(∀a∈A,P.E a)->ja L R f A->P.Lp L R f (ku R f A)
 | [],_,_,_=> .refl
 |a::A,f,hE,⟨h1,h2⟩=>by
  have:=w8 (A:=A) (f:=R a) (fun b hb=>hE b (adz _ hb)) h2
  rw[<- h1]
  exact PS.Lp.head (hE a (adH ..)) this
section
variable (h:P.Ok) {L R:Int->Int} {f0 f1:Int} {low:Int->Int} (F:P.fM L R f0 f1 low)
include h F
theorem Qk{x:Int}{u v v':List Int}{e a:Int}(hu:P.ins x=u++e::v)(ha:P.ins x=v'++ [a]):P.Lp L R (R e) (R a):=by
 have hl:ja L R (L ((P.ins x).headD 0)) (P.ins x):=by
  cases hI:P.ins x with
  |nil=>trivial
  |cons b w=>rw[<- hI];exact GR h F fun b' w' e'=>by rw[hI];rw[hI]at e';simp only[adA]at e';simp[e'.1]
 rw[hu,show u++e::v=(u++ [e])++v by simp,cw,cW]at hl
 have h2:=w8 (P:=P) (fun b hb=>((h.cz x b).1 (by rw[hu];simp[hb])).1) hl.2
 have h3:ku R (R e) v=R a:=by
  have e1:ku R 0 (P.ins x)=R a:=by rw[ha,cW]
  rw[hu,show u++e::v=(u++ [e])++v by simp,dn,cW]at e1
  exact e1
 rw[h3]at h2;exact h2
theorem Dk{x:Int}(hx:x≠P.src):∀ {j:Nat},j<=P.m->x∈(P.st j).D->∃i B,i<j/\x∉(P.st i).D/\P.hd (P.sh i)=x/\(∃u,P.ins x=u++ [P.sh i])/\(∀e∈P.ins x,e∈P.xQ (i+1))/\(P.st (i+1)).B=P.outs x++B/\(P.st i).B=P.sh i::B
 |0,_,hm=>by
  have:x∈ [P.src]:=hm
  simp at this;exact absurd this hx
 |j+1,hj,hm=>by
  by_cases hp:x∈(P.st j).D
  ·obtain⟨i,B,h1,h2⟩:=Dk hx (by omega) hp
   exact⟨i,B,by omega,h2⟩
  ·obtain⟨B,hB,hc⟩:=mX h (show j<P.m by omega)
   rcases hc with ⟨A',h1,h2,h3⟩|⟨h1,h3⟩
   ·rw[h3]at hm
    rcases ac8.1 hm with hm|hm
    ·exact absurd hm hp
    ·rw[adu]at hm
     subst hm
     refine⟨j,B,by omega,hp,rfl, ?_,fun e he=> ?_,by rw[h3],hB⟩
     ·obtain⟨u,a,hu⟩:=iA h2
      rw[hu, <- List.append_assoc]at h1
      have:=(afX h1 rfl).2
      simp only[adA,afc]at this
      exact⟨u,by rw[hu,this]⟩
     ·refine((P.inv h (j+1) hj).sh e).2 ⟨((h.cz _ _).1 he).1, .inr ?_⟩
      rw[h3,((h.cz _ _).1 he).2];simp
   ·rw[h3]at hm;exact absurd hm hp
theorem BD{x a:Int}{i k:Nat}(hk:k<P.m)(hik:i<k){v B:List Int}(hB:(P.st (i+1)).B=v++a::B)(hv:∀e∈v,P.tl e=x)(ha:P.tl a=x)(hka:P.sh k=a):
 ∀ {t:Nat},i+1<=t->t<=k->∃Z,(P.st t).B=Z++a::B/\∀z∈Z,P.gD x (P.tl z)
 |0,h1,_=>by omega
 |t+1,h1,h2=>by
  by_cases r8:t=i
  ·subst r8
   exact⟨v,hB,fun z hz=>by rw[hv z hz];exact .refl⟩
  ·obtain⟨Z,hZ,hr⟩:=BD hk hik hB hv ha hka (t:=t) (by omega) (by omega)
   obtain⟨B2,CI,hc⟩:=mX h (show t<P.m by omega)
   cases Z with
   |nil=>
    rw[hZ]at CI
    simp only[List.nil_append,adA]at CI
    have:=yj h hk (show t<P.m by omega) (hka.trans CI.1)
    omega
   |cons z Z=>
    rw[hZ]at CI
    simp only[List.cons_append,adA]at CI
    rcases hc with ⟨A',g1,g2,g3⟩|⟨g1,g3⟩
    ·refine⟨P.outs (P.hd (P.sh t))++Z,by rw[g3, <- CI.2];simp,fun y hy=> ?_⟩
     rcases ac8.1 hy with hy|hy
     ·rw[((h.bI _ _).1 hy).2]
      have:=hr z (adH ..)
      rw[CI.1]at this
      exact .step this (EP h (by omega))
     ·exact hr y (adz _ hy)
    ·exact⟨Z,by rw[g3, <- CI.2],fun y hy=>hr y (adz _ hy)⟩
theorem uY:∀ {d i j:Nat},j - i<=d->i<j->j<P.m->P.gD (P.hd (P.sh i)) (P.tl (P.sh j))\/P.Lp L R (R (P.sh i)) (L (P.sh j))
 |0,i,j,hd,hij,_=>by omega
 |d+1,i,j,hd,hij,hj=>by
  have hi:=P.inv h j (by omega)
  have SU:=EP h (show i<P.m by omega)
  obtain⟨B,hB⟩:=js h hj
  obtain⟨k,hr⟩:=hi.row
  have hin:=(w6 h (show i<P.m by omega) (show j<=P.m by omega)).2 hij
  rcases((hi.sh _).1 hin).2 with hA|hD
  ·right
   obtain⟨u,w,hA⟩:=aeW hA
   have hlk:=(qZ h F hj).lk
   rw[hB,hA,show u++P.sh i::w++P.sh j::B=(u++ [P.sh i])++(w++P.sh j::B) by simp,cw,cW]at hlk
   have Iz:=cw.1 hlk.2
   have h1:=w8 (P:=P) (A:=w) (fun b hb=>((h.eW hr b).1 (by rw[hA];simp[hb])).1) Iz.1
   rw[<- Iz.2.1]at h1
   exact h1
  ·generalize hx:P.hd (P.sh i)=x at hD
   have hxs:x≠P.src:=fun e=>by
    have:=(h.cz x (P.sh i)).2 ⟨SU,hx⟩
    rw[e,h.BA]at this;cases this
   obtain⟨i',B',q1,q2,q3,⟨u,q4⟩,q5,q6,q7⟩:=Dk h F hxs (by omega) hD
   have Sg:=(h.cz x (P.sh i)).2 ⟨SU,hx⟩
   have hii:i<i'+1:=(w6 h (show i<P.m by omega) (by omega)).1 (q5 _ Sg)
   have hI:P.ins x≠ []:=fun h0=>by rw[h0]at Sg;cases Sg
   have hO:P.outs x≠ []:=fun h0=>by
    have:=(h.wY x hI).1 h0
    exact KS h hj (this ▸ hD)
   obtain⟨v,a,hv⟩:=iA hO
   have ha:=(h.bI x a).1 (by rw[hv];simp)
   obtain⟨k2,hk2,hka⟩:=j0 h ha.1
   have hik:i'<k2:=by
    refine adl fun hlt=> ?_
    have h1:a∈P.xQ (i'+1):=hka ▸ (w6 h hk2 (by omega)).2 (by omega)
    have hi':=P.inv h (i'+1) (by omega)
    obtain⟨k3,hr3⟩:=hi'.row
    have haB:a∈(P.st (i'+1)).B:=by rw[q6,hv];simp
    have WG:=(h.eW hr3 a).1 (ac8.2 (.inr haB))
    have bR:=h.qX hr3
    rw[adt]at bR
    rcases((hi'.sh a).1 h1).2 with h2|h2
    ·exact bR.2.2 a h2 a haB rfl
    ·exact WG.2.2 h2
   have hlp:P.Lp L R (R (P.sh i)) (R a):=by
    obtain⟨s,w,hs⟩:=aeW Sg
    have h1:=Qk h F hs q4
    rw[F.GL q4 hv]at h1
    exact h1
   by_cases hjk:j<=k2
   ·left
    obtain⟨Z,hZ,hZr⟩:=BD h F hk2 hik (x:=x) (a:=a) (v:=v) (B:=B') (by rw[q6,hv];simp) (fun e he=>((h.bI x e).1 (by rw[hv];simp[he])).2) ha.2 hka (t:=j) (by omega) hjk
    rw[hB]at hZ
    cases Z with
    |nil=>
     simp only[List.nil_append,adA]at hZ
     rw[hZ.1,ha.2];exact .refl
    |cons z Z=>
     simp only[List.cons_append,adA]at hZ
     rw[hZ.1];exact hZr z (adH ..)
   ·rcases uY (d:=d) (i:=k2) (j:=j) (by omega) (by omega) hj with h1|h1
    ·left
     rw[hka]at h1
     have:P.gD x (P.hd a):= .step (ha.2 ▸ .refl) ha.1
     exact this.trans h1
    ·right
     rw[hka]at h1
     exact hlp.trans h1
end
section
variable (h:P.Ok) {L R:Int->Int} {f0 f1:Int} {low:Int->Int} (F:P.fM L R f0 f1 low) {e f:Int} (he:P.E e) (hf:P.E f)
include h F he hf
theorem oy(hu:P.Lp L R (R e) (L f)):∃i j,i<j/\j<P.m/\P.sh i=e/\P.sh j=f:=by
 obtain⟨i,hi,rfl⟩:=j0 h he
 obtain⟨j,hj,rfl⟩:=j0 h hf
 exact⟨i,j,M1 h F hi hj hu,hj,rfl,rfl⟩
theorem M3{i j i' j':Nat}(h1:i<j/\j<P.m/\P.sh i=e/\P.sh j=f)(h2:i'<j'/\j'<P.m/\P.sh i'=f/\P.sh j'=e):False:=by
 have:=yj h (show i<P.m by omega) (show j'<P.m by omega) (h1.2.2.1.trans h2.2.2.2.symm)
 have:=yj h (show j<P.m by omega) (show i'<P.m by omega) (h1.2.2.2.trans h2.2.2.1.symm)
 omega
end
theorem Dl(h:P.Ok){L R:Int->Int}{f0 f1:Int}{low:Int->Int}(F:P.fM L R f0 f1 low){e f:Int}(he:P.E e)(hf:P.E f)(hne:e≠f):
 P.gD (P.hd e) (P.tl f)\/P.gD (P.hd f) (P.tl e)\/P.Lp L R (R e) (L f)\/P.Lp L R (R f) (L e):=by
 obtain⟨i,hi,rfl⟩:=j0 h he
 obtain⟨j,hj,rfl⟩:=j0 h hf
 rcases aew i j with h1|h1|h1
 ·rcases uY h F (d:=j - i) (adg _) h1 hj with h2|h2
  ·exact .inl h2
  ·exact .inr (.inr (.inl h2))
 ·exact absurd (by rw[h1]) hne
 ·rcases uY h F (d:=i - j) (adg _) h1 hi with h2|h2
  ·exact .inr (.inl h2)
  ·exact .inr (.inr (.inr h2))
section
variable (h:P.Ok) {L R:Int->Int} {f0 f1:Int} {low:Int->Int} (F:P.fM L R f0 f1 low) {e f:Int} (he:P.E e) (hf:P.E f)
include h F he hf
theorem mz(h1:P.Lp L R (R e) (L f))(h2:P.Lp L R (R f) (L e)):False:=by
 obtain⟨i,j,a⟩:=oy h F he hf h1
 obtain⟨i',j',b⟩:=oy h F hf he h2
 exact M3 h F he hf a b
end
end Go.Ab
end
section
set_option maxRecDepth 10000
namespace Go.Ab
open Go.Proofs
def w9(g:Gr)(p:Pl)(f:Fr)(x:Int):Fr:=(aC g f x (bE p x)).2
def BF(g:Gr)(p:Pl):Nat->Fr->Prop
 |0,f=>(f.pl.length:Int)=g.n
 |m+1,f=>∃x,au g f x=true/\BF g p m (w9 g p f x)
theorem BG{g:Gr}{p:Pl} :∀ {m:Nat} {f f':Fr},f.row=f'.row->f.pl.Perm f'.pl->BF g p m f->BF g p m f'
 |0,f,f',_,hp,h=>by
  have h:(f.pl.length:Int)=g.n:=h
  show(f'.pl.length:Int)=g.n
  rw[<- hp.length_eq];exact h
 |m+1,f,f',hr,hp,⟨x,h1,h2⟩=>by
  refine⟨x,by rw[<- y8 hr hp];exact h1,BG ?_ ?_ h2⟩
  ·simp only[w9,aC,hr]
  ·exact hp.append_right _
theorem GU{g:Gr}(hc:(bX g).1=0){p:Pl}(hp:bq g p):∀ {m:Nat} {f:Fr},Bx g f->(f.pl.length:Int)+(m+1:Nat)=g.n->BF g p (m+1) f->∀ {x:Int},au g f x=true->BF g p m (w9 g p f x)
 |m,f,hi,hl,⟨y,zC,hcan⟩,x,hR=>by
  have hm:=ah hc
  by_cases hxy:x=y
  ·subst hxy;exact hcan
  have py:=aW hp (aF zC).1 (aF zC).2.1
  have px:=aW hp (aF hR).1 (aF hR).2.1
  have i2:=kr hm hi zC py
  match m,hl,hcan with
  |0,hl,hcan=>
   exfalso
   have h1:=jQ i2.tofL (by show((f.pl++ [y]).length:Int)=g.n;simp;omega) (x:=x) ⟨(aF hR).1,(aF hR).2.1⟩
   have h2:x∈f.pl++ [y]:=h1
   simp[(aF hR).2.2,hxy]at h2
  |m+1,hl,hcan=>
   obtain⟨h4,h5,h6,_⟩:=Dg hc hi hxy hR zC px py
   have h3:=GU hc hp i2 (by show(((f.pl++ [y]).length:Nat):Int)+_=_;simp;omega) hcan h5
   refine⟨y,h4,BG h6.symm ?_ h3⟩
   show(f.pl++ [y]++ [x]).Perm (f.pl++ [x]++ [y])
   rw[adN,adN]
   exact ag8 _ (List.Perm.swap ..)
theorem GV{g:Gr}{p:Pl}(h:aG g p):∀ {d k:Nat},k+d=g.n.toNat->BF g p d (fK g p k)
 |0,k,hk=>by
  have hn:=aB (ah h.1)
  obtain⟨_,dI,_⟩:=bz (ah h.1) h.2.1 (k:=k) (by omega) fun j hj=>h.2.2 j (by omega)
  show((fK g p k).pl.length:Int)=g.n
  rw[dI,adG,aI h.2.1];omega
 |d+1,k,hk=>⟨aq p k,h.2.2 k (by omega),GV h (k:=k+1) (by omega)⟩
def kz(rev:Bool)(l:List It):List It:=if rev=true then l.reverse else l
def ee(g:Gr)(f:Fr)(rev:Bool):Int:=match (kz rev f.row).find? (fun t=>au g f t.2.2) with
 |some t=>t.2.2
 |none=>(gQ g f).headD (-1)
def aY(g:Gr)(p:Pl)(rev:Bool):Nat->Fr
 |0=>⟨[], []⟩
 |k+1=>w9 g p (aY g p rev k) (ee g (aY g p rev k) rev)
def gl(g:Gr)(p:Pl)(rev:Bool):Nat->List Int
 |0=>List.replicate g.n.toNat 0
 |k+1=>(gl g p rev k).set (ee g (aY g p rev k) rev).toNat (k:Int)
theorem sX{g:Gr}{p:Pl}{rev:Bool} :∀ {k:Nat},(gl g p rev k).length=g.n.toNat
 |0=>by simp[gl]
 |k+1=>by rw[gl,adP,sX]
theorem kC{g:Gr}(hm:aM g=true){f:Fr}(hi:fL g f){x:Int} :x∈gQ g f↔au g f x=true:=by
 simp only[gQ,nK,ada,adI,adk]
 constructor
 ·rintro⟨k,⟨h1,h2⟩,rfl⟩
  rw[<- kj hm hi];exact h2
 ·intro h
  obtain⟨h1,h2,_⟩:=aF h
  have e:((x.toNat:Nat):Int)=x:=by omega
  refine⟨x.toNat,⟨by omega, ?_⟩,e⟩
  rw[e,kj hm hi];exact h
theorem BH{g:Gr}(hm:aM g=true){f:Fr}(hi:fL g f)(h:∃x,au g f x=true)(rev:Bool):au g f (ee g f rev)=true:=by
 unfold ee
 cases hf:(kz rev f.row).find? (fun t=>au g f t.2.2) with
 |some t=>
  have h2:=List.find?_some (p:=fun t:It=>au g f t.2.2) hf
  exact h2
 |none=>
  obtain⟨x,hx⟩:=h
  have hx:=(kC hm hi).2 hx
  match hL:gQ g f with
  | []=>rw[hL]at hx;cases hx
  |y::l=>exact(kC hm hi).1 (by rw[hL];simp)
theorem gZ{g:Gr}{p:Pl}(h:aG g p)(rev:Bool):∀ {k:Nat},k<=g.n.toNat->Bx g (aY g p rev k)/\(aY g p rev k).pl.length=k/\BF g p (g.n.toNat - k) (aY g p rev k)/\(aY g p rev k).row.length<=k*(g.es.length+1)
 |0,_=>⟨wR g,rfl,GV h (k:=0) (by omega),by simp[aY]⟩
 |k+1,hk=>by
  have hm:=ah h.1
  have hn:=aB hm
  obtain⟨h1,h2,h3,h4⟩:=gZ h rev (k:=k) (by omega)
  obtain⟨m,hmm⟩:∃m,g.n.toNat - k=m+1:=⟨g.n.toNat - k - 1,by omega⟩
  rw[hmm]at h3
  have hR:=BH hm h1.tofL (by obtain⟨x,hx,_⟩:=h3;exact⟨x,hx⟩) rev
  have hx:=aF hR
  have hp:=aW h.2.1 hx.1 hx.2.1
  have hl:=De (g:=g) (f:=aY g p rev k) (x:=ee g (aY g p rev k) rev) (o:=bE p (ee g (aY g p rev k) rev))
  have Iz:=wS h.2.1 hx.1 hx.2.1
  refine⟨kr hm h1 hR hp,hl.2.trans (by rw[h2]), ?_, ?_⟩
  ·rw[show g.n.toNat - (k+1)=m by omega]
   exact GU h.1 h.2.1 h1 (by omega) h3 hR
  ·show(aC _ _ _ _).2.row.length<=_
   rw[ad6];omega
theorem pW{g:Gr}{p:Pl}(h:aG g p)(rev:Bool){k:Nat}(hk:k<g.n.toNat):au g (aY g p rev k) (ee g (aY g p rev k) rev)=true/\gQ g (aY g p rev k)≠ []:=by
 have hm:=ah h.1
 obtain⟨h1,h2,h3,_⟩:=gZ h rev (k:=k) (by omega)
 obtain⟨m,hmm⟩:∃m,g.n.toNat - k=m+1:=⟨g.n.toNat - k - 1,by omega⟩
 rw[hmm]at h3
 have hR:=BH hm h1.tofL (by obtain⟨x,hx,_⟩:=h3;exact⟨x,hx⟩) rev
 exact⟨hR,fun e=>by
  have:=(kC hm h1.tofL).2 hR
  rw[e]at this;cases this⟩
def iL(g:Gr)(p:Pl)(rev:Bool):List Int:=(List.range g.n.toNat).map fun k=>ee g (aY g p rev k) rev
theorem ET{g:Gr}{p:Pl}(rev:Bool):∀ {k:Nat},(aY g p rev k).pl=(List.range k).map fun j=>ee g (aY g p rev j) rev
 |0=>rfl
 |k+1=>by
  rw[adV,ads, <- ET rev (k:=k)]
  rfl
theorem sY{g:Gr}{p:Pl}(h:aG g p)(rev:Bool):aG g ⟨iL g p rev,p.outs⟩:=by
 have hm:=ah h.1
 have hn:=aB hm
 obtain⟨h1,h2,_,_⟩:=gZ h rev (k:=g.n.toNat) (adg _)
 have dI:(aY g p rev g.n.toNat).pl=iL g p rev:=ET rev
 have hQ:bq g ⟨iL g p rev,p.outs⟩:=by
  refine⟨h.2.1.1, ?_,h.2.1.2.2⟩
  show(iL g p rev).Perm (dD g.n.toNat)
  rw[<- dI]
  refine(wQ (ms:=(aY g p rev g.n.toNat).pl) (os:=dD g.n.toNat) h1.pl (fun x hx=>cE.2 (by have:=h1.lg x hx;omega)) (by rw[gY,h2])).symm
 have qy:∀k,k<g.n.toNat->aq ⟨iL g p rev,p.outs⟩ k=ee g (aY g p rev k) rev:=fun k hk=>by
  simp[aq,iL,aas,adp hk]
 have hfk:∀k,k<=g.n.toNat->fK g ⟨iL g p rev,p.outs⟩ k=aY g p rev k:=by
  intro k
  induction k with
  |zero=>intro _;rfl
  |succ k ih=>
   intro hk
   show(aC g (fK g ⟨iL g p rev,p.outs⟩ k) _ _).2=_
   rw[qy k (by omega),ih (by omega)]
   rfl
 refine⟨h.1,hQ,fun k hk=> ?_⟩
 unfold xP
 rw[hfk k (by omega),qy k hk]
 exact(pW h rev hk).1
def mO(f:Fr):Fr:=⟨f.row.reverse,f.pl⟩
def cZ(p:Pl):Pl:=⟨p.ord,p.outs.map List.reverse⟩
theorem M4{f:Fr} :mO (mO f)=f:=by simp[mO]
theorem EU{g:Gr}{f:Fr}(h:fL g f):fL g (mO f):=⟨fun t ht=>h.it t (aeX.1 ht),h.pl,h.lg⟩
theorem gv.rev{x:Int}{l:List It}(h:gv x l):gv x l.reverse:=fun t ht=>h t (aeX.1 ht)
theorem Mid.rev{x:Int}{X:List It}(h:Mid x X):Mid x X.reverse:=
 ⟨by obtain⟨X',q,h1,h2⟩:=h.GL;exact⟨q,X'.reverse,by simp[h1],h2⟩,by obtain⟨p,X',h1,h2⟩:=h.fst;exact⟨X'.reverse,p,by simp[h1],h2⟩,fun t ht=>h.al t (aeX.1 ht)⟩
theorem BI{g:Gr}(hm:aM g=true){f:Fr}(hi:fL g f){x:Int}(hR:au g f x=true):au g (mO f) x=true:=by
 obtain⟨h0,h1,h2⟩:=aF hR
 by_cases hn:aV g x=0
 ·unfold au
  rw[ac7 (by rintro(h|h|h);omega;omega;exact h2 h),ac9 hn]
 ·obtain⟨A,X,C,hr,hA,hC,hX,hc⟩:=bD hm hi hR hn
  exact mu hm (EU hi) h0 h1 h2 (A:=C.reverse) (X:=X.reverse) (C:=A.reverse) (by simp[mO,hr]) hC.rev hA.rev hX.rev (by rw[List.countP_reverse,hc])
theorem yl{g:Gr}(hm:aM g=true){f:Fr}(hi:fL g f)(x:Int):au g (mO f) x=au g f x:=by
 rw[ad0]
 refine⟨fun h=> ?_,BI hm hi⟩
 have:=BI hm (EU hi) h
 rwa [M4]at this
theorem Dm{g:Gr}{x:Int}{o:List Int} :aQ g x o.reverse=(aQ g x o).reverse:=by
 unfold aQ
 by_cases h:o= []
 ·rw[ac9 h,ac9 (by rw[h];rfl)];rfl
 ·rw[ac7 h,ac7 (by simpa using h),List.map_reverse]
theorem BJ{g:Gr}(hc:(bX g).1=0){f:Fr}(hi:Bx g f){x:Int}(hR:au g f x=true)(o:List Int):
 aC g (mO f) x o.reverse=(((aC g f x o).1.1.reverse,0),mO (aC g f x o).2):=by
 have hm:=ah hc
 obtain⟨h0,h1,h2⟩:=aF hR
 by_cases hn:aV g x=0
 ·have hrow:f.row= []:=by
   rcases hi.src with ⟨_,h⟩|⟨s,hs,hz⟩
   ·exact h
   ·have:=gB hc (x:=s) (y:=x) (hi.lg s hs) ⟨h0,h1⟩ hz hn
    exact absurd (this ▸ hs) h2
  have hno:gv x f.row:=by rw[hrow];intro t ht;cases ht
  have aa3:gv x (mO f).row:=hno.rev
  rw[cH _ hno,cH _ aa3]
  simp[mO,hrow,Dm]
 ·obtain⟨A,X,C,hr,hA,hC,hX,_⟩:=bD hm hi.tofL hR hn
  rw[dR o hr hA hC hX,dR (f:=mO f) (A:=C.reverse) (X:=X.reverse) (C:=A.reverse) o.reverse (by simp[mO,hr]) hC.rev hA.rev hX.rev]
  simp[mO,Dm]
theorem pY{p:Pl}{x:Int} :bE (cZ p) x=(bE p x).reverse:=by
 unfold bE cZ
 simp only[aas,adm]
 cases p.outs[x.toNat]? <;>simp
theorem Ji{g:Gr}{p:Pl}(h:bq g p):bq g (cZ p):=by
 refine⟨by simpa[cZ]using h.1,h.2.1,fun x hx=> ?_⟩
 have e:(cZ p).outs.getD x []=(p.outs.getD x []).reverse:=by
  have:=pY (p:=p) (x:=(x:Int))
  unfold bE at this
  simpa using this
 rw[e]
 exact(List.reverse_perm _).trans (h.2.2 x hx)
theorem Jj{g:Gr}{p:Pl}(h:aG g p):∀ {k:Nat},k<=g.n.toNat->fK g (cZ p) k=mO (fK g p k)/\∀j,j<k->xP g (cZ p) j=true
 |0,_=>⟨rfl,fun j hj=>by omega⟩
 |k+1,hk=>by
  have hm:=ah h.1
  obtain⟨h1,h2⟩:=Jj h (k:=k) (by omega)
  obtain⟨hi,_,_⟩:=bz hm h.2.1 (k:=k) (by omega) fun j hj=>h.2.2 j (by omega)
  have hR:au g (fK g p k) (aq p k)=true:=h.2.2 k (by omega)
  have ho:aq (cZ p) k=aq p k:=rfl
  have hok:xP g (cZ p) k=true:=by
   show au g (fK g (cZ p) k) (aq (cZ p) k)=true
   rw[h1,ho,yl hm hi.tofL,hR]
  refine⟨?_,fun j hj=> ?_⟩
  ·show(aC g (fK g (cZ p) k) (aq (cZ p) k) (bE (cZ p) (aq (cZ p) k))).2=_
   rw[h1,ho,pY,BJ h.1 hi hR]
   rfl
  ·by_cases e:j=k
   ·subst e;exact hok
   ·exact h2 j (by omega)
theorem xd{g:Gr}{p:Pl}(h:aG g p):aG g (cZ p):=
 ⟨h.1,Ji h.2.1,fun k hk=>(Jj h (k:=k+1) (by omega)).2 k (by omega)⟩
theorem Ql{g:Gr}{p:Pl}(h:aG g p){k:Nat}(hk:k<g.n.toNat):cB g (cZ p) k=(cB g p k).reverse:=by
 have hm:=ah h.1
 obtain⟨hi,_,_⟩:=bz hm h.2.1 (k:=k) (by omega) fun j hj=>h.2.2 j (by omega)
 have ho:aq (cZ p) k=aq p k:=rfl
 show(aC g (fK g (cZ p) k) (aq (cZ p) k) (bE (cZ p) (aq (cZ p) k))).1.1=_
 rw[(Jj h (by omega)).1,ho,pY,BJ h.1 hi (h.2.2 k hk)]
 rfl
theorem GW{g:Gr}(hm:aM g=true){f:Fr}(hi:fL g f)(rev:Bool):ee g (mO f) (!rev)=ee g f rev:=by
 unfold ee
 have e1:kz (!rev) (mO f).row=kz rev f.row:=by cases rev<;>simp[kz,mO]
 have e2:(fun t:It=>au g (mO f) t.2.2)=fun t:It=>au g f t.2.2:=by funext t;exact yl hm hi _
 have e3:gQ g (mO f)=gQ g f:=by
  unfold gQ nK
  have:(fun x:Nat=>gh g (mO f) (x:Int))=fun x:Nat=>gh g f (x:Int):=by
   funext x;rw[kj hm (EU hi),kj hm hi,yl hm hi]
  rw[this]
 rw[e1,e2,e3]
theorem GX{g:Gr}{p:Pl}(h:aG g p)(rev:Bool):∀ {k:Nat},k<=g.n.toNat->aY g (cZ p) (!rev) k=mO (aY g p rev k)
 |0,_=>rfl
 |k+1,hk=>by
  have hm:=ah h.1
  obtain⟨hi,_,_,_⟩:=gZ h rev (k:=k) (by omega)
  have ih:=GX h rev (k:=k) (by omega)
  show(aC g (aY g (cZ p) (!rev) k) (ee g (aY g (cZ p) (!rev) k) (!rev)) (bE (cZ p) _)).2=_
  rw[ih,GW hm hi.tofL,pY,BJ h.1 hi (pW h rev (by omega)).1]
  rfl
theorem BK{g:Gr}{p:Pl}(h:aG g p)(rev:Bool):∀ {k:Nat},k<=g.n.toNat->gl g (cZ p) (!rev) k=gl g p rev k
 |0,_=>rfl
 |k+1,hk=>by
  have hm:=ah h.1
  obtain⟨hi,_,_,_⟩:=gZ h rev (k:=k) (by omega)
  show(gl g (cZ p) (!rev) k).set (ee g (aY g (cZ p) (!rev) k) (!rev)).toNat (k:Int)=_
  rw[BK h rev (by omega),GX h rev (by omega),GW hm hi.tofL]
  rfl
theorem SV{g:Gr}{p:Pl}{rev:Bool}{k:Nat}(hk:k<g.n.toNat):(iL g p rev).getD k 0=ee g (aY g p rev k) rev:=by
 simp[iL,aas,adp hk]
theorem GY{g:Gr}{p:Pl}{rev:Bool} :(iL g p rev).length=g.n.toNat:=by simp[iL]
theorem M5{g:Gr}{p:Pl}(h:aG g p)(rev:Bool):(iL g p rev).Perm (dD g.n.toNat):=(sY h rev).2.1.2.1
theorem KT{g:Gr}{p:Pl}(h:aG g p)(rev:Bool):∀ {k:Nat},k<=g.n.toNat->∀j,j<k->(gl g p rev k).getD ((iL g p rev).getD j 0).toNat 0=(j:Int)
 |0,_,j,hj=>by omega
 |k+1,hk,j,hj=>by
  have hQ:=(sY h rev).2.1
  have Ao:=aD hQ (k:=k) (by omega)
  have hj1:=aD hQ (k:=j) (by omega)
  have ek:aq ⟨iL g p rev,p.outs⟩ k=(iL g p rev).getD k 0:=rfl
  have ej:aq ⟨iL g p rev,p.outs⟩ j=(iL g p rev).getD j 0:=rfl
  rw[gl, <- SV (by omega),sS (by rw[sX];omega)]
  by_cases e:j=k
  ·subst e;rw[ac9 rfl]
  ·rw[ac7,KT h rev (by omega) j (by omega)]
   intro e2
   exact e (dS hQ (by omega) (by omega) (by omega))
def loose(l:List It):List Int:=(l.filter fun t=>decide (t.1<0)).map fun t=>t.2.1
theorem bY{a b:List It} :loose (a++b)=loose a++loose b:=by simp[loose]
def dL(g:Gr)(p:Pl):Nat->List Edge
 |0=> []
 |k+1=>dL g p k++(loose (cB g p k)).map fun v=>(v,aq p k)
def bu(g:Gr)(p:Pl):List It:=(fK g p g.n.toNat).row
def newL(g:Gr)(p:Pl):List Edge:=if 1<(bu g p).length then(loose (bu g p)).map fun v=>(v,g.n) else []
def bg(g:Gr)(p:Pl):List Edge:=dL g p g.n.toNat++newL g p
def aj(g:Gr)(p:Pl):Gr:=⟨if 1<(bu g p).length then g.n+1 else g.n,g.es++bg g p⟩
def eM:Nat->List Edge->List (List Int)->List (List Int)
 |_, [],O=>O
 |m,e::N,O=>eM (m+1) N (O.set e.1.toNat [(m:Int)])
def bK(g:Gr)(p:Pl):Pl:=⟨if 1<(bu g p).length then p.ord++ [g.n] else p.ord,eM g.es.length (bg g p) (if 1<(bu g p).length then p.outs++ [[]] else p.outs)⟩
def Jk(g:Gr)(p:Pl)(x:Gr):List (List Int):=(List.range x.n.toNat).map fun v=>if 0<(p.outs.getD v []).length then p.outs.getD v [] else b8 x (v:Int)
theorem kD:∀ {m:Nat} {N:List Edge} {O:List (List Int)},(eM m N O).length=O.length
 |_, [],_=>rfl
 |m,e::N,O=>by rw[eM,kD,adP]
theorem xe:∀ {m:Nat} {N M:List Edge} {O:List (List Int)},eM m (N++M) O=eM (m+N.length) M (eM m N O)
 |_, [],_,_=>rfl
 |m,e::N,M,O=>by
  rw[List.cons_append,eM,eM,xe,List.length_cons]
  congr 1
  omega
theorem Dn:∀ {m:Nat} {N:List Edge} {O:List (List Int)},(∀e∈N,e.1.toNat<O.length)->eM m N (O++ [[]])=eM m N O++ [[]]
 |_, [],_,_=>rfl
 |m,e::N,O,h=>by
  rw[eM,eM,List.set_append_left _ _ (h e (adH ..))]
  exact Dn fun e' he=>by rw[adP];exact h e' (adz _ he)
theorem BL{v:Nat} :∀ {m:Nat} {N:List Edge} {O:List (List Int)},(∀e∈N,e.1.toNat<O.length)->(∀e∈N,e.1.toNat≠v)->(eM m N O).getD v []=O.getD v []
 |_, [],_,_,_=>rfl
 |m,e::N,O,h,hv=>by
  rw[eM,BL (fun e' he=>by rw[adP];exact h e' (adz _ he)) fun e' he=>hv e' (adz _ he),sS (h e (adH ..)),ac7 (Ne.symm (hv e (adH ..)))]
theorem KU:∀ {m:Nat} {N:List Edge} {O:List (List Int)},(∀e∈N,0<=e.1/\e.1.toNat<O.length)->(N.map (·.1)).Nodup->∀ {j:Nat},j<N.length->(eM m N O).getD (N.getD j (0,0)).1.toNat []= [((m+j:Nat):Int)]
 |m,e::N,O,h,hd,0,_=>by
  rw[adC,ad5]at hd
  rw[eM,afl,BL (fun e' he=>by rw[adP];exact(h e' (adz _ he)).2) (fun e' he h2=>hd.1 ?_),sS (h e (adH ..)).2,ac9 rfl]
  ·rfl
  ·have h3:=(h e (adH ..)).1
   have h4:=(h e' (adz _ he)).1
   exact ada.2 ⟨e',he,by omega⟩
 |m,e::N,O,h,hd,j+1,hj=>by
  rw[adC,ad5]at hd
  rw[eM,agI,KU (fun e' he=>by rw[adP];exact h e' (adz _ he)) hd.2 (by simpa using hj)]
  congr 2
  omega
theorem ym{f:Edge->Int}{es N:List Edge}{x:Int} :aJ f (es++N) (es++N).length x=aJ f es es.length x++(aJ f N N.length x).map (· +(es.length:Int)):=by
 unfold aJ
 rw[adi,List.range_add,ad8,ads,List.filter_map,aeE,aeE]
 congr 1
 ·congr 1
  refine agC fun i hi=> ?_
  have:=adk.1 hi
  rw[aas,adx this, <- List.getD_eq_getElem?_getD]
 ·have e1:(List.range N.length).filter ((fun i=>decide (f ((es++N).getD i (0,0))=x)) ∘ fun x=>es.length+x)=(List.range N.length).filter fun i=>decide (f (N.getD i (0,0))=x):=by
   refine agC fun i hi=> ?_
   simp only[Function.comp]
   rw[aas,adw (by omega),af2, <- List.getD_eq_getElem?_getD]
  rw[e1]
  refine ae5 fun i _=> ?_
  simp only[Function.comp]
  show((es.length+i:Nat):Int)=(i:Int)+(es.length:Int)
  omega
theorem filter_one{j:Nat} :∀ {n:Nat},j<n->(List.range n).filter (fun i=>decide (i=j))= [j]
 |n+1,h=>by
  rw[adV,ad8]
  by_cases e:j=n
  ·subst e
   have:(List.range j).filter (fun i=>decide (i=j))= []:=aez.2 fun i hi=>by
    have:=adk.1 hi
    simp;omega
   rw[this];simp
  ·rw[filter_one (by omega)]
   have: [n].filter (fun i=>decide (i=j))= []:=aez.2 fun i hi=>by
    rw[adu]at hi
    simp;omega
   rw[this];simp
theorem GZ{N:List Edge}(hd:(N.map (·.1)).Nodup){j:Nat}(hj:j<N.length):aJ (·.1) N N.length (N.getD j (0,0)).1= [(j:Int)]:=by
 unfold aJ
 have:(List.range N.length).filter (fun i=>decide ((N.getD i (0,0)).1=(N.getD j (0,0)).1))=(List.range N.length).filter (fun i=>decide (i=j)):=by
  refine agC fun i hi=> ?_
  have hi:=adk.1 hi
  rw[decide_eq_decide]
  constructor
  ·intro h
   have e1:∀k,k<N.length->(N.map (·.1)).getD k 0=(N.getD k (0,0)).1:=fun k hk=>by
    simp[aas,acF hk]
   refine l9 hd (by simpa using hi) (by simpa using hj) ?_
   rw[e1 i hi,e1 j hj,h]
  ·rintro rfl;rfl
 rw[this,filter_one hj]
 rfl
theorem lD{f:Edge->Int}{N:List Edge}{v:Int}(h:∀e∈N,f e≠v):aJ f N N.length v= []:=by
 unfold aJ
 rw[aeF,aez]
 intro i hi
 have:=h _ (az (d:=(0,0)) (adk.1 hi))
 simpa using this
theorem G0{g:Gr}{x:Int}{o:List Int}(ho:∀i∈o,i∈b8 g x):loose (aQ g x o)=if o= [] then [x] else []:=by
 unfold aQ
 split
 ·rfl
 ·simp only[loose,aeF,aez,ada]
  rintro t ⟨i,hi,rfl⟩
  obtain⟨k,rfl,_⟩:=ko (ho i hi)
  simp[gM]
theorem lE{g:Gr}(hm:aM g=true){p:Pl}(h:bq g p):∀ {k:Nat},k<=g.n.toNat->(∀j,j<k->xP g p j=true)->
 ((dL g p k).map (·.1)++loose (fK g p k).row).Nodup/\∀v∈(dL g p k).map (·.1)++loose (fK g p k).row,v∈(fK g p k).pl/\bE p v= []
 |0,_,_=>by simp[dL,fK,loose]
 |k+1,hk,hok=>by
  obtain⟨h1,h2⟩:=lE hm h (k:=k) (by omega) fun j hj=>hok j (by omega)
  obtain⟨hi,dI,_⟩:=bz hm h (k:=k) (by omega) fun j hj=>hok j (by omega)
  have hR:au g (fK g p k) (aq p k)=true:=hok k (by omega)
  obtain⟨x0,x1⟩:=aD h (k:=k) (by omega)
  have hx:=(aF hR).2.2
  have KN:=aW h x0 x1
  obtain⟨A,X,C,hr,_,_,_,hs⟩:=iJ hm hi.tofL hR
  have Ya:cB g p k=X:=by unfold cB;rw[hs]
  have hrow:(fK g p (k+1)).row=A++aQ g (aq p k) (bE p (aq p k))++C:=by show(aC _ _ _ _).2.row=_;rw[hs]
  have tD:(fK g p (k+1)).pl=(fK g p k).pl++ [aq p k]:=rfl
  have hla:=G0 (g:=g) (x:=aq p k) (o:=bE p (aq p k)) fun i hi=>KN.mem_iff.1 hi
  have e1:(dL g p (k+1)).map (·.1)=(dL g p k).map (·.1)++loose X:=by
   rw[dL,Ya,ads,aeE]
   congr 1
   simp[Function.comp_def]
  have e2:loose (fK g p (k+1)).row=loose A++(if bE p (aq p k)= [] then [aq p k] else [])++loose C:=by rw[hrow,bY,bY,hla]
  have e3:loose (fK g p k).row=loose A++loose X++loose C:=by rw[hr,bY,bY]
  rw[e3]at h1 h2
  have hP:((dL g p (k+1)).map (·.1)++loose (fK g p (k+1)).row).Perm (((dL g p k).map (·.1)++(loose A++loose X++loose C))++(if bE p (aq p k)= [] then [aq p k] else [])):=by
   rw[e1,e2,List.perm_iff_count]
   intro a
   simp only[List.count_append]
   omega
  constructor
  ·rw[hP.nodup_iff,adt]
   refine⟨h1,by split<;>simp,fun a ha b hb e=>hx ?_⟩
   split at hb
   ·rw[adu]at hb
    rw[<- hb, <- e]
    exact(h2 a ha).1
   ·cases hb
  ·intro v hv
   rw[hP.mem_iff,ac8]at hv
   rw[tD,ac8,adu]
   rcases hv with hv|hv
   ·exact⟨.inl (h2 v hv).1,(h2 v hv).2⟩
   ·split at hv
    ·rw[adu]at hv
     subst hv
     exact⟨.inr rfl,by assumption⟩
    ·cases hv
theorem iB{g:Gr}{p:Pl}(hr:aG g p):((bg g p).map (·.1)).Nodup/\∀e∈bg g p,(0<=e.1/\e.1<g.n)/\bE p e.1= []:=by
 obtain⟨hc,h,hok⟩:=hr
 have hm:=ah hc
 obtain⟨h1,h2⟩:=lE hm h (k:=g.n.toNat) (adg _) hok
 obtain⟨hi,_⟩:=bz hm h (k:=g.n.toNat) (adg _) hok
 have e1:(bg g p).map (·.1)=(dL g p g.n.toNat).map (·.1)++if 1<(bu g p).length then loose (bu g p) else []:=by
  rw[bg,newL,ads]
  congr 1
  split
  ·rw[aeE];simp[Function.comp_def]
  ·rfl
 have hsub:∀v∈(bg g p).map (·.1),v∈(dL g p g.n.toNat).map (·.1)++loose (bu g p):=by
  intro v hv
  rw[e1,ac8]at hv
  rw[ac8]
  rcases hv with hv|hv
  ·exact .inl hv
  ·split at hv
   ·exact .inr hv
   ·cases hv
 constructor
 ·rw[e1]
  split
  ·exact h1
  ·rw[ad4]
   exact(adt.1 h1).1
 ·intro e he
  have:=h2 e.1 (hsub _ (ada.2 ⟨e,he,rfl⟩))
  exact⟨hi.lg _ this.1,this.2⟩
theorem mA{g:Gr}{p:Pl}(h:bq g p){v:Int}(h0:0<=v)(h1:v<g.n):b8 g v= []↔bE p v= []:=by
 have hp:=aW h h0 h1
 constructor
 ·intro e;rw[e]at hp;exact hp.eq_nil
 ·intro e;rw[e]at hp;exact hp.symm.eq_nil
theorem BM{g:Gr}{p:Pl}(hr:aG g p):(bK g p).outs=Jk g p (aj g p):=by
 obtain⟨vt,Jl⟩:=iB hr
 have h:=hr.2.1
 have hm:=ah hr.1
 have hn:=aB hm
 generalize hO:(if 1<(bu g p).length then p.outs++ [[]] else p.outs)=O
 have Zg:O.length=(aj g p).n.toNat:=by
  rw[<- hO]
  unfold aj
  split
  ·rw[adi,h.1];simp;omega
  ·rw[h.1]
 have hOg:∀v,O.getD v []=p.outs.getD v []:=by
  intro v
  rw[<- hO]
  split
  ·rw[aas,aas,List.getElem?_append]
   split
   ·rfl
   ·rename_i hv
    rw[ado (by omega:p.outs.length<=v)]
    cases hvv:v - p.outs.length<;>simp
  ·rfl
 have hOn:g.n.toNat<=O.length:=by rw[<- hO];split<;>simp[h.1]
 have uZ:∀e∈bg g p,0<=e.1/\e.1.toNat<O.length:=fun e he=>by
  have:=(Jl e he).1;omega
 have hnA:∀e∈bg g p,e.1.toNat<O.length:=fun e he=>(uZ e he).2
 show eM g.es.length (bg g p) (if 1<(bu g p).length then p.outs++ [[]] else p.outs)=_
 rw[hO]
 refine agm (by rw[kD,Zg];simp[Jk]) fun v Ky O0=> ?_
 rw[kD]at Ky
 have hL:(eM g.es.length (bg g p) O).getD v []=(eM g.es.length (bg g p) O)[v]'(by rw[kD];exact Ky):=by
  rw[aas,acF (by rw[kD];exact Ky)];rfl
 rw[<- hL]
 have hD:(Jk g p (aj g p))[v]=if 0<(p.outs.getD v []).length then p.outs.getD v [] else b8 (aj g p) (v:Int):=by simp[Jk]
 rw[hD]
 have hlv:bE p (v:Int)=p.outs.getD v []:=by unfold bE;rw[Int.toNat_natCast]
 have hout:b8 (aj g p) (v:Int)=b8 g (v:Int)++(aJ (·.1) (bg g p) (bg g p).length (v:Int)).map (· +(g.es.length:Int)):=ym
 by_cases hin:∃j,j<(bg g p).length/\((bg g p).getD j (0,0)).1=v
 ·obtain⟨j,hj,e⟩:=hin
  have hmem:=az (d:=(0,0)) hj
  obtain⟨⟨q0,q1⟩,q2⟩:=Jl _ hmem
  rw[e]at q0 q1 q2
  rw[hlv]at q2
  rw[q2,ac7 (by simp),hout,(mA h q0 q1).2 (by rw[hlv];exact q2), <- e,GZ vt hj]
  have:=KU (m:=g.es.length) uZ vt hj
  rw[e,Int.toNat_natCast]at this
  rw[this]
  simp
  omega
 ·have hno:∀e∈bg g p,e.1≠(v:Int):=fun e he h2=>hin (by
   obtain⟨j,hj,e1⟩:=adr.1 he
   exact⟨j,hj,by rw[aas,acF hj,Option.getD_some,e1,h2]⟩)
  rw[BL hnA (fun e he h2=>hno e he (by have:=(uZ e he).1;omega)),hOg,hout,lD hno]
  simp only[adO,ad4]
  split
  ·rfl
  ·rename_i hl
   have hl:p.outs.getD v []= []:=adE (by omega)
   rw[hl]
   by_cases WN:v<g.n.toNat
   ·exact((mA h (v:=(v:Int)) (by omega) (by omega)).2 (by rw[hlv];exact hl)).symm
   ·symm
    refine lD fun e he h2=> ?_
    obtain⟨i,hi,rfl⟩:=adr.1 he
    have:=(cU hm hi).1
    rw[aas,acF hi,Option.getD_some]at this
    omega
abbrev Act:=Int × List Int
def rA(a:Act):List D:= [.sc (.int .i64 a.1),sI a.2]
def sA(as':List Act):D:= .sl 2 (as'.map rA)
attribute [go_sem] sA
def Yb(g:Gr)(VG:List Act):Nat->Fr
 |0=>⟨[], []⟩
 |k+1=>(jq g (Yb g VG k) (VG.getD k (0, [])).1 (VG.getD k (0, [])).2).2
theorem Yc{g:Gr}{f:Fr}(hi:fL g f):(f.pl.length:Int)<=g.n\/f.pl= []:=by
 by_cases h:f.pl= []
 ·exact .inr h
 ·left
  obtain⟨y,hy⟩:=agR _ h
  have:=hi.lg y hy
  have h3:=jP hi.pl (m:=(List.range g.n.toNat).map Int.ofNat) (fun y hy=>by
   rw[ada]
   have:=hi.lg y hy
   exact⟨y.toNat,adk.2 (by omega),by simp;omega⟩)
  simp at h3
  omega
theorem y9(g:Gr)(hm:aM g=true)(f:Fr)(hi:Bx g f)(x:Int)(outs:List Int)(hr:f.row.length<=300000)(hp:f.pl.length<=100000)(ho:outs.length<=17592186043904):
 Spec Tryz.prog 89 (Args [.ptr 10000 0,eN x, .d (sI outs)]) (wN g f) (.tup [.d (sT (jq g f x outs).1.1),eN (jq g f x outs).1.2]) (EM g (jq g f x outs).2):=by
 rw[<- P9 hm hi.tofL]
 exact Jc g hm f x outs hr hp ho
end Go.Ab
end
section
set_option maxHeartbeats 8000000
set_option maxRecDepth 10000
namespace Go.Ab
attribute [local congr] ACall.congr gd.congr Ny.congr vcOps.congr
open Go.Proofs
def ePl(p:Pl):AV:= .agg [.d (sI p.ord), .d (.sl 1 (vI p.outs))]
attribute [go_sem] ePl
structure uc (p:Pl):Prop where
 ord:p.ord.length<=17592186043904
 outs:p.outs.length<=9223372036854775807
 each:∀l∈p.outs,l.length<=17592186043904
theorem Qm(g:Gr)(hm:aM g=true)(p:Pl)(hp:uc p)(res:Bool)(hr:res=true↔bq g p):Spec Tryz.prog 88 (Args [.d (vw g),ePl p]) [] (eB res) []:=by
 rw[<- SO hm]at hr
 have hn:=aB hm
 have ho:=hp.ord
 have YX:=hp.outs
 by_cases h1:p.outs.length=g.n.toNat/\p.ord.length=g.n.toNat
 rotate_left
 ·have hres:res=false:=by
   rw[<- Bool.not_eq_true,hr]
   rintro⟨h2,h3,_⟩
   exact h1 ⟨h2,h3⟩
  subst hres
  by_cases h2:(p.outs.length:Int)=g.n
  ·have hb1:decide ((p.outs.length:Int)=g.n)=true:=ac6 h2
   have hb2:decide ((p.ord.length:Int)=g.n)=false:=ac5 fun h3=>h1 ⟨by omega,by omega⟩
   (refine T.h [] [] [.t 4] Tryz.func88 rfl rfl (by kernel_rfl) fun X hX hP hC aA bB=> ?_)
   repeat' (first|refine Rn.p ?_|((first|refine Rs.p ?_|with_reducible intro K hK|(refine hK _ ?_;clear hK K));try simp only[go_sem,simprocAttr,cm,hb1,hb2])|with_reducible (refine oD (by kernel_rfl) ?_))
  ·have hb1:decide ((p.outs.length:Int)=g.n)=false:=ac5 h2
   (refine T.h [] [] [.t 4] Tryz.func88 rfl rfl (by kernel_rfl) fun X hX hP hC aA bB=> ?_)
   repeat' (first|refine Rn.p ?_|((first|refine Rs.p ?_|with_reducible intro K hK|(refine hK _ ?_;clear hK K));try simp only[go_sem,simprocAttr,cm,hb1])|with_reducible (refine oD (by kernel_rfl) ?_))
 have hb1:decide ((p.outs.length:Int)=g.n)=true:=ac6 (by omega)
 have hb2:decide ((p.ord.length:Int)=g.n)=true:=ac6 (by omega)
 have CR:=iH p.ord
 (refine T.h [] [] [.t 4] Tryz.func88 rfl rfl (by kernel_rfl) fun X hX hP hC aA bB=> ?_)
 repeat' (first|refine Rn.p ?_|((first|refine Rs.p ?_|with_reducible intro K hK|(refine hK _ ?_;clear hK K)|(refine aS [(10000,31)] (kg p.ord) ?_ ?_;(focus(simp[go_sem,simprocAttr,cm,hb1,hb2];done)))|(refine bw [(10000,31)] (jo p.ord ho) ?_ ?_;(focus(simp[go_sem,simprocAttr,cm,hb1,hb2];done))));try simp only[go_sem,simprocAttr,cm,hb1,hb2])|with_reducible (refine oD (by kernel_rfl) ?_))
 clear hb1 hb2
 refine ag (fun k:Nat=>k<=(lu p.ord).length/\∀i:Nat,i<k->(lu p.ord).getD i 0=i) (fun k=>⟨[(0, .d (vw g)),(3, .ptr 3 0),(32, .d (sI (lu p.ord))),(33,eN (lu p.ord).length),(34,eN k)], [(3, .box [.d (sI p.ord), .d (.sl 1 (vI p.outs))])]⟩) (fun k=>(lu p.ord).length - k) 0 (by simp) ?_ ?_
 ·(refine Le.of ?_ ?_<;>simp[go_sem,simprocAttr,cm])
 rintro k ⟨hk,hg⟩
 rcases adj k (lu p.ord).length with hlt|hge
 ·have hb:decide ((k:Int)<((lu p.ord).length:Int))=true:=ac6 (by omega)
  by_cases he:(lu p.ord).getD k 0=k
  ·have hb2:decide ((lu p.ord).getD k 0=(k:Int))=true:=ac6 he
   repeat' (first|refine Rn.p ?_|((first|refine Rs.p ?_|with_reducible intro K hK|(refine hK _ ?_;clear hK K));try simp only[go_sem,simprocAttr,cm,hb,hb2])|with_reducible (apply And.intro)|omega)
   refine⟨k+1,⟨by omega,fun i hi=> ?_⟩, ?_,by omega⟩
   ·by_cases hik:i=k
    ·subst hik;exact he
    ·exact hg i (by omega)
   ·(refine Le.of ?_ ?_<;>simp[go_sem,simprocAttr,cm,hb,hb2])
  ·have hb2:decide ((lu p.ord).getD k 0=(k:Int))=false:=ac5 he
   have hres:res=false:=by
    rw[<- Bool.not_eq_true,hr]
    rintro⟨_,_,h3,_⟩
    exact he (h3 k hlt)
   subst hres
   repeat' (first|refine Rn.p ?_|((first|refine Rs.p ?_|with_reducible intro K hK|(refine hK _ ?_;clear hK K));try simp only[go_sem,simprocAttr,cm,hb,hb2])|with_reducible (apply And.intro)|omega)
 have hb:decide ((k:Int)<((lu p.ord).length:Int))=false:=ac5 (by omega)
 repeat' (first|refine Rn.p ?_|((first|refine Rs.p ?_|with_reducible intro K hK|(refine hK _ ?_;clear hK K));try simp only[go_sem,simprocAttr,cm,hb]))
 obtain rfl:k=(lu p.ord).length:=by omega
 clear hb hk
 refine ag (fun x:Nat=>x<=p.outs.length/\∀i:Nat,i<x->lu (p.outs.getD i [])=bQ (·.1) g i) (fun x=>⟨[(0, .d (vw g)),(44, .d (.sl 1 (vI p.outs))),(45,eN p.outs.length),(46,eN x)], []⟩) (fun x=>p.outs.length - x) 0 (by simp) ?_ ?_
 ·refine Le.of ?_ ?_<;>simp[go_sem,simprocAttr,cm]
 rintro x ⟨hx,Qn⟩
 rcases adj x p.outs.length with hxl|MH
 ·have hb:decide ((x:Int)<(p.outs.length:Int))=true:=ac6 (by omega)
  have hv:=jr hxl
  have hl:=hp.each _ (az (d:= []) hxl)
  have hn2:∀h:lu (p.outs.getD x [])=bQ (·.1) g x,∀i:Nat,i<x+1->lu (p.outs.getD i [])=bQ (·.1) g i:=fun h i hi=>by
   by_cases hix:i=x
   ·subst hix;exact h
   ·exact Qn i (by omega)
  have tQ:¬lu (p.outs.getD x [])=bQ (·.1) g x->res=false:=fun h=>by
   rw[<- Bool.not_eq_true,hr]
   rintro⟨_,_,_,h4⟩
   exact h (h4 x hxl)
  generalize p.outs.getD x []=l at hv hl hn2 tQ
  have acL:=iH l
  by_cases he:lu l=bQ (·.1) g x
  ·have hb2:decide (lu l=bQ (·.1) g (x:Int))=true:=ac6 he
   repeat' (first|refine Rn.p ?_|((first|refine Rs.p ?_|with_reducible intro K hK|(refine hK _ ?_;clear hK K)|(refine aS [(10000,52)] (kg l) ?_ ?_;(focus(simp[go_sem,simprocAttr,hb,hv,hb2];done)))|(refine bw [(10000,52)] (jo l hl) ?_ ?_;(focus(simp[go_sem,simprocAttr,hb,hv,hb2];done)))|refine aa (sM g hm (x:Int)) rfl ?_|refine aa (ki (lu l) (bQ (·.1) g x) (by omega)) rfl ?_);try simp only[go_sem,simprocAttr,hb,hv,hb2])|with_reducible (apply And.intro)|omega)
   refine⟨x+1,⟨by omega,hn2 he⟩, ?_,by omega⟩
   (refine Le.of ?_ ?_<;>simp[go_sem,simprocAttr,hb,hv,hb2])
  ·have hb2:decide (lu l=bQ (·.1) g (x:Int))=false:=ac5 he
   have hres:=tQ he
   subst hres
   repeat' (first|refine Rn.p ?_|((first|refine Rs.p ?_|with_reducible intro K hK|(refine hK _ ?_;clear hK K)|(refine aS [(10000,52)] (kg l) ?_ ?_;(focus(simp[go_sem,simprocAttr,hb,hv,hb2];done)))|(refine bw [(10000,52)] (jo l hl) ?_ ?_;(focus(simp[go_sem,simprocAttr,hb,hv,hb2];done)))|refine aa (sM g hm (x:Int)) rfl ?_|refine aa (ki (lu l) (bQ (·.1) g x) (by omega)) rfl ?_);try simp only[go_sem,simprocAttr,hb,hv,hb2])|with_reducible (apply And.intro)|omega)
 ·have hb:decide ((x:Int)<(p.outs.length:Int))=false:=ac5 (by omega)
  obtain rfl:x=p.outs.length:=by omega
  have hres:res=true:=hr.2 ⟨h1.1,h1.2,fun i hi=>hg i (by omega),Qn⟩
  subst hres
  repeat' (first|refine Rn.p ?_|((first|refine Rs.p ?_|with_reducible intro K hK|(refine hK _ ?_;clear hK K));try simp only[go_sem,simprocAttr,hb]))
def acM(m:Nat)(fl:List Int):List Int:=(List.range m).map fun i:Nat=>if(i:Int)∈fl then(1:Int) else 0
theorem Qo{g:Gr}{x i:Int} :i∈b8 g x↔(0<=i/\i<g.es.length)/\(g.es.getD i.toNat (0,0)).1=x:=by
 constructor
 ·exact gA
 ·rintro⟨⟨h1,h2⟩,h3⟩
  simp only[b8,aJ,ada,adI,adk,adb]
  exact⟨i.toNat,⟨by omega,h3⟩,by simp;omega⟩
def dF(b:Bool)(g:Gr)(p:Pl):(List (List It) × List It) × Int × Int:=
 if b=false then(([], []),(1,0)) else
 match ox g p g.n.toNat with
 |some i=>(([], []),(3,(i:Int)))
 |none=>((gC g p g.n.toNat,(fK g p g.n.toNat).row),(0,0))
theorem VH{n:Nat} :List.replicate n [D.sl 3 []]=vT (List.replicate n []):=by simp[vT,sT]
theorem VI{ls:List (List It)}{k:Nat}{l:List It} :(vT ls).set k [sT l]=vT (ls.set k l):=by simp[vT,aeR]
theorem M6{g:Gr}{p:Pl}{k:Nat} :gC g p (k+1)=(gC g p k).set (aq p k).toNat (cB g p k):=rfl
theorem ig(g:Gr)(hl:g.es.length<=1000)(p:Pl)(hp:uc p)(b:Bool)(hr:b=true↔(bX g).1=0/\bq g p):
 Spec Tryz.prog 38 (Args [eG g,ePl p]) [] (.tup [.d (.sl 1 (vT (dF b g p).1.1)), .d (sT (dF b g p).1.2),eF ((dF b g p).2.1,(dF b g p).2.2, [])]) []:=by
 by_cases hc:(bX g).1=0
 rotate_left
 ·obtain rfl:b=false:=by
   rw[<- Bool.not_eq_true,hr]
   exact fun h=>hc h.1
  have hR:dF false g p=(([], []),(1,0)):=rfl
  rw[hR]
  (refine T.h [] [] [.t 4, .t 5, .c 6 64] Tryz.func38 rfl rfl (by kernel_rfl) fun X hX hP hC aA bB=> ?_)
  repeat' (first|refine Rn.p ?_|((first|refine Rs.p ?_|with_reducible intro K hK|(refine hK _ ?_;clear hK K)|refine aa (MR g hl hc) rfl ?_);try simp only[go_sem,simprocAttr,vT,adO])|with_reducible (refine oD (by kernel_rfl) ?_))
 have hm:=ah hc
 have hn:=aB hm
 have hr:b=true↔bq g p:=by rw[hr];exact⟨fun h=>h.2,fun h=>⟨hc,h⟩⟩
 have hO:=Qm g hm p hp b hr
 cases b with
 |false=>
  have hR:dF false g p=(([], []),(1,0)):=rfl
  rw[hR]
  (refine T.h [] [] [.t 4, .t 5, .c 6 64] Tryz.func38 rfl rfl (by kernel_rfl) fun X hX hP hC aA bB=> ?_)
  repeat' (first|refine Rn.p ?_|((first|refine Rs.p ?_|with_reducible intro K hK|(refine hK _ ?_;clear hK K)|(refine lV [(10000,13)] (yc g hl hc hm) ?_ ?_;(focus(simp[go_sem,simprocAttr,vT,adO];done)))|refine aa (sx g hm) rfl ?_|refine aa (hO) rfl ?_);try simp only[go_sem,simprocAttr,vT,adO])|with_reducible (refine oD (by kernel_rfl) ?_))
 |true=>
 have mY:=hr.1 rfl
 have hle:=aI mY
 have hR:dF true g p=match ox g p g.n.toNat with
  |some i=>(([], []),(3,(i:Int)))
  |none=>((gC g p g.n.toNat,(fK g p g.n.toNat).row),(0,0)):=rfl
 generalize dF true g p=R at hR
 (refine T.h [] [] [.t 4, .t 5, .c 6 64] Tryz.func38 rfl rfl (by kernel_rfl) fun X hX hP hC aA bB=> ?_)
 repeat' (first|(show cR _ (.seq (.region 5 _ _) _) _ _;(refine F9 13 0 3 rfl rfl rfl ?_;simp only[List.set_cons_zero,List.set_cons_succ,go_sem,simprocAttr]);(refine jj hX 13 2 100 (.tip 3 1 []) rfl rfl rfl (by simp only[go_sem,simprocAttr]) (by decide) (by simp[go_sem,simprocAttr]) ⟨3,1,by decide, .inr rfl⟩ ?_;simp only[List.set_cons_zero,List.set_cons_succ,go_sem,simprocAttr]))|refine Rn.p ?_|((first|refine Rs.p ?_|with_reducible intro K hK|(refine hK _ ?_;clear hK K)|(refine lV [(10000,13)] (yc g hl hc hm) ?_ ?_;(focus(simp[go_sem,simprocAttr];done)))|refine aa (sx g hm) rfl ?_|refine aa (hO) rfl ?_);try simp only[go_sem,simprocAttr])|with_reducible (first|apply And.intro|refine oD (by kernel_rfl) ?_)|omega)
 rw[VH]
 refine ag (fun k:Nat=>k<=g.n.toNat/\∀j,j<k->xP g p j=true) (fun k=>⟨[(3, .ptr 3 0),(4, .ref 28),(6, .ptr 6 0),(7, .ptr 13 0),(30, .d (sI p.ord)),(31,eN p.ord.length),(32,eN k)], [(28, .own 78 1 (vT (gC g p k))),(13, .box [.d (sT (fK g p k).row), .d (vw g), .ref 100]),(100, .tip 3 1 ((fK g p k).pl.map rI)),(6, .box [eN 0,eN 0, .nil 3]),(3, .box [.d (sI p.ord), .d (.sl 1 (vI p.outs))])]⟩) (fun k=>g.n.toNat - k) 0 (by simp) ?_ ?_
 ·refine Le.of ?_ ?_<;>simp[go_sem,simprocAttr,rfC,fK,gC]
 rintro k ⟨hk,hok⟩
 obtain⟨hi,_,hrl⟩:=bz hm mY hk hok
 have hel:=qW (g:=g) (p:=p) (k:=k)
 have hmul:k*(g.es.length+1)<=64*129:=afQ (by omega) (by omega)
 rcases adj k g.n.toNat with hlt|hge
 ·have hb:decide ((k:Int)<(p.ord.length:Int))=true:=ac6 (by omega)
  have Yd:=aD mY hlt
  have dw:=M6 (g:=g) (p:=p) (k:=k)
  have WO:fK g p (k+1)=(aC g (fK g p k) (aq p k) (bE p (aq p k))).2:=rfl
  have Qn:cB g p k=(aC g (fK g p k) (aq p k) (bE p (aq p k))).1.1:=rfl
  have hpk:=Qe mY hlt
  have Ye:=Qf (g:=g) (p:=p) (k:=k)
  have hsk:xP g p k=false->R=(([], []),(3,(k:Int))):=fun h=>by
   rw[hR,Bz.2 ⟨hlt,h,hok⟩]
  have iF:=wS mY Yd.1 Yd.2
  have pE:p.ord.getD k 0=aq p k:=rfl
  have Yf:(fK g p k).pl.length<=64:=by
   rcases Yc hi.tofL with h|h
   ·omega
   ·rw[h];simp
  obtain⟨x,hx⟩:∃x:Nat,aq p k=x:=⟨(aq p k).toNat,by omega⟩
  rw[hx]at pE WO Qn hpk Ye Yd iF dw
  have hxl:x<p.outs.length:=by have:=mY.1;omega
  have hv:=jr hxl
  have hla:bE p (x:Int)=p.outs.getD x []:=by unfold bE;rw[Int.toNat_natCast]
  rw[hla]at WO Qn hpk Ye iF
  rw[Int.toNat_natCast]at dw
  have Jm:=y9 g hm (fK g p k) hi (x:Int) (p.outs.getD x []) (by omega) (by omega) (by omega)
  have fR:=VI (ls:=gC g p k) (k:=x) (l:=cB g p k)
  generalize p.outs.getD x []=o at hv WO Qn hpk Ye Jm
  rw[<- dw]at fR
  generalize fK g p k=f at WO Qn hpk Ye Jm hi hrl Yf
  have WQ:x<(gC g p k).length:=by omega
  have hvl:(vT (gC g p k)).length=(gC g p k).length:=vT_length
  cases SX:xP g p k with
  |false=>
   rw[Ye SX]at Jm
   simp only at Jm
   have hRk:=hsk SX
   subst hRk
   repeat' (first|refine Rn.p ?_|((first|refine Rs.p ?_|with_reducible intro K hK|(refine hK _ ?_;clear hK K)|(refine aS [(10000,13),(10001,100),(10002,101)] (Jm) ?_ ?_;(focus(simp[go_sem,simprocAttr,hb,pE,hv,wN,EM,adO];done))));try simp only[go_sem,simprocAttr,hb,pE,hv,wN,EM,adO])|with_reducible (apply And.intro)|omega)
   all_goals rfl
  |true=>
   rw[hpk SX]at Jm
   have G1:(aC g f (x:Int) o).1.2=0:=rfl
   rw[Qn]at fR
   generalize aC g f (x:Int) o=su at WO Qn Jm G1 fR
   generalize hEk:gC g p k=E at fR WQ hel hvl
   have Uk:=fun d=>wu WQ d
   repeat' (first|(show cR _ (.region 11 _ _) _ _;(refine dY hX 13 2 101 100 rfl rfl rfl (by first|exact .inl rfl|exact .inr rfl) (by decide) (by decide) ?_;simp only[List.set_cons_zero,List.set_cons_succ,go_sem,simprocAttr,hb,pE,hv,wN,EM,G1,fR,Uk,aer,ae1]))|refine Rn.p ?_|((first|refine Rs.p ?_|with_reducible intro K hK|(refine hK _ ?_;clear hK K)|(refine aS [(10000,13),(10001,100),(10002,101)] (Jm) ?_ ?_;(focus(simp[go_sem,simprocAttr,hb,pE,hv,wN,EM,G1,fR,Uk,aer,ae1];done))));try simp only[go_sem,simprocAttr,hb,pE,hv,wN,EM,G1,fR,Uk,aer,ae1])|with_reducible (apply And.intro)|omega)
   refine⟨k+1,⟨by omega,fun j hj=> ?_⟩, ?_,by omega⟩
   ·by_cases e:j=k
    ·subst e;exact SX
    ·exact hok j (by omega)
   ·rw[WO]
    have Yg:(vT E).set x [D.sl 3 (List.map rT su.1.1)]=vT (gC g p (k+1)):=fR
    refine Le.of ?_ ?_<;>simp[go_sem,simprocAttr,hb,pE,hv,wN,EM,G1,fR,Uk,aer,ae1,Yg]
 have hb:decide ((k:Int)<(p.ord.length:Int))=false:=ac5 (by omega)
 obtain rfl:k=g.n.toNat:=by omega
 rw[jR.2 hok]at hR
 subst hR
 repeat' (first|refine Rn.p ?_|((first|refine Rs.p ?_|with_reducible intro K hK|(refine hK _ ?_;clear hK K)|(refine qI 60 (MP [vw g,sI (fK g p g.n.toNat).pl] (fK g p g.n.toNat).row (by omega)) ?_ (by first|exact tV|exact tW|exact tY|exact wO) rfl (by decide) ?_;(focus(simp only[go_sem,simprocAttr,hb];done))));try simp only[go_sem,simprocAttr,hb]))
end Go.Ab
end
