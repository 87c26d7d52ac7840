/- A part of the proof. -/
import Derived.Test.YtchjjbfhlchpfaaGreatL6P17
set_option linter.unusedSimpArgs false
set_option linter.unusedVariables false
section
namespace Go.Ab
open Go.Proofs
set_option maxRecDepth 10000
theorem Dd {g:Gr} (hm:aM g=true) {f:Fr} (hi:dR g f) {x:Int} (hR:ak g f x=true) (hn:aQ g x≠0) (o:List Int):
 ∃a c,fY f.row=a++fY (az g f x o).1.1++c∧fW x a∧fW x c∧we x (fY (az g f x o).1.1)∧(fY (az g f x o).1.1).length=aQ g x∧fY (az g f x o).2.row=a++fY (aF g x o)++c:=by
 obtain ⟨A,X,C,hr,hA,hC,hX,hc⟩:=bP hm hi hR hn
 have hx:=(aB hR).1
 have hmem:∀t∈X,t∈f.row:=fun t ht=>by rw [hr];simp [ht]
 have hiff:∀t∈X,(0≤t.1↔t.2.2=x):=fun t ht=>by
  have h1:=(hi.it t (hmem t ht)).head hm
  have h2:=hX.al t ht
  constructor
  ·intro h;rcases h2 with h2|h2
   ·exact h2
   ·exact absurd h2 (h1.1.1 h)
  ·intro h;exact h1.1.2 (by omega)
 rw [eR o hr hA hC hX]
 refine ⟨fY A,fY C,by rw [hr,nI,nI],s4 hA,s4 hC,fun t ht=> ?_, ?_,by simp only [nI]⟩
 ·obtain ⟨h1,h2⟩:=eW.1 ht
  exact (hiff t h1).1 h2
 ·rw [← hc,fY, ← List.countP_eq_length_filter]
  refine List.countP_congr fun t ht=> ?_
  simp only [jH,decide_eq_true_eq]
  exact hiff t ht
def nO (g:Gr) (p:Pl) (x:Int):List Int:=(fY ((eV g p g.n.toNat).getD x.toNat [])).map (·.1)
def qb (g:Gr) (p:Pl) (f:Fr) (x:Int):List Int:=(fY (az g f x (bQ p x)).1.1).map (·.1)
def vj (g:Gr) (p:Pl):Nat→Fr→Prop
 |0,f=>(f.pl.length:Int)=g.n
 |m+1,f=>∃x,ak g f x=true∧qb g p f x=nO g p x∧vj g p m (jQ g p f x)
theorem vk {g:Gr} {p:Pl} :∀ {m:Nat} {f f':Fr},f.row=f'.row→f.pl.Perm f'.pl→vj g p m f→vj g p m f'
 |0,f,f',_,hp,h=>by
  have h:(f.pl.length:Int)=g.n:=h
  show (f'.pl.length:Int)=g.n
  rw [← hp.length_eq];exact h
 |m+1,f,f',hr,hp,⟨x,h1,h3,h2⟩=>by
  refine ⟨x,by rw [← rN hr hp];exact h1, ?_,vk ?_ ?_ h2⟩
  ·simp only [qb,az,hr] at h3 ⊢;exact h3
  ·simp only [jQ,az,hr]
  ·exact hp.append_right _
theorem xw {g:Gr} (hc:(bR g).1=0) {p:Pl} (hp:aX g p):∀ {m:Nat} {f:Fr},xb g f→(f.pl.length:Int)+(m+1:Nat)=g.n→vj g p (m+1) f→∀ {x:Int},ak g f x=true→qb g p f x=nO g p x∧vj g p m (jQ g p f x)
 |m,f,hi,hl,⟨y,sj,N8,hcan⟩,x,hR=>by
  have hm:=an hc
  by_cases hxy:x=y
  ·subst hxy;exact ⟨N8,hcan⟩
  have py:=bS hp (aB sj).1 (aB sj).2.1
  have px:=bS hp (aB hR).1 (aB hR).2.1
  have i2:=iq hm hi sj py
  match m,hl,hcan with
  |0,hl,hcan=>
   exfalso
   have h1:=kN i2.todR (by show ((f.pl++ [y]).length:Int)=g.n;simp;omega) (x:=x) ⟨(aB hR).1,(aB hR).2.1⟩
   have h2:x∈f.pl++ [y]:=h1
   simp [(aB hR).2.2,hxy] at h2
  |m+1,hl,hcan=>
   obtain ⟨h4,h5,h6,h7,h8⟩:=xd hc hi hxy hR sj px py
   obtain ⟨h9,h3⟩:=xw hc hp i2 (by show (((f.pl++ [y]).length:Nat):Int)+_=_;simp;omega) hcan h5
   refine ⟨?_,y,h4, ?_,vk h6.symm ?_ h3⟩
   ·unfold qb at h9 ⊢;rw [h7];exact h9
   ·unfold qb at N8 ⊢;rw [h8] at N8;exact N8
   show (f.pl++ [y]++ [x]).Perm (f.pl++ [x]++ [y])
   rw [List.append_assoc,List.append_assoc]
   exact List.Perm.append_left _ (List.Perm.swap ..)
theorem De {g:Gr} (hc:(bR g).1=0) {p:Pl} (hp:aX g p):∀ {m:Nat} {f:Fr},xb g f→vj g p m f→∀ {i:Nat},i<g.es.length→tl g i∈f.pl→hd g i∉f.pl→∃t∈f.row,t.1=(i:Int)
 |0,f,hi,h,i,hil,_,hh=>by
  have hr:=bF (an hc) hil
  exact absurd (kN hi.todR h (x:=hd g i) hr) hh
 |m+1,f,hi,⟨x,hR,_,h⟩,i,hil,ht,hh=>by
  have hm:=an hc
  have px:=bS hp (aB hR).1 (aB hR).2.1
  by_cases hx:hd g i=x
  ·obtain ⟨t,h1,h2,_⟩:=uR hm hi hR hil hx
   exact ⟨t,h1,h2⟩
  ·obtain ⟨t,h1,h2⟩:=De hc hp (iq hm hi hR px) h hil (List.mem_append.2 (.inl ht)) (fun h1=>by
    rcases List.mem_append.1 h1 with h1|h1
    ·exact hh h1
    ·exact hx (by simpa using h1))
   obtain ⟨A,X,C,hr,_,_,_,hs⟩:=fF hm hi.todR hR
   rw [hs] at h1
   simp only [List.mem_append] at h1
   rcases h1 with (h1|h1)|h1
   ·exact ⟨t,by rw [hr];simp [h1],h2⟩
   ·rcases kM (fun i hi=>px.mem_iff.1 hi) h1 with ⟨h3,_⟩|⟨k,h3,h4,h5,_,h6,_⟩
    ·omega
    ·have:k=i:=by omega
     subst this
     exact absurd (h6 ▸ ht) (aB hR).2.2
   ·exact ⟨t,by rw [hr];simp [h1],h2⟩
def fe (g:Gr) (e:Int):Int:=(g.es.getD e.toNat (0,0)).1
def dN (g:Gr) (e:Int):Int:=(g.es.getD e.toNat (0,0)).2
def H9 (g:Gr) (x:Int):Prop:=0≤x∧x<g.n
instance {g:Gr} {x:Int} :Decidable (H9 g x):=inferInstanceAs (Decidable (0≤x∧x<g.n))
def vl (g:Gr) (p:Pl) (k:Nat) (W D:List Int):Prop:=∃f,xb g f∧f.pl=D∧W=(fY f.row).map (·.1)∧vj g p k f∧(D.length:Int)+k=g.n∧aD p 0∈D
def Qm (g:Gr) (p:Pl) (x:Int):Nat:=((Bm g.n.toNat p.ord p.ord.length).getD x.toNat 0).toNat
def AJ (g:Gr) (p:Pl):PS:=
 {m:=g.es.length,src:=aD p 0,M8:=aD p (g.n.toNat - 1),tl:=fe g,hd:=dN g,ins:=fun x=>if H9 g x then nO g p x else [],outs:=fun x=>if H9 g x then bQ p x else [],PM:=Qm g p,Row:=vl g p,k0:=g.n.toNat - 1}
theorem B7 {g:Gr} {p:Pl} {x:Int} (h:H9 g x):(AJ g p).ins x=nO g p x:=if_pos h
theorem Je {g:Gr} {p:Pl} {x:Int} (h:¬H9 g x):(AJ g p).ins x= []:=if_neg h
theorem Jf {g:Gr} {p:Pl} {x:Int} (h:H9 g x):(AJ g p).outs x=bQ p x:=if_pos h
theorem bu {f:Edge→Int} {es:List Edge} {x e:Int} :e∈aK f es es.length x↔(0≤e∧e<es.length)∧f (es.getD e.toNat (0,0))=x:=by
 refine ⟨fV,fun ⟨h1,h2⟩=> ?_⟩
 simp only [aK,List.mem_map,List.mem_filter,List.mem_range,decide_eq_true_eq]
 exact ⟨e.toNat,⟨by omega,h2⟩,by simp;omega⟩
section
variable {g:Gr} {p:Pl}
theorem yQ (hm:aM g=true) {f:Fr} (hi:dR g f) {t:It} (ht:t∈fY f.row):(0≤t.1∧t.1<g.es.length)∧t.2.1=fe g t.1∧t.2.2=dN g t.1:=by
 obtain ⟨h1,h2⟩:=eW.1 ht
 rcases hi.it t h1 with h3|h3
 ·omega
 ·exact ⟨⟨h3.1,h3.2.1⟩,h3.2.2.1,h3.2.2.2⟩
theorem JY {f:Fr} (hi:xb g f):((fY f.row).map (·.1)).Nodup:=by
 refine List.pairwise_map.2 ?_
 have:=hi.once.filter (fun t:It=>decide (0≤t.1))
 refine List.Pairwise.imp_of_mem (fun {s t} hs ht h1=>h1 (eW.1 hs).2) this
theorem Jg (hm:aM g=true) {f:Fr} (hi:xb g f) {x:Int} (hR:ak g f x=true):(qb g p f x).Nodup∧∀e,e∈qb g p f x↔(0≤e∧e<g.es.length)∧dN g e=x:=by
 by_cases hn:aQ g x=0
 ·have hno:=gO hm hi.todR (aB hR).1 hn
  have e0:qb g p f x= []:=by unfold qb;rw [eS _ hno];rfl
  rw [e0]
  refine ⟨List.nodup_nil,fun e=>⟨fun h=>by (cases h),fun ⟨h1,h2⟩=> ?_⟩⟩
  have:=bu.2 ⟨h1,h2⟩
  have h3:aK (·.2) g.es g.es.length x= []:=List.eq_nil_of_length_eq_zero hn
  rw [h3] at this;cases this
 ·obtain ⟨a,c,e1,ha,hc,hX,hl,_⟩:=Dd hm hi.todR hR hn (bQ p x)
  have bY:=JY hi
  have hmem:∀t∈fY (az g f x (bQ p x)).1.1,t∈fY f.row:=fun t ht=>by rw [e1];simp [ht]
  rw [e1,List.map_append,List.map_append,List.nodup_append] at bY
  have N9:(qb g p f x).Nodup:=(List.nodup_append.1 bY.1).2.1
  have hsub:∀e∈qb g p f x,e∈aK (·.2) g.es g.es.length x:=fun e he=>by
   obtain ⟨t,ht,rfl⟩:=List.mem_map.1 he
   obtain ⟨h1,_,h3⟩:=yQ hm hi.todR (hmem t ht)
   exact bu.2 ⟨h1,by rw [← hX t ht,h3];rfl⟩
  have hlen:(aK (·.2) g.es g.es.length x).length=(qb g p f x).length:=by
   unfold qb;rw [List.length_map,hl];rfl
  exact ⟨N9,fun e=>⟨fun he=>bu.1 (hsub e he),fun he=>yF N9 hsub hlen e (bu.2 he)⟩⟩
theorem Jh (h:aR g p) {k:Nat} (hk:k<g.n.toNat):nO g p (aD p k)=qb g p (fK g p k) (aD p k):=by
 unfold nO
 rw [yG h.2.1 (Nat.le_refl _) hk];rfl
theorem AK (h:aR g p) {x:Int} (hx:H9 g x):(nO g p x).Nodup∧∀e,e∈nO g p x↔(0≤e∧e<g.es.length)∧dN g e=x:=by
 obtain ⟨k,hk,rfl⟩:=gQ h.2.1 hx.1 hx.2
 have hm:=an h.1
 obtain ⟨hi,_,_⟩:=bV hm h.2.1 (k:=k) (by omega) fun j hj=>h.2.2 j (by omega)
 rw [Jh h hk]
 exact Jg hm hi (h.2.2 k hk)
theorem AL (h:aR g p) {x:Int} (hx:H9 g x):(nO g p x).length=aQ g x:=by
 obtain ⟨h1,h2⟩:=AK h hx
 refine Nat.le_antisymm ?_ ?_
 ·exact nt h1 fun e he=>bu.2 ((h2 e).1 he)
 ·exact nt cJ fun e he=>(h2 e).2 (bu.1 he)
theorem vl.nd {k:Nat} {W D:List Int} (h:vl g p k W D):W.Nodup:=by
 obtain ⟨f,hi,_,rfl,_⟩:=h;exact JY hi
theorem vl.mem (h:aR g p) {k:Nat} {W D:List Int} (hr:vl g p k W D) (e:Int):e∈W↔(0≤e∧e<g.es.length)∧fe g e∈D∧dN g e∉D:=by
 have hm:=an h.1
 obtain ⟨f,hi,rfl,rfl,hc,_⟩:=hr
 constructor
 ·intro he
  obtain ⟨t,ht,rfl⟩:=List.mem_map.1 he
  obtain ⟨h1,h2,h3⟩:=yQ hm hi.todR ht
  obtain ⟨h4,h5⟩:=eW.1 ht
  exact ⟨h1,h2 ▸ hi.tail t h4 h5,h3 ▸ hi.head t h4 h5⟩
 ·rintro ⟨h1,h2,h3⟩
  obtain ⟨t,h4,h5⟩:=De h.1 h.2.1 hi hc (i:=e.toNat) (by omega) h2 h3
  exact List.mem_map.2 ⟨t,eW.2 ⟨h4,by omega⟩,by omega⟩
theorem vl.next (h:aR g p) {k:Nat} {W D:List Int} (hr:vl g p (k+1) W D):∃x A C,W=A++(AJ g p).ins x++C∧(AJ g p).ins x≠ []:=by
 have hm:=an h.1
 obtain ⟨f,hi,rfl,rfl,⟨x,hR,hg,_⟩,_,hs⟩:=hr
 obtain ⟨x0,x1,x2⟩:=aB hR
 have hx:H9 g x:=⟨x0,x1⟩
 have hn:aQ g x≠0:=fun h0=>by
  have:=jO h.1 (x:=x) (y:=aD p 0) hx (hi.qB _ hs) h0 (EE h)
  exact x2 (this ▸ hs)
 obtain ⟨a,c,e1,_,_,_,hl,_⟩:=Dd hm hi.todR hR hn (bQ p x)
 refine ⟨x,a.map (·.1),c.map (·.1), ?_, ?_⟩
 ·rw [B7 hx, ← hg,e1,List.map_append,List.map_append];rfl
 ·rw [B7 hx]
  intro h0
  have:=AL h hx
  rw [h0] at this
  exact hn this.symm
theorem vl.step (h:aR g p) {k:Nat} {W D A C:List Int} {x:Int} (hr:vl g p k W D) (hW:W=A++(AJ g p).ins x++C) (hI:(AJ g p).ins x≠ []):∃k',k=k'+1∧vl g p k' (A++(AJ g p).outs x++C) (D++ [x]):=by
 have hm:=an h.1
 have hx:H9 g x:=Decidable.byContradiction fun h0=>hI (Je h0)
 have bY:=hr.nd
 have hmem:=vl.mem h hr
 rw [B7 hx] at hW hI
 rw [Jf hx]
 obtain ⟨i1,i2⟩:=AK h hx
 obtain ⟨e0,u0,KR⟩:=yp hI
 have Rb:x∉D:=by
  have h1:=(i2 e0).1 (by rw [KR];simp)
  have h2:=(hmem e0).1 (by rw [hW,KR];simp)
  rw [h1.2] at h2;exact h2.2.2
 obtain ⟨f,hi,rfl,S5,hc,hD,hs⟩:=hr
 rw [S5] at hW bY
 obtain ⟨l1,c,e1,e2,e3⟩:=List.map_eq_append_iff.1 hW
 obtain ⟨a,X,e4,e5,e6⟩:=List.map_eq_append_iff.1 e2
 have hrow:fY f.row=a++X++c:=by rw [e1,e4]
 rw [hrow,List.map_append,List.map_append,e5,e6,e3] at bY
 have hit:∀t∈a++X++c,(0≤t.1∧t.1<g.es.length)∧t.2.1=fe g t.1∧t.2.2=dN g t.1:=fun t ht=>yQ hm hi.todR (by rw [hrow];exact ht)
 have hX:we x X:=fun t ht=>by
  have h1:t.1∈nO g p x:=by rw [← e6];exact List.mem_map_of_mem ht
  rw [(hit t (by simp [ht])).2.2,((i2 _).1 h1).2]
 have hin:∀t∈a++X++c,t.2.2=x→t.1∈nO g p x:=fun t ht e=>by
  obtain ⟨h1,_,h3⟩:=hit t ht
  exact (i2 _).2 ⟨h1,by rw [← h3,e]⟩
 have ha:fW x a:=fun t ht e=>by
  have h1:=hin t (by simp [ht]) e
  have h2:t.1∈A:=by rw [← e5];exact List.mem_map_of_mem ht
  exact (List.nodup_append.1 (List.nodup_append.1 bY).1).2.2 _ h2 _ h1 rfl
 have Rc:fW x c:=fun t ht e=>by
  have h1:=hin t (by simp [ht]) e
  have h2:t.1∈C:=by rw [← e3];exact List.mem_map_of_mem ht
  exact (List.nodup_append.1 bY).2.2 _ (List.mem_append.2 (.inr h1)) _ h2 rfl
 have PV:X.length=aQ g x:=by rw [← AL h hx, ← e6,List.length_map]
 have nX:X≠ []:=fun h0=>hI (by rw [← e6,h0];rfl)
 have hR:=AI hm hi.todR hx.1 hx.2 Rb hrow ha Rc hX nX PV
 have hn:aQ g x≠0:=fun h0=>nX (List.eq_nil_of_length_eq_zero (PV.trans h0))
 have px:=bS h.2.1 hx.1 hx.2
 cases k with
 |zero=>exact absurd (kN hi.todR (by omega) hx) Rb
 |succ k=>
  refine ⟨k,rfl,jQ g p f x,iq hm hi hR px,rfl, ?_,(xw h.1 h.2.1 hi (by omega) hc hR).2, ?_,List.mem_append.2 (.inl hs)⟩
  ·have:=Dc hm hi.todR hR hn hrow ha Rc hX nX (bQ p x)
   show _=(fY (az g f x (bQ p x)).2.row).map (·.1)
   rw [this,List.map_append,List.map_append,e5,e3,qN (fun i hi=>by
    have:=bu.1 (px.mem_iff.1 hi);exact this.1.1),List.map_map]
   have e7:((fun t:It=>t.1) ∘ dJ g x)=id:=rfl
   rw [e7,List.map_id]
  ·show (((f.pl++ [x]).length:Nat):Int)+_=_
   rw [List.length_append,List.length_singleton];omega
end
end Go.Ab
end
section
namespace Go.Ab
open Go.Proofs
set_option maxRecDepth 10000
structure kU (g:Gr) (p:Pl) (k:Nat) (e:Int):Prop where
 e0:0≤e
 e1:e<g.es.length
 low:fe g e∈p.ord.take k
 top:dN g e∉p.ord.take k
structure Hr (g:Gr) (p:Pl) (L:Nat→Int→Int→Prop):Prop where
 up:∀e:Int,0≤e→e<g.es.length→∀k,k<g.n.toNat→aD p k=dN g e→fe g e∈p.ord.take k
 S6:∀k,k<g.n.toNat→∀a b c:Int,kU g p k a→kU g p k b→kU g p k c→dN g a=aD p k→dN g c=aD p k→L k a b→L k b c→dN g b=aD p k
 keep:∀k,k<g.n.toNat→∀a b:Int,kU g p k a→kU g p k b→dN g a≠aD p k→dN g b≠aD p k→L k a b→L (k+1) a b
 left:∀k,k<g.n.toNat→∀a b c:Int,kU g p k a→kU g p k b→dN g a≠aD p k→dN g b=aD p k→c∈bQ p (aD p k)→L k a b→L (k+1) a c
 right:∀k,k<g.n.toNat→∀a b c:Int,kU g p k a→kU g p k b→dN g a≠aD p k→dN g b=aD p k→c∈bQ p (aD p k)→L k b a→L (k+1) c a
 outs:∀k,k<g.n.toNat→(bQ p (aD p k)).Pairwise (L (k+1))
theorem xx {α:Type} (P:α→Prop) [DecidablePred P]:∀l:List α,∃X v,l=X++v∧(∀t∈X,P t)∧(v= []∨∃b v',v=b::v'∧¬P b)
 | []=>⟨[], [],rfl,by simp, .inl rfl⟩
 |a::l=>by
  by_cases h:P a
  ·obtain ⟨X,v,e,h1,h2⟩:=xx P l
   exact ⟨a::X,v,by simp [e],fun t ht=>(List.mem_cons.1 ht).elim (fun e=>e ▸ h) (h1 t),h2⟩
  ·exact ⟨[],a::l,rfl,by simp, .inr ⟨a,l,rfl,h⟩⟩
theorem xy {α:Type} {P:α→Prop} [DecidablePred P] {R:α→α→Prop} :∀ {l:List α},l.Pairwise R→(∀a b c,a∈l→b∈l→c∈l→P a→P c→R a b→R b c→P b)→(∃a∈l,P a)→
 ∃u X v,l=u++X++v∧(∀t∈u,¬P t)∧(∀t∈X,P t)∧X≠ []∧∀t∈v,¬P t
 | [],_,_,⟨a,ha,_⟩=>by cases ha
 |t::l,hp,hb,hex=>by
  obtain ⟨hp1,hp2⟩:=List.pairwise_cons.1 hp
  by_cases h:P t
  ·obtain ⟨X,v,e,h1,h2⟩:=xx P l
   refine ⟨[],t::X,v,by simp [e],by simp,fun s hs=>(List.mem_cons.1 hs).elim (fun e=>e ▸ h) (h1 s),by simp,fun c hc Re=> ?_⟩
   rcases h2 with rfl|⟨b,v',rfl,hnb⟩
   ·cases hc
   ·have hb1:b∈l:=by rw [e];simp
    rcases List.mem_cons.1 hc with rfl|rZ
    ·exact hnb Re
    ·have hbc:R b c:=by
      rw [e] at hp2
      have:=(List.pairwise_append.1 hp2).2.1
      exact (List.pairwise_cons.1 this).1 c rZ
     exact hnb (hb t b c (by simp) (by simp [hb1]) (by rw [e];simp [rZ]) h Re (hp1 b hb1) hbc)
  ·obtain ⟨a,ha,hPa⟩:=hex
   have M9:a∈l:=(List.mem_cons.1 ha).elim (fun e=>absurd (e ▸ hPa) h) id
   obtain ⟨u,X,v,e,h1,h2,h3,h4⟩:=xy hp2 (fun a b c ha hb' hc=>hb a b c (by simp [ha]) (by simp [hb']) (by simp [hc])) ⟨a,M9,hPa⟩
   exact ⟨t::u,X,v,by simp [e],fun s hs=>(List.mem_cons.1 hs).elim (fun e=>e ▸ h) (h1 s),h2,h3,h4⟩
theorem kX {p:Pl} {k:Nat} {y:Int} (h:y∈p.ord.take k):∃j,j<k∧j<p.ord.length∧aD p j=y:=by
 obtain ⟨j,hj,e⟩:=List.mem_iff_getElem.1 h
 simp only [List.length_take] at hj
 refine ⟨j,by omega,by omega, ?_⟩
 rw [aD,List.getD_eq_getElem?_getD,List.getElem?_eq_getElem (by omega),Option.getD_some, ← e,List.getElem_take]
theorem xz {p:Pl} {k j:Nat} (h1:j<k) (h2:j<p.ord.length):aD p j∈p.ord.take k:=by
 rw [aD,List.getD_eq_getElem?_getD,List.getElem?_eq_getElem h2,Option.getD_some]
 exact List.mem_iff_getElem.2 ⟨j,by simp;omega,by simp⟩
theorem xA {g:Gr} {p:Pl} (hp:aX g p) {k:Nat} (hk:k<g.n.toNat):aD p k∉p.ord.take k:=fun h=>by
 obtain ⟨j,h1,h2,h3⟩:=kX h
 have:=nE hp (i:=j) (j:=k) (by omega) hk h3
 omega
theorem gP {g:Gr} {p:Pl} (hp:aX g p) {k:Nat} (hk:k<g.n.toNat):p.ord.take (k+1)=p.ord.take k++ [aD p k]:=by
 rw [List.take_add_one,List.getElem?_eq_getElem (by rw [aS hp];exact hk),aD,List.getD_eq_getElem?_getD,List.getElem?_eq_getElem (by rw [aS hp];exact hk)]
 rfl
section
variable {g:Gr} {p:Pl}
theorem jT (hm:aM g=true) {f:Fr} (hi:xb g f) {k:Nat} (dM:f.pl=p.ord.take k) {t:It} (ht:t∈fY f.row):kU g p k t.1∧fe g t.1=t.2.1∧dN g t.1=t.2.2:=by
 obtain ⟨h1,h2⟩:=eW.1 ht
 rcases hi.it t h1 with h|⟨_,g2,g3,g4⟩
 ·omega
 ·refine ⟨⟨h2,g2, ?_, ?_⟩,g3.symm,g4.symm⟩
  ·rw [← dM];unfold fe;rw [← g3];exact hi.tail t h1 h2
  ·rw [← dM];unfold dN;rw [← g4];exact hi.head t h1 h2
theorem AM (hc:(bR g).1=0) (hp:aX g p) {L:Nat→Int→Int→Prop} (hL:Hr g p L):∀ {k:Nat},k≤g.n.toNat→
 (∀j,j<k→oV g p j=true)∧((fY (fK g p k).row).Pairwise fun s t=>L k s.1 t.1)∧∀e,kU g p k e→∃t∈(fK g p k).row,t.1=e
 |0,_=>⟨fun j hj=>by omega,by simp [fK,fY],fun e he=>by have:=he.low;simp at this⟩
 |k+1,hk=>by
  have hm:=an hc
  obtain ⟨ih1,ih2,ih3⟩:=AM hc hp hL (k:=k) (by omega)
  obtain ⟨hi,dM,_⟩:=bV hm hp (k:=k) (by omega) ih1
  obtain ⟨x0,x1⟩:=bK hp (k:=k) (by omega)
  have hnew:=xA hp (k:=k) (by omega)
  have hnext:=gP hp (k:=k) (by omega)
  have hpx:=bS hp x0 x1
  have hout:∀i∈bQ p (aD p k),(0≤i∧i<g.es.length)∧fe g i=aD p k:=fun i hi=>bu.1 (hpx.mem_iff.1 hi)
  have DG:=hL.outs k (by omega)
  have AO:fK g p (k+1)=(az g (fK g p k) (aD p k) (bQ p (aD p k))).2:=rfl
  have hab:=qN (g:=g) (x:=aD p k) (o:=bQ p (aD p k)) fun i hi=>(hout i hi).1.1
  have fin:∀a X c:List It,oV g p k=true→fY (fK g p k).row=a++X++c→fW (aD p k) a→fW (aD p k) c→we (aD p k) X→(X≠ []∨a++c= [])→fY (fK g p (k+1)).row=a++fY (aF g (aD p k) (bQ p (aD p k)))++c→
   (∀j,j<k+1→oV g p j=true)∧((fY (fK g p (k+1)).row).Pairwise fun s t=>L (k+1) s.1 t.1)∧∀e,kU g p (k+1) e→∃t∈(fK g p (k+1)).row,t.1=e:=by
   intro a X c hR e ha rZ hX EF hs
   refine ⟨fun j hj=> ?_, ?_,fun q hq=> ?_⟩
   ·by_cases h:j=k
    ·subst h;exact hR
    ·exact ih1 j (by omega)
   ·have hma:∀t∈a,t∈fY (fK g p k).row:=fun t ht=>by rw [e];simp [ht]
    have Oa:∀t∈X,t∈fY (fK g p k).row:=fun t ht=>by rw [e];simp [ht]
    have JW:∀t∈c,t∈fY (fK g p k).row:=fun t ht=>by rw [e];simp [ht]
    have Df:=fun t ht=>jT (p:=p) hm hi dM (t:=t) ht
    rw [e,List.pairwise_append,List.pairwise_append] at ih2
    obtain ⟨⟨pa,pX,S7⟩,pc,Np⟩:=ih2
    have hne:∀t,t∈a∨t∈c→dN g t.1≠aD p k:=fun t ht=>by
     rcases ht with ht|ht
     ·rw [(Df t (hma t ht)).2.2];exact ha t ht
     ·rw [(Df t (JW t ht)).2.2];exact rZ t ht
    rw [hs,hab,List.pairwise_append,List.pairwise_append]
    refine ⟨⟨?_, ?_, ?_⟩, ?_, ?_⟩
    ·exact pa.imp_of_mem fun {s t} hs' ht' h=>hL.keep k (by omega) _ _ (Df s (hma s hs')).1 (Df t (hma t ht')).1 (hne s (.inl hs')) (hne t (.inl ht')) h
    ·rw [List.pairwise_map];exact DG
    ·intro s hs' t ht'
     obtain ⟨i,hi',rfl⟩:=List.mem_map.1 ht'
     rcases EF with EF|h0
     ·obtain ⟨y,Y,rfl⟩:∃y Y,X=y::Y:=by
       cases X with
       |nil=>exact absurd rfl EF
       |cons y Y=>exact ⟨y,Y,rfl⟩
      exact hL.left k (by omega) s.1 y.1 i (Df s (hma s hs')).1 (Df y (Oa y (by simp))).1 (hne s (.inl hs')) (by rw [(Df y (Oa y (by simp))).2.2];exact hX y (by simp)) hi' (S7 s hs' y (by simp))
     ·rw [(List.append_eq_nil_iff.1 h0).1] at hs';cases hs'
    ·exact pc.imp_of_mem fun {s t} hs' ht' h=>hL.keep k (by omega) _ _ (Df s (JW s hs')).1 (Df t (JW t ht')).1 (hne s (.inr hs')) (hne t (.inr ht')) h
    ·intro s hs' t ht'
     rcases List.mem_append.1 hs' with hs1|hs1
     ·exact hL.keep k (by omega) _ _ (Df s (hma s hs1)).1 (Df t (JW t ht')).1 (hne s (.inl hs1)) (hne t (.inr ht')) (Np s (by simp [hs1]) t ht')
     ·obtain ⟨i,hi',rfl⟩:=List.mem_map.1 hs1
      rcases EF with EF|h0
      ·obtain ⟨y,Y,rfl⟩:∃y Y,X=y::Y:=by
        cases X with
        |nil=>exact absurd rfl EF
        |cons y Y=>exact ⟨y,Y,rfl⟩
       exact hL.right k (by omega) t.1 y.1 i (Df t (JW t ht')).1 (Df y (Oa y (by simp))).1 (hne t (.inr ht')) (by rw [(Df y (Oa y (by simp))).2.2];exact hX y (by simp)) hi' (Np y (by simp) t ht')
      ·rw [(List.append_eq_nil_iff.1 h0).2] at ht';cases ht'
   ·have HX:∃t∈fY (fK g p (k+1)).row,t.1=q:=by
     have hl:=hq.low
     rw [hnext,List.mem_append,List.mem_singleton] at hl
     have ht:=hq.top
     rw [hnext,List.mem_append,List.mem_singleton] at ht
     rw [hs]
     rcases hl with hl|hl
     ·obtain ⟨t,ht1,ht2⟩:=ih3 q ⟨hq.e0,hq.e1,hl,fun h=>ht (.inl h)⟩
      have hte:t∈fY (fK g p k).row:=eW.2 ⟨ht1,by rw [ht2];exact hq.e0⟩
      have hh:=(jT (p:=p) hm hi dM hte).2.2
      have iH:=hte
      rw [e,List.mem_append,List.mem_append] at iH
      rcases iH with (h1|h1)|h1
      ·exact ⟨t,by simp [h1],ht2⟩
      ·exact absurd (by rw [← ht2,hh];exact hX t h1) fun h=>ht (.inr h)
      ·exact ⟨t,by simp [h1],ht2⟩
     ·refine ⟨dJ g (aD p k) q, ?_,rfl⟩
      rw [hab,List.mem_append,List.mem_append]
      exact .inl (.inr (List.mem_map.2 ⟨q,hpx.mem_iff.2 (bu.2 ⟨⟨hq.e0,hq.e1⟩,hl⟩),rfl⟩))
    obtain ⟨t,h1,h2⟩:=HX
    exact ⟨t,(eW.1 h1).1,h2⟩
  by_cases hn:aQ g (aD p k)=0
  ·have hno:=gO hm hi.todR x0 hn
   have hR:oV g p k=true:=by
    show ak g (fK g p k) (aD p k)=true
    unfold ak
    rw [if_neg (by rintro (h|h|h);omega;omega;exact hnew (dM ▸ h)),if_pos hn]
   have hrow:(fK g p k).row= []:=by
    rcases hi.src with h|⟨s,hs,hs0⟩
    ·exact h.2
    ·have:=jO hc (hi.qB s hs) ⟨x0,x1⟩ hs0 hn
     exact absurd (by rw [← dM, ← this];exact hs) hnew
   refine fin [] [] [] hR (by rw [hrow];rfl) (fun t ht=>by cases ht) (fun t ht=>by cases ht) (fun t ht=>by cases ht) (.inr rfl) ?_
   rw [AO,eS _ hno,hrow]
   simp
  ·have hex:∃e,e∈aK (·.2) g.es g.es.length (aD p k):=by
    cases h:aK (·.2) g.es g.es.length (aD p k) with
    |nil=>exact absurd (by unfold aQ;rw [h];rfl) hn
    |cons e l=>exact ⟨e,by simp⟩
   have Nq:∀e,e∈aK (·.2) g.es g.es.length (aD p k)→∃t∈fY (fK g p k).row,t.1=e∧t.2.2=aD p k:=fun e he=>by
    obtain ⟨⟨e0,e1⟩,e2⟩:=bu.1 he
    obtain ⟨t,ht1,ht2⟩:=ih3 e ⟨e0,e1,hL.up e e0 e1 k (by omega) e2.symm,by rw [show dN g e=aD p k from e2];exact hnew⟩
    have hte:t∈fY (fK g p k).row:=eW.2 ⟨ht1,by rw [ht2];exact e0⟩
    exact ⟨t,hte,ht2,by rw [← (jT (p:=p) hm hi dM hte).2.2,ht2];exact e2⟩
   obtain ⟨e,he⟩:=hex
   obtain ⟨t0,Ji,_,Qn⟩:=Nq e he
   obtain ⟨a,X,c,hE,ha,hX,nX,rZ⟩:=xy (P:=fun t:It=>t.2.2=aD p k) ih2 (fun a b c ma mb mc ea ec r1 r2=>by
    have ca:=jT (p:=p) hm hi dM ma
    have cb:=jT (p:=p) hm hi dM mb
    have cc:=jT (p:=p) hm hi dM mc
    rw [← cb.2.2]
    exact hL.S6 k (by omega) a.1 b.1 c.1 ca.1 cb.1 cc.1 (by rw [ca.2.2];exact ea) (by rw [cc.2.2];exact ec) r1 r2) ⟨t0,Ji,Qn⟩
   have hlen:X.length=aQ g (aD p k):=by
    have bY:((fY (fK g p k).row).map (·.1)).Nodup:=by
     rw [List.Nodup,List.pairwise_map]
     exact (hi.once.filter _).imp_of_mem fun {s t} hs ht h=>h (eW.1 hs).2
    have Qo:(X.map (·.1)).Nodup:=by
     rw [hE,List.map_append,List.map_append] at bY
     exact (List.nodup_append.1 (List.nodup_append.1 bY).1).2.1
    have C2:(X.map (·.1)).Perm (aK (·.2) g.es g.es.length (aD p k)):=by
     refine (List.perm_ext_iff_of_nodup Qo cJ).2 fun e=>⟨fun h=> ?_,fun h=> ?_⟩
     ·obtain ⟨t,ht,rfl⟩:=List.mem_map.1 h
      have hte:t∈fY (fK g p k).row:=by rw [hE];simp [ht]
      have ct:=jT (p:=p) hm hi dM hte
      exact bu.2 ⟨⟨ct.1.e0,ct.1.e1⟩,(show dN g t.1=_ by rw [ct.2.2];exact hX t ht)⟩
     ·obtain ⟨t,ht,h1,h2⟩:=Nq e h
      rw [hE,List.mem_append,List.mem_append] at ht
      rcases ht with (h3|h3)|h3
      ·exact absurd h2 (ha t h3)
      ·exact List.mem_map.2 ⟨t,h3,h1⟩
      ·exact absurd h2 (rZ t h3)
    have:=C2.length_eq
    rw [List.length_map] at this
    exact this
   have hR:oV g p k=true:=AI hm hi.todR x0 x1 (by rw [dM];exact hnew) hE ha rZ hX nX hlen
   exact fin a X c hR hE ha rZ hX (.inl nX) (by rw [AO];exact Dc hm hi.todR hR hn hE ha rZ hX nX _)
theorem EG (hc:(bR g).1=0) (hp:aX g p) {L:Nat→Int→Int→Prop} (hL:Hr g p L):aR g p:=
 ⟨hc,hp,fun k hk=>(AM hc hp hL (k:=k+1) (by omega)).1 k (by omega)⟩
end
end Go.Ab
end
section
namespace Go.Ab
open Go.Proofs
set_option maxRecDepth 10000
set_option linter.unusedSectionVars false
def Dg (lt:Int→Int→Bool) (us:List Int):Nat→Int
 |0=> -1
 |k+1=>if (!decide ((k:Int)∈us))&&(decide (Dg lt us k<0)||lt k (Dg lt us k)) then k else Dg lt us k
def Nr (lt:Int→Int→Bool) (n:Nat):Nat→List Int
 |0=> []
 |j+1=>Nr lt n j++ [Dg lt (Nr lt n j) n]
def S8 (lt:Int→Int→Bool) (u v:Int):Prop:=lt u v=true∧lt v u=false
section
variable {lt:Int→Int→Bool} {n:Nat} {ord:List Int} (hp:ord.Perm (eC n)) (hs:ord.Pairwise (S8 lt))
include hp hs
end
def JZ (sw:Int→Int→Bool):Int→List Int→Int × List Int
 |a, []=>(a, [])
 |a,c::r=>if sw a c then ((JZ sw c r).1,a::(JZ sw c r).2) else ((JZ sw a r).1,c::(JZ sw a r).2)
def Rg (sw:Int→Int→Bool):Nat→List Int→List Int
 |0,l=>l
 |_+1, []=> []
 |n+1,a::r=>(JZ sw a r).1::Rg sw n (JZ sw a r).2
section
variable {sw:Int→Int→Bool} {R:Int→Int→Prop} {S:Int→Prop} (htr:∀a b c,S a→S b→S c→R a b→R b c→R a c) (hsw:∀a c,S a→S c→a≠c→if sw a c=true then R c a else R a c)
include htr hsw
end
theorem EH {R:Int→Int→Prop} {l m:List Int} (hp:l.Perm m) (ha:∀a b,R a b→R b a→False) (h1:l.Pairwise R) (h2:m.Pairwise R):l=m:=by
 induction l generalizing m with
 |nil=>exact hp.symm.eq_nil.symm
 |cons a l ih=>
  cases m with
  |nil=>exact absurd hp.length_eq (by simp)
  |cons b m=>
   obtain ⟨a1,a2⟩:=List.pairwise_cons.1 h1
   obtain ⟨b1,b2⟩:=List.pairwise_cons.1 h2
   have hab:a=b:=by
    refine Decidable.byContradiction fun hne=> ?_
    have ma:a∈b::m:=hp.mem_iff.1 (by simp)
    have mb:b∈a::l:=hp.mem_iff.2 (by simp)
    have ma:a∈m:=(List.mem_cons.1 ma).elim (fun e=>absurd e hne) id
    have mb:b∈l:=(List.mem_cons.1 mb).elim (fun e=>absurd e.symm hne) id
    exact ha a b (a1 b mb) (b1 a ma)
   subst hab
   rw [ih ((List.perm_cons a).1 hp) a2 b2]
def Ut (sw:Int→Int→Bool) (a:Int) (done todo:List Int):List Int:=(JZ sw a todo).1::Rg sw (done.length+todo.length) (done++(JZ sw a todo).2)
end Go.Ab
end
section
namespace Go.Ab
open Go.Proofs
set_option maxRecDepth 10000
set_option linter.unusedSectionVars false
theorem gn:∀ {l:List Int} {i:Nat},l.Nodup→i<l.length→l.idxOf (l.getD i 0)=i
 | [],i,_,h=>by simp at h
 |a::l,0,_,_=>by simp
 |a::l,i+1,hn,h=>by
  obtain ⟨h1,h2⟩:=List.nodup_cons.1 hn
  have hi:i<l.length:=by simpa using h
  have e:(a::l).getD (i+1) 0=l.getD i 0:=rfl
  have hm:l.getD i 0∈l:=aE hi
  have hne:(a==l.getD i 0)=false:=by
   rw [beq_eq_false_iff_ne];intro e2;exact h1 (e2 ▸ hm)
  rw [e,List.idxOf_cons,hne,cond_false,gn h2 hi]
theorem vm {l:List Int} {u:Int} (h:u∈l):l.idxOf u<l.length∧l.getD (l.idxOf u) 0=u:=by
 have h1:=List.idxOf_lt_length_iff.2 h
 refine ⟨h1, ?_⟩
 rw [List.getD_eq_getElem?_getD,List.getElem?_eq_getElem h1,Option.getD_some]
 exact List.getElem_idxOf h1
theorem yR {A B:List Int} {u:Int} :(A++B).idxOf u=if u∈A then A.idxOf u else A.length+B.idxOf u:=by
 rw [List.idxOf_append];split<;>omega
section
variable {g:Gr} {p:Pl}
def vo (g:Gr) (p:Pl) (c:Nat):List Int:=(fY (fK g p c).row).map (·.1)
theorem jU (h:aR g p) {c:Nat} (hc:c≤g.n.toNat):(vo g p c).Nodup:=by
 obtain ⟨hi,_,_⟩:=bV (an h.1) h.2.1 hc fun j hj=>h.2.2 j (by omega)
 rw [vo,List.Nodup,List.pairwise_map]
 exact (hi.once.filter _).imp_of_mem fun {s t} hs ht h=>h (eW.1 hs).2
theorem je (h:aR g p) {c:Nat} (hc:c<g.n.toNat):∃A X C,vo g p c=A++X++C∧(∀e∈A,dN g e≠aD p c)∧(∀e∈X,dN g e=aD p c)∧(∀e∈C,dN g e≠aD p c)∧vo g p (c+1)=A++bQ p (aD p c)++C:=by
 have hm:=an h.1
 obtain ⟨hi,dM,_⟩:=bV hm h.2.1 (k:=c) (by omega) fun j hj=>h.2.2 j (by omega)
 obtain ⟨x0,x1⟩:=bK h.2.1 hc
 have hR:ak g (fK g p c) (aD p c)=true:=h.2.2 c hc
 have hpx:=bS h.2.1 x0 x1
 have hab:=qN (g:=g) (x:=aD p c) (o:=bQ p (aD p c)) fun i hi=>(bu.1 (hpx.mem_iff.1 hi)).1.1
 have hmap:(fY (aF g (aD p c) (bQ p (aD p c)))).map (·.1)=bQ p (aD p c):=by
  rw [hab,List.map_map]
  have e7:((fun t:It=>t.1) ∘ dJ g (aD p c))=id:=rfl
  rw [e7,List.map_id]
 have hd:∀t∈fY (fK g p c).row,dN g t.1=t.2.2:=fun t ht=>(jT (p:=p) hm hi dM ht).2.2
 have AO:fK g p (c+1)=(az g (fK g p c) (aD p c) (bQ p (aD p c))).2:=rfl
 by_cases hn:aQ g (aD p c)=0
 ·have hno:=gO hm hi.todR x0 hn
  have hrow:(fK g p c).row= []:=by
   rcases hi.src with h|⟨s,hs,hs0⟩
   ·exact h.2
   ·have:=jO h.1 (hi.qB s hs) ⟨x0,x1⟩ hs0 hn
    exact absurd (by rw [← dM, ← this];exact hs) (xA h.2.1 hc)
  refine ⟨[], [], [],by simp [vo,hrow,fY],by simp,by simp,by simp, ?_⟩
  rw [vo,AO,eS _ hno,hrow]
  simpa using hmap
 ·obtain ⟨a,X,b,e,ha,hb,hX,_,hs⟩:=AH hm hi.todR hR hn
  refine ⟨a.map (·.1),X.map (·.1),b.map (·.1),by rw [vo,e,List.map_append,List.map_append], ?_, ?_, ?_, ?_⟩
  ·intro q hq
   obtain ⟨t,ht,rfl⟩:=List.mem_map.1 hq
   rw [hd t (by rw [e];simp [ht])];exact ha t ht
  ·intro q hq
   obtain ⟨t,ht,rfl⟩:=List.mem_map.1 hq
   rw [hd t (by rw [e];simp [ht])];exact hX t ht
  ·intro q hq
   obtain ⟨t,ht,rfl⟩:=List.mem_map.1 hq
   rw [hd t (by rw [e];simp [ht])];exact hb t ht
  ·rw [vo,AO,hs,List.map_append,List.map_append,hmap]
theorem AQ (h:aR g p):∀ {c:Nat},c≤g.n.toNat→∀e,kU g p c e→e∈vo g p c
 |0,_,e,he=>by have:=he.low;simp at this
 |c+1,hc,e,he=>by
  obtain ⟨A,X,C,e1,hA,hX,hC,e2⟩:=je h (c:=c) (by omega)
  have hnext:=gP h.2.1 (k:=c) (by omega)
  have hl:=he.low
  have ht:=he.top
  rw [hnext,List.mem_append,List.mem_singleton] at hl ht
  rw [e2]
  rcases hl with hl|hl
  ·have:=AQ h (c:=c) (by omega) e ⟨he.e0,he.e1,hl,fun h=>ht (.inl h)⟩
   rw [e1,List.mem_append,List.mem_append] at this
   rcases this with (h1|h1)|h1
   ·simp [h1]
   ·exact absurd (hX e h1) fun h=>ht (.inr h)
   ·simp [h1]
  ·obtain ⟨x0,x1⟩:=bK h.2.1 (k:=c) (by omega)
   have:e∈bQ p (aD p c):=(bS h.2.1 x0 x1).mem_iff.2 (bu.2 ⟨⟨he.e0,he.e1⟩,hl⟩)
   simp [this]
end
def wg (g:Gr) (bs:List Int) (i:Int):Int:=g.n+(bs.idxOf i:Nat)
def iw (g:Gr) (bs:List Int):List Edge:=
 ((List.range g.es.length).map fun i:Nat=>(tl g i,if (i:Int)∈bs then wg g bs i else hd g i))++(List.range bs.length).map fun k:Nat=>(g.n+(k:Int),dN g (bs.getD k 0))
def aO (g:Gr) (bs:List Int):Gr:=⟨g.n+bs.length,iw g bs⟩
structure sn (g:Gr) (bs:List Int):Prop where
 nd:bs.Nodup
 qB:∀i∈bs,0≤i∧i<g.es.length
section
variable {g:Gr} {bs:List Int}
theorem gT:(aO g bs).es.length=g.es.length+bs.length:=by simp [aO,iw]
theorem cG {e:Int} (h0:0≤e) (h1:e<g.es.length):fe (aO g bs) e=fe g e∧dN (aO g bs) e=if e∈bs then wg g bs e else dN g e:=by
 have hl:e.toNat<g.es.length:=by omega
 have:(aO g bs).es.getD e.toNat (0,0)=(tl g e.toNat,if ((e.toNat:Nat):Int)∈bs then wg g bs ((e.toNat:Nat):Int) else hd g e.toNat):=by
  simp only [aO,iw]
  rw [List.getD_eq_getElem?_getD,List.getElem?_append_left (by simpa using hl),List.getElem?_map,List.getElem?_range hl]
  rfl
 rw [show ((e.toNat:Nat):Int)=e by omega] at this
 exact ⟨by unfold fe;rw [this];rfl,by unfold dN;rw [this];rfl⟩
theorem gq {k:Nat} (h:k<bs.length):fe (aO g bs) ((g.es.length+k:Nat):Int)=g.n+(k:Int)∧dN (aO g bs) ((g.es.length+k:Nat):Int)=dN g (bs.getD k 0):=by
 have:(aO g bs).es.getD (g.es.length+k) (0,0)=(g.n+(k:Int),dN g (bs.getD k 0)):=by
  simp only [aO,iw]
  rw [List.getD_eq_getElem?_getD,List.getElem?_append_right (by simp),List.length_map,List.length_range,Nat.add_sub_cancel_left,List.getElem?_map,List.getElem?_range h]
  rfl
 exact ⟨by unfold fe;rw [Int.toNat_natCast,this],by unfold dN;rw [Int.toNat_natCast,this];rfl⟩
def B8 (g:Gr) (bs:List Int) (e:Int):Int:=if e<g.es.length then e else bs.getD (e - g.es.length).toNat 0
def EI (g:Gr) (bs:List Int) (u:Int):Int:=if u<g.n then u else fe g (bs.getD (u - g.n).toNat 0)
theorem dL (hb:sn g bs) {i:Int} (hi:i∈bs):g.n≤wg g bs i∧wg g bs i<g.n+bs.length∧EI g bs (wg g bs i)=fe g i∧bs.getD (wg g bs i - g.n).toNat 0=i:=by
 obtain ⟨h1,h2⟩:=vm hi
 have e:(wg g bs i - g.n).toNat=bs.idxOf i:=by unfold wg;omega
 refine ⟨by unfold wg;omega,by unfold wg;omega, ?_,by rw [e,h2]⟩
 unfold EI
 rw [if_neg (by unfold wg;omega),e,h2]
end
structure Hs (g:Gr) (p:Pl) (bs:List Int) (q:Pl):Prop where
 len:q.outs.length=(g.n+bs.length).toNat
 J0:∀x:Nat,x<g.n.toNat→q.outs.getD x []=p.outs.getD x []
 Ht:∀k:Nat,k<bs.length→q.outs.getD (g.n.toNat+k) []= [((g.es.length+k:Nat):Int)]
 perm:q.ord.Perm (eC (g.n+bs.length).toNat)
 sort:q.ord.Pairwise fun u v=>p.ord.idxOf (EI g bs u)<p.ord.idxOf (EI g bs v)∨EI g bs u=EI g bs v∧u<v
theorem sq {A B:List Int} {u:Int} (h:u∈A):(A++B).idxOf u=A.idxOf u∧A.idxOf u<A.length:=⟨by rw [yR,if_pos h],List.idxOf_lt_length_iff.2 h⟩
theorem iM {A B:List Int} {u:Int} (hn:(A++B).Nodup) (h:u∈B):(A++B).idxOf u=A.length+B.idxOf u∧B.idxOf u<B.length:=
 ⟨by rw [yR,if_neg fun ha=>(List.nodup_append.1 hn).2.2 u ha u h rfl],List.idxOf_lt_length_iff.2 h⟩
theorem vp {g:Gr} {p:Pl} (h:aR g p) {e:Int} (h0:0≤e) (h1:e<g.es.length):p.ord.idxOf (fe g e)<p.ord.idxOf (dN g e):=by
 have hm:=an h.1
 have bY:=cP h.2.1
 have hl:=aS h.2.1
 obtain ⟨k,hk,ek⟩:=gQ h.2.1 (bF hm (i:=e.toNat) (by omega)).1 (bF hm (i:=e.toNat) (by omega)).2
 obtain ⟨hi,dM,_⟩:=bV hm h.2.1 (k:=k) (by omega) fun j hj=>h.2.2 j (by omega)
 obtain ⟨t,ht,e1,e2,_⟩:=uR hm hi (h.2.2 k hk) (i:=e.toNat) (by omega) ek.symm
 have hin:=hi.tail t ht (by omega)
 rw [dM,e2] at hin
 obtain ⟨j,j1,j2,j3⟩:=kX hin
 have a1:p.ord.idxOf (tl g e.toNat)=j:=by rw [← j3];exact gn bY j2
 have a2:p.ord.idxOf (hd g e.toNat)=k:=by rw [← ek];exact gn bY (by omega)
 show p.ord.idxOf (tl g e.toNat)<p.ord.idxOf (hd g e.toNat)
 omega
def LO (g:Gr) (p:Pl) (bs:List Int) (u v:Int):Prop:=p.ord.idxOf (EI g bs u)<p.ord.idxOf (EI g bs v)∨EI g bs u=EI g bs v∧u<v
def gr (g:Gr) (q:Pl) (k:Nat):Nat:=((q.ord.take k).filter fun u=>decide (u<g.n)).length
section
variable {g:Gr} {p:Pl} {bs:List Int} {q:Pl} (h:aR g p) (hb:sn g bs) (hq:Hs g p bs q)
include h hb hq
theorem Hu:(aO g bs).n.toNat=g.n.toNat+bs.length:=by
 have hn:=aH (an h.1)
 show (g.n+(bs.length:Int)).toNat=_
 omega
theorem cW {e:Int} (h0:0≤e) (h1:e<(aO g bs).es.length):(e<g.es.length∧B8 g bs e=e)∨∃k:Nat,k<bs.length∧e=((g.es.length+k:Nat):Int)∧B8 g bs e=bs.getD k 0∧bs.getD k 0∈bs∧fe (aO g bs) e=wg g bs (bs.getD k 0):=by
 rw [gT] at h1
 by_cases hlt:e<g.es.length
 ·exact .inl ⟨hlt,if_pos hlt⟩
 ·refine .inr ⟨(e - g.es.length).toNat,by omega,by omega,by unfold B8;rw [if_neg hlt],aE (by omega), ?_⟩
  have hk:(e - g.es.length).toNat<bs.length:=by omega
  have:=(gq (g:=g) hk).1
  rw [show ((g.es.length+(e - g.es.length).toNat:Nat):Int)=e by omega] at this
  rw [this]
  unfold wg
  rw [gn hb.nd hk]
theorem iN {u:Int} (hu:u<g.n):EI g bs u=u:=if_pos hu
theorem jB:aX (aO g bs) q:=by
 have hm:=an h.1
 have hn:=aH hm
 have hN:=Hu h hb hq
 refine ⟨by rw [hq.len];rfl,hq.perm,fun x hx=> ?_⟩
 rw [hN] at hx
 by_cases CS:x<g.n.toNat
 ·rw [hq.J0 x CS]
  have hp:=h.2.1.2.2 x CS
  refine (List.perm_ext_iff_of_nodup (hp.nodup_iff.2 cJ) cJ).2 fun e=> ?_
  rw [hp.mem_iff]
  show e∈aK (·.1) g.es g.es.length (x:Int)↔e∈aK (·.1) (aO g bs).es (aO g bs).es.length (x:Int)
  rw [bu,bu]
  constructor
  ·rintro ⟨⟨h0,h1⟩,h2⟩
   exact ⟨⟨h0,by rw [gT];omega⟩,(cG h0 h1).1.trans h2⟩
  ·rintro ⟨⟨h0,h1⟩,h2⟩
   rcases cW h hb hq h0 h1 with ⟨h3,_⟩|⟨k,h3,_,_,h4,h5⟩
   ·exact ⟨⟨h0,h3⟩,(cG h0 h3).1.symm.trans h2⟩
   ·have:=(dL hb h4).1
    have h2:fe (aO g bs) e=x:=h2
    omega
 ·obtain ⟨k,rfl⟩:∃k,x=g.n.toNat+k:=⟨x - g.n.toNat,by omega⟩
  have hk:k<bs.length:=by omega
  rw [hq.Ht k hk]
  refine (List.perm_ext_iff_of_nodup (by simp) cJ).2 fun e=> ?_
  rw [List.mem_singleton]
  show _↔e∈aK (·.1) (aO g bs).es (aO g bs).es.length ((g.n.toNat+k:Nat):Int)
  rw [bu]
  have hnew:=gq (g:=g) hk
  constructor
  ·rintro rfl
   exact ⟨⟨by omega,by rw [gT];omega⟩,by have:fe (aO g bs) ((g.es.length+k:Nat):Int)=((g.n.toNat+k:Nat):Int):=by {rw [hnew.1];omega};exact this⟩
  ·rintro ⟨⟨h0,h1⟩,h2⟩
   have h2:fe (aO g bs) e=((g.n.toNat+k:Nat):Int):=h2
   rcases cW h hb hq h0 h1 with ⟨h3,_⟩|⟨j,h3,h6,_,h4,h5⟩
   ·have:=(cG (bs:=bs) h0 h3).1
    have:=bg hm (i:=e.toNat) (by omega)
    have e3:fe g e=tl g e.toNat:=rfl
    omega
   ·unfold wg at h5
    rw [gn hb.nd h3] at h5
    have:j=k:=by omega
    rw [h6,this]
theorem J1 {e:Int} (h0:0≤e) (h1:e<(aO g bs).es.length):LO g p bs (fe (aO g bs) e) (dN (aO g bs) e):=by
 have hm:=an h.1
 have tr:=fun (i:Int) (a:0≤i) (b:i<g.es.length)=>show 0≤fe g i∧fe g i<g.n from bg hm (i:=i.toNat) (by omega)
 have hr:=fun (i:Int) (a:0≤i) (b:i<g.es.length)=>show 0≤dN g i∧dN g i<g.n from bF hm (i:=i.toNat) (by omega)
 rcases cW h hb hq h0 h1 with ⟨h3,_⟩|⟨k,h3,h6,_,h4,h5⟩
 ·obtain ⟨r1,r2⟩:=cG (g:=g) (bs:=bs) h0 h3
  rw [r1,r2]
  have t0:fe g e<g.n:=(tr e h0 h3).2
  by_cases hin:e∈bs
  ·rw [if_pos hin]
   obtain ⟨n1,_,n3,_⟩:=dL hb hin
   exact .inr ⟨by rw [n3];exact iN h hb hq t0,by omega⟩
  ·rw [if_neg hin]
   left
   rw [iN h hb hq t0,iN h hb hq (hr e h0 h3).2]
   exact vp h h0 h3
 ·rw [h5]
  obtain ⟨b0,b1⟩:=hb.qB _ h4
  obtain ⟨n1,_,n3,_⟩:=dL hb h4
  have:=(gq (g:=g) h3).2
  rw [← h6] at this
  rw [this]
  left
  rw [n3,iN h hb hq (hr _ b0 b1).2]
  exact vp h b0 b1
theorem Li {j k:Nat} (hj:j<k) (hk:k<(aO g bs).n.toNat):LO g p bs (aD q j) (aD q k):=by
 have hl:=aS (jB h hb hq)
 have:=List.pairwise_iff_getElem.1 hq.sort j k (by omega) (by omega) hj
 rw [aD,aD,List.getD_eq_getElem?_getD,List.getD_eq_getElem?_getD,List.getElem?_eq_getElem (by omega),List.getElem?_eq_getElem (by omega)]
 exact this
theorem qc {u:Int} (h0:0≤u) (h1:u<(aO g bs).n) {k:Nat} (hk:k<(aO g bs).n.toNat) (hR:LO g p bs u (aD q k)):u∈q.ord.take k:=by
 obtain ⟨j,hj,rfl⟩:=gQ (jB h hb hq) h0 h1
 refine xz (Decidable.byContradiction fun hn=> ?_) (by rw [aS (jB h hb hq)];exact hj)
 by_cases e:j=k
 ·subst e
  unfold LO at hR;omega
 ·have h8:=Li h hb hq (j:=k) (k:=j) (by omega) hj
  unfold LO at hR h8
  rcases hR with h9|⟨h9,QZ⟩
  ·rcases h8 with PR|⟨PR,_⟩
   ·omega
   ·rw [PR] at h9;omega
  ·rw [h9] at h8;omega
theorem xB {u v:Int} (h0:0≤u) (h1:u<(aO g bs).n) {k:Nat} (hk:k≤(aO g bs).n.toNat) (hv:v∈q.ord.take k) (hR:LO g p bs u v):u∈q.ord.take k:=by
 obtain ⟨j,j1,j2,rfl⟩:=kX hv
 obtain ⟨i,i1,i2,i3⟩:=kX (qc h hb hq h0 h1 (k:=j) (by omega) hR)
 rw [← i3]
 exact xz (by omega) i2
theorem B9:(q.ord.filter fun u=>decide (u<g.n))=p.ord:=by
 have hn:=aH (an h.1)
 have hN:=Hu h hb hq
 have bY:=cP h.2.1
 have hl:=aS h.2.1
 refine EH (R:=fun u v=>p.ord.idxOf u<p.ord.idxOf v) ?_ (fun a b h1 h2=>by omega) ?_ ?_
 ·refine (List.perm_ext_iff_of_nodup ((cP (jB h hb hq)).filter _) bY).2 fun u=> ?_
  rw [List.mem_filter,hq.perm.mem_iff,h.2.1.2.1.mem_iff,dh,dh,decide_eq_true_eq]
  have e:(g.n+(bs.length:Int)).toNat=g.n.toNat+bs.length:=hN
  omega
 ·refine (hq.sort.filter _).imp_of_mem fun {u v} hu hv hR=> ?_
  have hu:=of_decide_eq_true (List.mem_filter.1 hu).2
  have hv:=of_decide_eq_true (List.mem_filter.1 hv).2
  rw [iN h hb hq hu,iN h hb hq hv] at hR
  omega
 ·rw [List.pairwise_iff_getElem]
  intro i j hi hj hij
  have a1:=gn bY hi
  have a2:=gn bY hj
  rw [List.getD_eq_getElem?_getD,List.getElem?_eq_getElem hi,Option.getD_some] at a1
  rw [List.getD_eq_getElem?_getD,List.getElem?_eq_getElem hj,Option.getD_some] at a2
  omega
theorem s5 (k:Nat):((q.ord.take k).filter fun u=>decide (u<g.n))=p.ord.take (gr g q k):=by
 have hpre:((q.ord.take k).filter fun u=>decide (u<g.n))<+:(q.ord.filter fun u=>decide (u<g.n)):=(List.take_prefix k q.ord).filter _
 rw [B9 h hb hq] at hpre
 exact List.prefix_iff_eq_take.1 hpre
theorem jV {u:Int} (hu:u<g.n) (k:Nat):u∈q.ord.take k↔u∈p.ord.take (gr g q k):=by
 rw [← s5 h hb hq k,List.mem_filter]
 simp [hu]
theorem Dh (k:Nat):gr g q k≤g.n.toNat:=by
 have h1:((q.ord.take k).filter fun u=>decide (u<g.n)).length=(p.ord.take (gr g q k)).length:=by rw [s5 h hb hq k]
 have h2:gr g q k=((q.ord.take k).filter fun u=>decide (u<g.n)).length:=rfl
 have hl:=aS h.2.1
 rw [List.length_take] at h1
 omega
theorem vq {k:Nat} (hk:k<(aO g bs).n.toNat) (hx:g.n≤aD q k):gr g q (k+1)=gr g q k:=by
 unfold gr
 rw [gP (jB h hb hq) hk,List.filter_append]
 simp [show ¬aD q k<g.n by omega]
theorem mS {k:Nat} (hk:k<(aO g bs).n.toNat) (hx:aD q k<g.n):gr g q (k+1)=gr g q k+1∧gr g q k<g.n.toNat∧aD p (gr g q k)=aD q k:=by
 have e1:gr g q (k+1)=gr g q k+1:=by
  unfold gr
  rw [gP (jB h hb hq) hk,List.filter_append]
  simp [hx]
 have hc:=Dh h hb hq (k+1)
 refine ⟨e1,by omega, ?_⟩
 have e2:=s5 h hb hq (k+1)
 rw [gP (jB h hb hq) hk,List.filter_append,s5 h hb hq k,e1,gP h.2.1 (by omega)] at e2
 have:=List.append_cancel_left e2
 simpa [hx] using this.symm
theorem Hv {k:Nat} (hk:k≤(aO g bs).n.toNat) {e:Int} (he:kU (aO g bs) q k e):kU g p (gr g q k) (B8 g bs e):=by
 have hm:=an h.1
 have hn:=aH hm
 have tr:=fun (i:Int) (a:0≤i) (b:i<g.es.length)=>show 0≤fe g i∧fe g i<g.n from bg hm (i:=i.toNat) (by omega)
 have hr:=fun (i:Int) (a:0≤i) (b:i<g.es.length)=>show 0≤dN g i∧dN g i<g.n from bF hm (i:=i.toNat) (by omega)
 have hGn:(aO g bs).n=g.n+bs.length:=rfl
 have nM:=he.low
 have wh:=he.top
 rcases cW h hb hq he.e0 he.e1 with ⟨h3,h4⟩|⟨j,h3,h6,h7,h4,h5⟩
 ·obtain ⟨r1,r2⟩:=cG (g:=g) (bs:=bs) he.e0 h3
  rw [h4]
  rw [r1] at nM
  rw [r2] at wh
  refine ⟨he.e0,h3,(jV h hb hq (tr e he.e0 h3).2 k).1 nM,fun hc=> ?_⟩
  have hin:=(jV h hb hq (hr e he.e0 h3).2 k).2 hc
  by_cases qi:e∈bs
  ·rw [if_pos qi] at wh
   obtain ⟨n1,n2,n3,_⟩:=dL hb qi
   refine wh (xB h hb hq (by omega) (by omega) hk hin (.inl ?_))
   rw [n3,iN h hb hq (hr e he.e0 h3).2]
   exact vp h he.e0 h3
  ·rw [if_neg qi] at wh
   exact wh hin
 ·rw [h7]
  obtain ⟨b0,b1⟩:=hb.qB _ h4
  obtain ⟨n1,n2,n3,_⟩:=dL hb h4
  have yS:=(gq (g:=g) h3).2
  rw [← h6] at yS
  rw [yS] at wh
  rw [h5] at nM
  have Ji:=tr _ b0 b1
  refine ⟨b0,b1,(jV h hb hq Ji.2 k).1 (xB h hb hq Ji.1 (by have:=Ji.2;omega) hk nM (.inr ⟨?_, ?_⟩)),fun hc=>wh ((jV h hb hq (hr _ b0 b1).2 k).2 hc)⟩
  ·rw [n3];exact iN h hb hq Ji.2
  ·have:=Ji.2;omega
theorem eX {k:Nat} (hk:k<(aO g bs).n.toNat) (hx:aD q k<g.n) {e:Int} (he:kU (aO g bs) q k e):dN g (B8 g bs e)=aD q k↔dN (aO g bs) e=aD q k:=by
 have hm:=an h.1
 have hn:=aH hm
 have hr:=fun (i:Int) (a:0≤i) (b:i<g.es.length)=>show 0≤dN g i∧dN g i<g.n from bF hm (i:=i.toNat) (by omega)
 have hGn:(aO g bs).n=g.n+bs.length:=rfl
 rcases cW h hb hq he.e0 he.e1 with ⟨h3,h4⟩|⟨j,h3,h6,h7,h4,h5⟩
 ·obtain ⟨r1,r2⟩:=cG (g:=g) (bs:=bs) he.e0 h3
  rw [h4,r2]
  by_cases qi:e∈bs
  ·rw [if_pos qi]
   obtain ⟨n1,n2,n3,_⟩:=dL hb qi
   constructor
   ·intro e2
    have wh:=he.top
    rw [r2,if_pos qi] at wh
    refine absurd (qc h hb hq (by omega) (by omega) hk (.inl ?_)) wh
    rw [n3,iN h hb hq hx, ← e2]
    exact vp h he.e0 h3
   ·intro e2;omega
  ·rw [if_neg qi]
 ·have yS:=(gq (g:=g) h3).2
  rw [← h6] at yS
  rw [h7,yS]
theorem Hw:Hr (aO g bs) q fun k a b=>(vo g p (gr g q k)).idxOf (B8 g bs a)<(vo g p (gr g q k)).idxOf (B8 g bs b):=by
 have hm:=an h.1
 have hn:=aH hm
 have hGn:(aO g bs).n=g.n+bs.length:=rfl
 have sr:=jB h hb hq
 have mem:=fun (k:Nat) (hk:k≤(aO g bs).n.toNat) (e:Int) (he:kU (aO g bs) q k e)=>AQ h (Dh h hb hq k) _ (Hv h hb hq hk he)
 have only:=fun (k:Nat) (hk:k<(aO g bs).n.toNat) (hx:g.n≤aD q k) (e:Int) (he:kU (aO g bs) q k e) (hd:dN (aO g bs) e=aD q k)=>show e∈bs∧wg g bs e=aD q k∧B8 g bs e=e by
  rcases cW h hb hq he.e0 he.e1 with ⟨h3,h4⟩|⟨j,h3,h6,h7,h4,h5⟩
  ·have r2:=(cG (g:=g) (bs:=bs) he.e0 h3).2
   rw [hd] at r2
   by_cases qi:e∈bs
   ·rw [if_pos qi] at r2
    exact ⟨qi,r2.symm,h4⟩
   ·rw [if_neg qi] at r2
    have h8:dN g e<g.n:=(bF hm (i:=e.toNat) (by have:=he.e0;omega)).2
    omega
  ·have yS:=(gq (g:=g) h3).2
   rw [← h6,hd] at yS
   obtain ⟨b0,b1⟩:=hb.qB _ h4
   have h8:dN g (bs.getD j 0)<g.n:=(bF hm (i:=(bs.getD j 0).toNat) (by omega)).2
   omega
 have same:=fun (k:Nat) (hk:k<(aO g bs).n.toNat) (hx:g.n≤aD q k) (e e':Int) (he:kU (aO g bs) q k e) (he':kU (aO g bs) q k e') (hd:dN (aO g bs) e=aD q k) (hd':dN (aO g bs) e'=aD q k)=>show e=e' by
  obtain ⟨a1,a2,_⟩:=only k hk hx e he hd
  obtain ⟨b1,b2,_⟩:=only k hk hx e' he' hd'
  have a3:=(dL hb a1).2.2.2
  have b3:=(dL hb b1).2.2.2
  rw [a2] at a3
  rw [b2] at b3
  rw [← a3,b3]
 have Lj:=fun (k:Nat) (hk:k<(aO g bs).n.toNat) (hx:aD q k<g.n)=>show bQ q (aD q k)=bQ p (aD q k) from hq.J0 _ (by have:=(bK sr hk).1;omega)
 have Ob:=fun (v e:Int) (h0:0≤v) (h1:v<g.n) (he:e∈bQ p v)=>show B8 g bs e=e by
  have:=(bu.1 ((bS h.2.1 h0 h1).mem_iff.1 he)).1.2
  exact if_pos this
 have iO:=fun (k:Nat) (hk:k<(aO g bs).n.toNat) (hx:g.n≤aD q k) (c:Int) (hc:c∈bQ q (aD q k))=>show B8 g bs c=bs.getD (aD q k - g.n).toNat 0 by
  obtain ⟨x0,x1⟩:=bK sr hk
  have hj:(aD q k - g.n).toNat<bs.length:=by omega
  have:=hq.Ht _ hj
  have e:bQ q (aD q k)= [((g.es.length+(aD q k - g.n).toNat:Nat):Int)]:=by
   rw [← this];unfold bQ;congr 1;omega
  rw [e,List.mem_singleton] at hc
  subst hc
  unfold B8
  rw [if_neg (by omega)]
  congr 1;omega
 refine ⟨fun e e0 e1 k hk ek=> ?_,fun k hk a b c ha hb' hc ea ec r1 r2=> ?_,fun k hk a b ha hb' na nb r=> ?_,fun k hk a b c ha hb' na eb hc r=> ?_,fun k hk a b c ha hb' na eb hc r=> ?_,fun k hk=> ?_⟩
 ·have tR:=J1 h hb hq e0 e1
  rw [← ek] at tR
  have xq:0≤fe (aO g bs) e∧fe (aO g bs) e<(aO g bs).n:=by
   rcases cW h hb hq e0 e1 with ⟨h3,h4⟩|⟨j,h3,h6,h7,h4,h5⟩
   ·rw [(cG (g:=g) (bs:=bs) e0 h3).1]
    have h8:0≤fe g e∧fe g e<g.n:=bg hm (i:=e.toNat) (by omega)
    omega
   ·obtain ⟨n1,n2,_⟩:=dL hb h4
    omega
  exact qc h hb hq xq.1 xq.2 hk tR
 ·by_cases hx:aD q k<g.n
  ·obtain ⟨c1,c2,c3⟩:=mS h hb hq hk hx
   obtain ⟨A,X,C,e1,hA,hX,hC,_⟩:=je h c2
   have bY:=jU h (c:=gr g q k) (by omega)
   have ma:=mem k (by omega) a ha
   have mb:=mem k (by omega) b hb'
   have mc:=mem k (by omega) c hc
   have da:=(eX h hb hq hk hx ha).2 ea
   have dc:=(eX h hb hq hk hx hc).2 ec
   refine (eX h hb hq hk hx hb').1 ?_
   rw [c3] at hA hX hC
   rw [e1] at ma mb mc r1 r2 bY
   have PW:B8 g bs a∈X:=by
    rcases List.mem_append.1 ma with h1|h1
    ·rcases List.mem_append.1 h1 with h1|h1
     ·exact absurd da (hA _ h1)
     ·exact h1
    ·exact absurd da (hC _ h1)
   have CU:B8 g bs c∈X:=by
    rcases List.mem_append.1 mc with h1|h1
    ·rcases List.mem_append.1 h1 with h1|h1
     ·exact absurd dc (hA _ h1)
     ·exact h1
    ·exact absurd dc (hC _ h1)
   rw [List.append_assoc] at r1 r2 mb bY
   have S9:(X++C).Nodup:=(List.nodup_append.1 bY).2.1
   obtain ⟨i1,_⟩:=iM (A:=A) (B:=X++C) bY (List.mem_append_left C PW)
   obtain ⟨i2,_⟩:=iM (A:=A) (B:=X++C) bY (List.mem_append_left C CU)
   obtain ⟨i3,i4⟩:=sq (A:=X) (B:=C) CU
   rcases List.mem_append.1 mb with h1|h1
   ·obtain ⟨i5,i6⟩:=sq (A:=A) (B:=X++C) h1
    omega
   ·rcases List.mem_append.1 h1 with h2|h2
    ·exact hX _ h2
    ·obtain ⟨i5,_⟩:=iM (A:=A) (B:=X++C) bY h1
     obtain ⟨i7,_⟩:=iM (A:=X) (B:=C) S9 h2
     omega
  ·have:=same k hk (by omega) a c ha hc ea ec
   subst this
   omega
 ·by_cases hx:aD q k<g.n
  ·obtain ⟨c1,c2,c3⟩:=mS h hb hq hk hx
   obtain ⟨A,X,C,e1,hA,hX,hC,e2⟩:=je h c2
   have bY:=jU h (c:=gr g q k) (by omega)
   have fX:=jU h (c:=gr g q k+1) (by omega)
   have ma:=mem k (by omega) a ha
   have mb:=mem k (by omega) b hb'
   have da:=fun e=>na ((eX h hb hq hk hx ha).1 e)
   have db:=fun e=>nb ((eX h hb hq hk hx hb').1 e)
   rw [c1,e2]
   rw [c3] at hA hX hC
   rw [e2] at fX
   rw [e1] at ma mb r bY
   rw [List.append_assoc] at r ma mb bY fX ⊢
   have Oc:(X++C).Nodup:=(List.nodup_append.1 bY).2.1
   have LP:=(List.nodup_append.1 fX).2.1
   have sp:∀u,u∈A++(X++C)→dN g u≠aD q k→u∈A∨u∈C:=fun u hu hne=>by
    rcases List.mem_append.1 hu with h1|h1
    ·exact .inl h1
    ·rcases List.mem_append.1 h1 with h2|h2
     ·exact absurd (hX _ h2) hne
     ·exact .inr h2
   rcases sp _ ma da with h1|h1<;>rcases sp _ mb db with h2|h2
   ·rw [(sq h1).1,(sq h2).1] at r ⊢
    exact r
   ·have i1:=sq (B:=bQ p (aD p (gr g q k))++C) h1
    have i2:=iM fX (List.mem_append_right _ h2)
    omega
   ·have i1:=sq (B:=X++C) h2
    have i2:=iM bY (List.mem_append_right X h1)
    omega
   ·have i1:=iM bY (List.mem_append_right X h1)
    have i2:=iM bY (List.mem_append_right X h2)
    have i3:=iM Oc h1
    have i4:=iM Oc h2
    have j1:=iM fX (List.mem_append_right (bQ p (aD p (gr g q k))) h1)
    have j2:=iM fX (List.mem_append_right (bQ p (aD p (gr g q k))) h2)
    have j3:=iM LP h1
    have j4:=iM LP h2
    omega
  ·rw [vq h hb hq hk (by omega)];exact r
 ·by_cases hx:aD q k<g.n
  ·obtain ⟨c1,c2,c3⟩:=mS h hb hq hk hx
   obtain ⟨A,X,C,e1,hA,hX,hC,e2⟩:=je h c2
   have bY:=jU h (c:=gr g q k) (by omega)
   have fX:=jU h (c:=gr g q k+1) (by omega)
   have ma:=mem k (by omega) a ha
   have mb:=mem k (by omega) b hb'
   have da:=fun e=>na ((eX h hb hq hk hx ha).1 e)
   have db:=(eX h hb hq hk hx hb').2 eb
   rw [Lj k hk hx] at hc
   rw [Ob _ c (bK sr hk).1 hx hc]
   rw [c1,e2]
   rw [c3] at hA hX hC ⊢
   rw [e2] at fX
   rw [e1] at ma mb r bY
   rw [List.append_assoc] at r ma mb bY fX ⊢
   rw [c3] at fX
   have Oc:(X++C).Nodup:=(List.nodup_append.1 bY).2.1
   have hb2:B8 g bs b∈X:=by
    rcases List.mem_append.1 mb with h1|h1
    ·exact absurd db (hA _ h1)
    ·rcases List.mem_append.1 h1 with h1|h1
     ·exact h1
     ·exact absurd db (hC _ h1)
   have i2:=iM bY (List.mem_append_left C hb2)
   have i3:=sq (B:=C) hb2
   have j2:=iM fX (List.mem_append_left C hc)
   rcases List.mem_append.1 ma with h1|h1
   ·have j1:=sq (B:=bQ p (aD q k)++C) h1
    omega
   ·rcases List.mem_append.1 h1 with h2|h2
    ·exact absurd (hX _ h2) da
    ·have i1:=iM bY h1
     have i4:=iM Oc h2
     omega
  ·have hx:g.n≤aD q k:=by omega
   obtain ⟨a1,a2,a3⟩:=only k hk hx b hb' eb
   have a4:=(dL hb a1).2.2.2
   rw [a2] at a4
   rw [vq h hb hq hk hx,iO k hk hx c hc,a4, ← a3]
   exact r
 ·by_cases hx:aD q k<g.n
  ·obtain ⟨c1,c2,c3⟩:=mS h hb hq hk hx
   obtain ⟨A,X,C,e1,hA,hX,hC,e2⟩:=je h c2
   have bY:=jU h (c:=gr g q k) (by omega)
   have fX:=jU h (c:=gr g q k+1) (by omega)
   have ma:=mem k (by omega) a ha
   have mb:=mem k (by omega) b hb'
   have da:=fun e=>na ((eX h hb hq hk hx ha).1 e)
   have db:=(eX h hb hq hk hx hb').2 eb
   rw [Lj k hk hx] at hc
   rw [Ob _ c (bK sr hk).1 hx hc]
   rw [c1,e2]
   rw [c3] at hA hX hC ⊢
   rw [e2] at fX
   rw [e1] at ma mb r bY
   rw [List.append_assoc] at r ma mb bY fX ⊢
   rw [c3] at fX
   have LP:=(List.nodup_append.1 fX).2.1
   have hb2:B8 g bs b∈X:=by
    rcases List.mem_append.1 mb with h1|h1
    ·exact absurd db (hA _ h1)
    ·rcases List.mem_append.1 h1 with h1|h1
     ·exact h1
     ·exact absurd db (hC _ h1)
   have i2:=iM bY (List.mem_append_left C hb2)
   have j2:=iM fX (List.mem_append_left C hc)
   have j3:=sq (B:=C) hc
   rcases List.mem_append.1 ma with h1|h1
   ·have i1:=sq (B:=X++C) h1
    omega
   ·rcases List.mem_append.1 h1 with h2|h2
    ·exact absurd (hX _ h2) da
    ·have j1:=iM fX (List.mem_append_right (bQ p (aD q k)) h2)
     have j4:=iM LP h2
     omega
  ·have hx:g.n≤aD q k:=by omega
   obtain ⟨a1,a2,a3⟩:=only k hk hx b hb' eb
   have a4:=(dL hb a1).2.2.2
   rw [a2] at a4
   rw [vq h hb hq hk hx,iO k hk hx c hc,a4, ← a3]
   exact r
 ·by_cases hx:aD q k<g.n
  ·obtain ⟨c1,c2,c3⟩:=mS h hb hq hk hx
   obtain ⟨A,X,C,_,_,_,_,e2⟩:=je h c2
   have fX:=jU h (c:=gr g q k+1) (by omega)
   rw [Lj k hk hx,c1,e2]
   rw [e2,List.append_assoc] at fX
   rw [List.append_assoc]
   rw [c3] at fX ⊢
   have LP:=(List.nodup_append.1 fX).2.1
   have Rh:=(List.nodup_append.1 LP).1
   rw [List.pairwise_iff_getElem]
   intro i j hi hj hij
   have m1:(bQ p (aD q k))[i]∈bQ p (aD q k):=List.getElem_mem hi
   have m2:(bQ p (aD q k))[j]∈bQ p (aD q k):=List.getElem_mem hj
   rw [Ob _ _ (bK sr hk).1 hx m1,Ob _ _ (bK sr hk).1 hx m2]
   have j1:=iM fX (List.mem_append_left C m1)
   have j2:=iM fX (List.mem_append_left C m2)
   have j3:=sq (B:=C) m1
   have j4:=sq (B:=C) m2
   have a1:=gn Rh hi
   have a2:=gn Rh hj
   rw [List.getD_eq_getElem?_getD,List.getElem?_eq_getElem hi,Option.getD_some] at a1
   rw [List.getD_eq_getElem?_getD,List.getElem?_eq_getElem hj,Option.getD_some] at a2
   omega
  ·have hx:g.n≤aD q k:=by omega
   obtain ⟨x0,x1⟩:=bK sr hk
   have hj:(aD q k - g.n).toNat<bs.length:=by omega
   have:=hq.Ht _ hj
   have e:bQ q (aD q k)= [((g.es.length+(aD q k - g.n).toNat:Nat):Int)]:=by
    rw [← this];unfold bQ;congr 1;omega
   rw [e]
   exact List.pairwise_singleton ..
theorem Hy (hG:(bR (aO g bs)).1=0):aR (aO g bs) q:=EG hG (jB h hb hq) (Hw h hb hq)
end
end Go.Ab
end
section
namespace Go.Ab
open Go.Proofs
set_option maxRecDepth 10000
set_option linter.unusedSectionVars false
theorem Jj {G:Gr} (hm:aM G=true) (φ:Int→Nat) (up:∀i,i<G.es.length→φ (tl G i)<φ (hd G i)) (tw:∀i k,i<G.es.length→k<G.es.length→i≠k→G.es.getD i (0,0)≠G.es.getD k (0,0)) (s:Int)
 (src:∀y,0≤y→y<G.n→(∀i,i<G.es.length→hd G i≠y)→y=s):(bR G).1=0:=by
 have Hl:CW G=true:=(sY hm).2 ⟨φ,up⟩
 have Ho:¬0≤js G:=fun hl=>by
  have h1:=fL (fun e:Edge=>decide (e.1=e.2)) G.es
  have h0:decide (0≤bX (fun e:Edge=>decide (e.1=e.2)) G.es)=true:=decide_eq_true hl
  rw [h0] at h1
  obtain ⟨e,he,h2⟩:=List.any_eq_true.1 h1.symm
  obtain ⟨i,hi,rfl⟩:=List.mem_iff_getElem.1 he
  have h3:tl G i=hd G i:=by simpa [tl,hd,List.getD_eq_getElem?_getD,List.getElem?_eq_getElem hi] using h2
  have:=up i hi
  rw [h3] at this
  omega
 have GF:¬0≤dY G:=fun ht=>by
  obtain ⟨i,k,hi,hk,hik,e⟩:=(jc _).1 ht
  exact tw i k hi hk hik e
 have Hp:¬1<(bN (·.2) G).length:=fun hb=>by
  have hs:∀y∈bN (·.2) G,y=s:=fun y hy=>by
   obtain ⟨⟨y0,y1⟩,y2⟩:=nw.1 hy
   refine src y y0 y1 fun i hi e=> ?_
   have:=nv (g:=G) (e:=(i:Int)) (by omega) (by omega)
   rw [Int.toNat_natCast,show (G.es.getD i (0,0)).2=y from e] at this
   omega
  have:=yP eD hs
  omega
 unfold bR fS
 rw [if_neg (by simp [hm]),if_neg Ho,if_neg GF,if_neg (by rw [yO hm Hl];simp),if_neg Hp]
theorem Ca {g:Gr} (h:(bR g).1=0) {i k:Nat} (hi:i<g.es.length) (hk:k<g.es.length) (e:g.es.getD i (0,0)=g.es.getD k (0,0)):i=k:=by
 refine Decidable.byContradiction fun hik=> ?_
 have hgt:¬0≤dY g:=by
  unfold bR fS at h
  intro h2
  split at h
  ·cases h
  split at h
  ·cases h
  cases h
 exact hgt ((jc g).2 ⟨i,k,hi,hk,hik,e⟩)
section
variable {g:Gr} {p:Pl} {bs:List Int} {q:Pl} (h:aR g p) (hb:sn g bs) (hq:Hs g p bs q) (hs1:g.n+bs.length≤64) (xT:g.es.length+bs.length≤128)
include h hb hq hs1 xT
theorem Jk:aM (aO g bs)=true:=by
 have hm:=an h.1
 have hn:=aH hm
 have hGn:(aO g bs).n=g.n+bs.length:=rfl
 simp only [aM,Bool.and_eq_true,decide_eq_true_eq,Bool.not_eq_true',List.any_eq_false]
 refine ⟨⟨⟨by omega,by omega⟩,by rw [gT];omega⟩,fun e he=> ?_⟩
 simp only [om,um,Bool.or_eq_true,decide_eq_true_eq,not_or]
 obtain ⟨i,hi,rfl⟩:=List.mem_iff_getElem.1 he
 have e0:(aO g bs).es.getD i (0,0)=(aO g bs).es[i]:=by rw [List.getD_eq_getElem?_getD,List.getElem?_eq_getElem hi];rfl
 have et:((aO g bs).es[i]).1=fe (aO g bs) (i:Int):=by unfold fe;rw [Int.toNat_natCast,e0]
 have eh:((aO g bs).es[i]).2=dN (aO g bs) (i:Int):=by unfold dN;rw [Int.toNat_natCast,e0]
 rw [et,eh]
 rcases cW h hb hq (e:=(i:Int)) (by omega) (by omega) with ⟨h3,h4⟩|⟨j,h3,h6,h7,h4,h5⟩
 ·obtain ⟨r1,r2⟩:=cG (g:=g) (bs:=bs) (e:=(i:Int)) (by omega) h3
  have t0:0≤fe g i∧fe g i<g.n:=bg hm (i:=i) (by omega)
  have d0:0≤dN g i∧dN g i<g.n:=bF hm (i:=i) (by omega)
  rw [r1,r2]
  by_cases qi:(i:Int)∈bs
  ·rw [if_pos qi]
   obtain ⟨n1,n2,_⟩:=dL hb qi
   omega
  ·rw [if_neg qi];omega
 ·obtain ⟨b0,b1⟩:=hb.qB _ h4
  obtain ⟨n1,n2,_⟩:=dL hb h4
  have d0:0≤dN g (bs.getD j 0)∧dN g (bs.getD j 0)<g.n:=bF hm (i:=(bs.getD j 0).toNat) (by omega)
  have yS:=(gq (g:=g) h3).2
  rw [← h6] at yS
  rw [h5,yS]
  omega
theorem Lk {i k:Int} (LI:0≤i) (hi1:i<(aO g bs).es.length) (Bj:0≤k) (y4:k<(aO g bs).es.length) (e1:fe (aO g bs) i=fe (aO g bs) k) (e2:dN (aO g bs) i=dN (aO g bs) k):i=k:=by
 have hm:=an h.1
 have tr:=fun (i:Int) (a:0≤i) (b:i<g.es.length)=>show 0≤fe g i∧fe g i<g.n from bg hm (i:=i.toNat) (by omega)
 have hr:=fun (i:Int) (a:0≤i) (b:i<g.es.length)=>show 0≤dN g i∧dN g i<g.n from bF hm (i:=i.toNat) (by omega)
 rcases cW h hb hq LI hi1 with ⟨h3,h4⟩|⟨j,h3,h6,h7,h4,h5⟩
 ·obtain ⟨r1,r2⟩:=cG (g:=g) (bs:=bs) LI h3
  have t0:=tr i LI h3
  rcases cW h hb hq Bj y4 with ⟨g3,g4⟩|⟨j',g3,g6,g7,g4,g5⟩
  ·obtain ⟨s1,s2⟩:=cG (g:=g) (bs:=bs) Bj g3
   rw [r1,s1] at e1
   rw [r2,s2] at e2
   by_cases LQ:i∈bs
   ·by_cases gv:k∈bs
    ·rw [if_pos LQ,if_pos gv] at e2
     have a1:=(dL hb LQ).2.2.2
     have a2:=(dL hb gv).2.2.2
     rw [e2] at a1
     rw [← a1,a2]
    ·rw [if_pos LQ,if_neg gv] at e2
     have:=(dL hb LQ).1
     have:=hr k Bj g3
     omega
   ·by_cases gv:k∈bs
    ·rw [if_neg LQ,if_pos gv] at e2
     have:=(dL hb gv).1
     have:=hr i LI h3
     omega
    ·rw [if_neg LQ,if_neg gv] at e2
     have:=Ca h.1 (i:=i.toNat) (k:=k.toNat) (by omega) (by omega) (Prod.ext e1 e2)
     omega
  ·have:=(dL hb g4).1
   omega
 ·rcases cW h hb hq Bj y4 with ⟨g3,g4⟩|⟨j',g3,g6,g7,g4,g5⟩
  ·have:=(dL hb h4).1
   have:=(cG (g:=g) (bs:=bs) Bj g3).1
   have:=tr k Bj g3
   omega
  ·rw [h5,g5] at e1
   have a1:=gn hb.nd h3
   have a2:=gn hb.nd g3
   unfold wg at e1
   have:j=j':=by omega
   rw [h6,g6,this]
theorem AS:(bR (aO g bs)).1=0:=by
 have hm:=an h.1
 have hn:=aH hm
 have xq:=Jk h hb hq hs1 xT
 have hGn:(aO g bs).n=g.n+bs.length:=rfl
 have sr:=jB h hb hq
 have Ns:=cP sr
 have DF:=aS sr
 refine Jj xq (fun v=>q.ord.idxOf v) (fun i hi=> ?_) (fun i k hi hk hik e=>hik ?_) (aD p 0) (fun y y0 y1 hy=> ?_)
 ·have hR:=J1 h hb hq (e:=(i:Int)) (by omega) (by omega)
  have e1:fe (aO g bs) (i:Int)=tl (aO g bs) i:=rfl
  have e2:dN (aO g bs) (i:Int)=hd (aO g bs) i:=rfl
  rw [e1,e2] at hR
  obtain ⟨t0,t1⟩:=bg xq hi
  obtain ⟨d0,d1⟩:=bF xq hi
  obtain ⟨k,hk,ek⟩:=gQ sr d0 d1
  rw [← ek] at hR
  obtain ⟨j,j1,j2,j3⟩:=kX (qc h hb hq t0 t1 hk hR)
  have a1:q.ord.idxOf (tl (aO g bs) i)=j:=by rw [← j3];exact gn Ns j2
  have a2:q.ord.idxOf (hd (aO g bs) i)=k:=by rw [← ek];exact gn Ns (by omega)
  omega
 ·have e1:fe (aO g bs) (i:Int)=fe (aO g bs) (k:Int):=by unfold fe;simp only [Int.toNat_natCast];rw [e]
  have e2:dN (aO g bs) (i:Int)=dN (aO g bs) (k:Int):=by unfold dN;simp only [Int.toNat_natCast];rw [e]
  have:=Lk h hb hq hs1 xT (i:=(i:Int)) (k:=(k:Int)) (by omega) (by omega) (by omega) (by omega) e1 e2
  omega
 ·have KW:y<g.n:=by
   refine Decidable.byContradiction fun KW=> ?_
   have hj:(y - g.n).toNat<bs.length:=by omega
   have hin:bs.getD (y - g.n).toNat 0∈bs:=aE hj
   obtain ⟨b0,b1⟩:=hb.qB _ hin
   have r2:=(cG (g:=g) (bs:=bs) b0 b1).2
   rw [if_pos hin] at r2
   unfold wg at r2
   rw [gn hb.nd hj] at r2
   refine hy (bs.getD (y - g.n).toNat 0).toNat (by rw [gT];omega) ?_
   have:hd (aO g bs) (bs.getD (y - g.n).toNat 0).toNat=dN (aO g bs) (bs.getD (y - g.n).toNat 0):=rfl
   rw [this,r2];omega
  have h0:=bK h.2.1 (k:=0) (by omega)
  have hz:aQ g y=0:=by
   refine Decidable.byContradiction fun hnz=> ?_
   obtain ⟨e,he⟩:∃e,e∈aK (·.2) g.es g.es.length y:=by
    cases hc:aK (·.2) g.es g.es.length y with
    |nil=>exact absurd (by unfold aQ;rw [hc];rfl) hnz
    |cons e l=>exact ⟨e,by simp⟩
   obtain ⟨⟨e0,e1⟩,e2⟩:=bu.1 he
   have e2:dN g e=y:=e2
   have r2:=(cG (g:=g) (bs:=bs) e0 e1).2
   by_cases qi:e∈bs
   ·obtain ⟨i1,i2⟩:=vm qi
    have yS:=(gq (g:=g) i1).2
    rw [i2,e2] at yS
    exact hy (g.es.length+bs.idxOf e) (by rw [gT];omega) yS
   ·rw [if_neg qi,e2] at r2
    exact hy e.toNat (by rw [gT];omega) r2
  refine jO h.1 ⟨y0,KW⟩ h0 hz ?_
  refine Decidable.byContradiction fun hnz=> ?_
  obtain ⟨A,X,C,hrw,_,_,hX,_⟩:=bP hm (pS g).todR (h.2.2 0 (by omega)) hnz
  obtain ⟨q,X0,e1,_⟩:=hX.fst
  rw [e1] at hrw
  simp at hrw
theorem qd:aR (aO g bs) q:=Hy h hb hq (AS h hb hq hs1 xT)
theorem Ll (hI:xp g=true):xp (aO g bs)=true:=by
 have hm:=an h.1
 have hn:=aH hm
 have hGn:(aO g bs).n=g.n+bs.length:=rfl
 have hN:=Hu h hb hq
 have sr:=jB h hb hq
 unfold xp at hI ⊢
 rw [Bool.and_eq_true,decide_eq_true_eq,decide_eq_true_eq] at hI
 rw [decide_eq_true (AS h hb hq hs1 xT),Bool.true_and,decide_eq_true_eq]
 have key:∀y,y∈bN (·.1) (aO g bs)↔y∈bN (·.1) g:=fun y=>by
  rw [jd,jd]
  constructor
  ·rintro ⟨⟨y0,y1⟩,y2⟩
   by_cases KW:y<g.n
   ·refine ⟨⟨y0,KW⟩,List.eq_nil_iff_forall_not_mem.2 fun e he=> ?_⟩
    obtain ⟨⟨e0,e1⟩,e2⟩:=bu.1 he
    have:e∈aK (·.1) (aO g bs).es (aO g bs).es.length y:=bu.2 ⟨⟨e0,by rw [gT];omega⟩,((cG (g:=g) (bs:=bs) e0 e1).1.trans e2)⟩
    rw [y2] at this;cases this
   ·exfalso
    have hj:(y - g.n).toNat<bs.length:=by omega
    have N9:=(gq (g:=g) hj).1
    have:((g.es.length+(y - g.n).toNat:Nat):Int)∈aK (·.1) (aO g bs).es (aO g bs).es.length y:=bu.2 ⟨⟨by omega,by rw [gT];omega⟩,by have:fe (aO g bs) ((g.es.length+(y - g.n).toNat:Nat):Int)=y:=by {rw [N9];omega};exact this⟩
    rw [y2] at this;cases this
  ·rintro ⟨⟨y0,y1⟩,y2⟩
   refine ⟨⟨y0,by omega⟩,List.eq_nil_iff_forall_not_mem.2 fun e he=> ?_⟩
   obtain ⟨⟨e0,e1⟩,e2⟩:=bu.1 he
   have e2:fe (aO g bs) e=y:=e2
   rcases cW h hb hq e0 e1 with ⟨h3,h4⟩|⟨j,h3,h6,h7,h4,h5⟩
   ·have:e∈aK (·.1) g.es g.es.length y:=bu.2 ⟨⟨e0,h3⟩,((cG (g:=g) (bs:=bs) e0 h3).1.symm.trans e2)⟩
    rw [y2] at this;cases this
   ·have:=(dL hb h4).1
    omega
 have hp:(bN (·.1) (aO g bs)).Perm (bN (·.1) g):=(List.perm_ext_iff_of_nodup eD eD).2 key
 rw [hp.length_eq]
 exact hI.2
end
end Go.Ab
end
section
namespace Go.Ab
open Go.Proofs
set_option maxRecDepth 10000
set_option linter.unusedSectionVars false
def oO (g:Gr) (bs:List Int) (k:Nat) (v:Int):List Int:=((List.range k).filter fun j=>fe g (bs.getD j 0)=v).map fun j:Nat=>g.n+(j:Int)
def eY (g:Gr) (bs:List Int) (k:Nat) (ord:List Int):List Int:=ord.flatMap fun v=>v::oO g bs k v
def iO (g:Gr) (k:Nat):List (List Int):=(List.range k).map fun j:Nat=> [((g.es.length+j:Nat):Int)]
def sx (g:Gr) (p:Pl) (bs:List Int):Pl:=⟨eY g bs bs.length p.ord,p.outs++iO g bs.length⟩
theorem AT {g:Gr} {bs:List Int} {k:Nat} (v:Int):oO g bs (k+1) v=oO g bs k v++if fe g (bs.getD k 0)=v then [g.n+(k:Int)] else []:=by
 unfold oO
 rw [List.range_succ,List.filter_append,List.map_append]
 congr 1
 by_cases h:fe g (bs.getD k 0)=v
 ·rw [if_pos h,List.filter_cons,if_pos (decide_eq_true h)];rfl
 ·rw [if_neg h,List.filter_cons,if_neg (by rw [decide_eq_false h];decide)];rfl
theorem gU {g:Gr} {bs:List Int} {k:Nat} {v u:Int} :u∈oO g bs k v↔∃j:Nat,j<k∧fe g (bs.getD j 0)=v∧u=g.n+(j:Int):=by
 simp only [oO,List.mem_map,List.mem_filter,List.mem_range,decide_eq_true_eq]
 constructor
 ·rintro ⟨j,⟨h1,h2⟩,rfl⟩;exact ⟨j,h1,h2,rfl⟩
 ·rintro ⟨j,h1,h2,rfl⟩;exact ⟨j,⟨h1,h2⟩,rfl⟩
theorem AU {g:Gr} {bs:List Int} {k:Nat} {a b:List Int} :eY g bs k (a++b)=eY g bs k a++eY g bs k b:=by simp [eY]
theorem jf {g:Gr} {bs:List Int} {k:Nat} {v:Int} {b:List Int} :eY g bs k (v::b)=v::(oO g bs k v++eY g bs k b):=by simp [eY]
theorem xC {g:Gr} {bs:List Int} {a:List Int} :eY g bs 0 a=a:=by
 induction a with
 |nil=>rfl
 |cons v a ih=>rw [jf,ih];rfl
theorem vr {g:Gr} {bs:List Int} {k:Nat} {a:List Int} (h:fe g (bs.getD k 0)∉a):eY g bs (k+1) a=eY g bs k a:=by
 induction a with
 |nil=>rfl
 |cons v a ih=>
  rw [jf,jf,ih fun e=>h (List.mem_cons.2 (.inr e)),AT,if_neg fun e=>h (List.mem_cons.2 (.inl e)),List.append_nil]
theorem AW {g:Gr} {bs:List Int} {k:Nat} {a:List Int} {u:Int} :u∈eY g bs k a↔∃v∈a,u=v∨u∈oO g bs k v:=by simp [eY]
theorem xD {g:Gr} {bs:List Int} {k:Nat} {ord:List Int} (bY:ord.Nodup) (hr:∀u∈ord,u<g.n) (ht:fe g (bs.getD k 0)∈ord):
 ∃A B,eY g bs k ord=A++fe g (bs.getD k 0)::(oO g bs k (fe g (bs.getD k 0))++B)∧eY g bs (k+1) ord=A++fe g (bs.getD k 0)::(oO g bs k (fe g (bs.getD k 0))++(g.n+(k:Int))::B)∧fe g (bs.getD k 0)∉A∧∀u r,B=u::r→u<g.n:=by
 obtain ⟨o1,o2,e⟩:=List.append_of_mem ht
 have fX:=bY
 rw [e,List.nodup_append] at fX
 obtain ⟨_,n2,n3⟩:=fX
 obtain ⟨n4,_⟩:=List.nodup_cons.1 n2
 have n5:fe g (bs.getD k 0)∉o1:=fun h=>n3 _ h _ (by simp) rfl
 refine ⟨eY g bs k o1,eY g bs k o2, ?_, ?_,fun h=> ?_,fun u r hB=> ?_⟩
 ·rw [congrArg (eY g bs k) e,AU,jf]
 ·rw [congrArg (eY g bs (k+1)) e,AU,jf,vr n5,vr n4,AT,if_pos rfl];simp
 ·obtain ⟨v,hv,h1|h1⟩:=AW.1 h
  ·exact n5 (h1 ▸ hv)
  ·obtain ⟨j,_,_,h2⟩:=gU.1 h1
   have:=hr _ ht
   omega
 ·cases o2 with
  |nil=>simp [eY] at hB
  |cons w o2=>
   rw [jf] at hB
   cases hB
   exact hr _ (by rw [e];simp)
theorem vt {bs:List Int} {k j:Nat} (h:j<k):(bs.take k).getD j 0=bs.getD j 0:=by
 rw [List.getD_eq_getElem?_getD,List.getD_eq_getElem?_getD,List.getElem?_take_of_lt h]
theorem s6 {bs:List Int} {k:Nat} (h:k<bs.length):bs.take (k+1)=bs.take k++ [bs.getD k 0]:=by
 rw [List.take_add_one,List.getElem?_eq_getElem h,List.getD_eq_getElem?_getD,List.getElem?_eq_getElem h];rfl
theorem EJ {g:Gr} {bs:List Int} (hb:sn g bs) {k:Nat} (hk:k<bs.length) {i:Nat} (hi:bs.getD k 0=i):
 i<g.es.length∧(iw g (bs.take k)).getD i (0,0)=(tl g i,hd g i)∧iw g (bs.take (k+1))=(iw g (bs.take k)++ [(g.n+(k:Int),hd g i)]).set i (tl g i,g.n+(k:Int)):=by
 have hil:i<g.es.length:=by have:=hb.qB _ (aE (d:=0) hk);omega
 have hlt:(bs.take k).length=k:=by simp;omega
 have EK:(bs.take (k+1)).length=k+1:=by simp;omega
 have hni:(i:Int)∉bs.take k:=fun hm=>by
  have bY:=hb.nd
  rw [← List.take_append_drop (k+1) bs,s6 hk,hi] at bY
  have:=(List.nodup_append.1 (List.nodup_append.1 bY).1).2.2 _ hm _ (List.mem_singleton.2 rfl)
  exact this rfl
 refine ⟨hil, ?_, ?_⟩
 ·unfold iw
  rw [List.getD_eq_getElem?_getD,List.getElem?_append_left (by simpa using hil),List.getElem?_map,List.getElem?_range hil,Option.map_some,Option.getD_some,if_neg hni]
 ·unfold iw
  rw [hlt,EK,List.append_assoc,List.set_append_left _ _ (by simpa using hil),List.range_succ (n:=k),List.map_append,List.map_cons,List.map_nil]
  have yS:dN g ((bs.take (k+1)).getD k 0)=hd g i:=by rw [vt (by omega),hi];rfl
  rw [yS]
  congr 1
  ·refine List.ext_getElem? fun j=> ?_
   rw [List.getElem?_set]
   by_cases hj:j<g.es.length
   ·rw [List.getElem?_map,List.getElem?_range hj,List.getElem?_map,List.getElem?_range hj]
    simp only [Option.map_some,List.length_map,List.length_range]
    by_cases e:i=j
    ·subst e
     have hin:(i:Int)∈bs.take (k+1):=by rw [s6 hk,hi];simp
     rw [if_pos rfl,if_pos hj,if_pos hin]
     unfold wg
     rw [s6 hk,hi,yR,if_neg hni,hlt]
     simp
    ·rw [if_neg e,s6 hk,hi]
     by_cases hm:(j:Int)∈bs.take k
     ·rw [if_pos hm,if_pos (by simp [hm])]
      unfold wg
      rw [yR,if_pos hm]
     ·rw [if_neg hm,if_neg (by simp [hm];omega)]
   ·rw [if_neg (by omega),List.getElem?_eq_none (by simpa using hj),List.getElem?_eq_none (by simpa using hj)]
  ·congr 1
   refine List.map_congr_left fun j hj=> ?_
   rw [List.mem_range] at hj
   rw [vt hj,vt (by omega)]
theorem EL {g:Gr} :iw g []=g.es:=by
 unfold iw
 simp only [List.length_nil,List.range_zero,List.map_nil,List.append_nil,List.not_mem_nil,if_false]
 refine List.ext_getElem? fun j=> ?_
 by_cases hj:j<g.es.length
 ·rw [List.getElem?_map,List.getElem?_range hj,Option.map_some,List.getElem?_eq_getElem hj]
  simp only [tl,hd,List.getD_eq_getElem?_getD,List.getElem?_eq_getElem hj,Option.getD_some]
 ·rw [List.getElem?_eq_none (by simpa using hj),List.getElem?_eq_none (by omega)]
section
variable {g:Gr} {p:Pl} {bs:List Int} (h:aR g p) (hb:sn g bs)
include h hb
theorem Jl:(eY g bs bs.length p.ord).Nodup∧∀u,u∈eY g bs bs.length p.ord↔0≤u∧u<g.n+bs.length:=by
 have hm:=an h.1
 have hn:=aH hm
 have bY:=cP h.2.1
 have hr:∀u∈p.ord,0≤u∧u<g.n:=fun u hu=>by
  have:=h.2.1.2.1.mem_iff.1 hu
  simp only [eC,List.mem_map,List.mem_range] at this
  obtain ⟨k,hk,e⟩:=this
  have e:(k:Int)=u:=e
  omega
 have hown:∀v,(oO g bs bs.length v).Nodup:=fun v=>by
  unfold oO
  refine List.Pairwise.map _ (fun a b hab=> ?_) ((List.nodup_range).filter _)
  intro e;apply hab;omega
 constructor
 ·unfold eY
  rw [List.Nodup,List.pairwise_flatMap]
  refine ⟨fun v hv=>List.nodup_cons.2 ⟨fun hh=> ?_,hown v⟩, ?_⟩
  ·obtain ⟨j,_,_,e⟩:=gU.1 hh
   have:=(hr v hv).2
   omega
  ·refine List.Pairwise.imp_of_mem (fun {a b} ha hb' hne=> ?_) bY
   intro u hu u' vN Ta
   subst Ta
   rcases List.mem_cons.1 hu with rfl|hu
   ·rcases List.mem_cons.1 vN with rfl|vN
    ·exact hne rfl
    ·obtain ⟨j,_,_,e⟩:=gU.1 vN
     have:=(hr u ha).2
     omega
   ·obtain ⟨j,_,j2,e⟩:=gU.1 hu
    rcases List.mem_cons.1 vN with rfl|vN
    ·have:=(hr u hb').2
     omega
    ·obtain ⟨l,_,l2,e'⟩:=gU.1 vN
     obtain rfl:j=l:=by omega
     exact hne (j2.symm.trans l2)
 ·intro u
  rw [AW]
  constructor
  ·rintro ⟨v,hv,rfl|hu⟩
   ·have:=hr u hv;omega
   ·obtain ⟨j,j1,_,e⟩:=gU.1 hu
    omega
  ·rintro ⟨h0,h1⟩
   by_cases hlt:u<g.n
   ·obtain ⟨l,hl,e⟩:=gQ h.2.1 h0 hlt
    exact ⟨u,by rw [← e,aD,List.getD_eq_getElem?_getD,List.getElem?_eq_getElem (by rw [aS h.2.1];exact hl)];exact List.getElem_mem _, .inl rfl⟩
   ·have hk:(u - g.n).toNat<bs.length:=by omega
    have vO:=hb.qB _ (aE (d:=0) hk)
    have ht:=bg hm (i:=(bs.getD (u - g.n).toNat 0).toNat) (by omega)
    obtain ⟨l,hl,e⟩:=gQ h.2.1 ht.1 ht.2
    refine ⟨fe g (bs.getD (u - g.n).toNat 0), ?_, .inr (gU.2 ⟨(u - g.n).toNat,hk,rfl,by omega⟩)⟩
    show tl g (bs.getD (u - g.n).toNat 0).toNat∈p.ord
    rw [← e,aD,List.getD_eq_getElem?_getD,List.getElem?_eq_getElem (by rw [aS h.2.1];exact hl)];exact List.getElem_mem _
theorem nJ:Hs g p bs (sx g p bs):=by
 have hm:=an h.1
 have hn:=aH hm
 have dM:=h.2.1.1
 have bY:=cP h.2.1
 obtain ⟨n1,n2⟩:=Jl h hb
 refine ⟨?_,fun x hx=> ?_,fun k hk=> ?_, ?_, ?_⟩
 ·show (p.outs++iO g bs.length).length=_
  rw [List.length_append,dM,iO,List.length_map,List.length_range];omega
 ·show (p.outs++iO g bs.length).getD x []=_
  rw [List.getD_eq_getElem?_getD,List.getElem?_append_left (by omega), ← List.getD_eq_getElem?_getD]
 ·show (p.outs++iO g bs.length).getD (g.n.toNat+k) []=_
  rw [List.getD_eq_getElem?_getD,List.getElem?_append_right (by omega),dM,Nat.add_sub_cancel_left,iO,List.getElem?_map,List.getElem?_range hk];rfl
 ·refine (List.perm_ext_iff_of_nodup n1 ?_).2 fun u=> ?_
  ·unfold eC
   exact List.Pairwise.map _ (fun a b hab=>by intro e;apply hab;exact Int.ofNat.inj e) List.nodup_range
  ·show u∈eY g bs bs.length p.ord↔_
   rw [n2]
   simp only [eC,List.mem_map,List.mem_range]
   constructor
   ·rintro ⟨h0,h1⟩;exact ⟨u.toNat,by omega,by show ((u.toNat:Nat):Int)=u;omega⟩
   ·rintro ⟨k,hk,e⟩
    have e:(k:Int)=u:=e
    omega
 ·have hr:∀u∈p.ord,u<g.n:=fun u hu=>by
   have:=h.2.1.2.1.mem_iff.1 hu
   simp only [eC,List.mem_map,List.mem_range] at this
   obtain ⟨k,hk,e⟩:=this
   have e:(k:Int)=u:=e
   omega
  have eZ:∀v∈p.ord,∀u∈v::oO g bs bs.length v,EI g bs u=v:=fun v hv u hu=>by
   rcases List.mem_cons.1 hu with rfl|hu
   ·exact if_pos (hr u hv)
   ·obtain ⟨j,j1,j2,rfl⟩:=gU.1 hu
    unfold EI
    rw [if_neg (by omega),show (g.n+(j:Int) - g.n).toNat=j by omega]
    exact j2
  show (eY g bs bs.length p.ord).Pairwise _
  unfold eY
  rw [List.pairwise_flatMap]
  refine ⟨fun v hv=> ?_, ?_⟩
  ·refine List.Pairwise.imp_of_mem (R:=fun a b=>a<b) (fun {a b} ha hb' hab=> .inr ⟨(eZ v hv a ha).trans (eZ v hv b hb').symm,hab⟩) (List.pairwise_cons.2 ⟨fun u hu=> ?_, ?_⟩)
   ·obtain ⟨j,_,_,rfl⟩:=gU.1 hu
    have:=hr v hv
    omega
   ·unfold oO
    refine List.Pairwise.map _ (fun a b hab=> ?_) (List.pairwise_lt_range.filter _)
    omega
  ·refine List.Pairwise.imp_of_mem (R:=fun a b=>p.ord.idxOf a<p.ord.idxOf b) (fun {a b} ha hb' hab=> ?_) ?_
   ·intro u hu v hv
    rw [eZ a ha u hu,eZ b hb' v hv]
    exact .inl hab
   ·rw [List.pairwise_iff_getElem]
    intro i j hi hj hij
    have e1:=gn bY hi
    have e2:=gn bY hj
    rw [List.getD_eq_getElem?_getD,List.getElem?_eq_getElem hi,Option.getD_some] at e1
    rw [List.getD_eq_getElem?_getD,List.getElem?_eq_getElem hj,Option.getD_some] at e2
    omega
end
end Go.Ab
end
section
namespace Go.Ab
open Go.Proofs Go.RowKit
attribute [local congr] ACall.congr gd.congr Nx.congr
set_option maxRecDepth 10000
theorem Spec.of_same {P:Program} {f:Nat} {A:Env→World→List Value→Prop} {m:List (Nat × AObj)} {res:AV} (hc:x4 P f)
 (h:∀E w vals,Good m E w→A E w vals→Calls P f vals.toArray w fun e w'=>∃v,e= .returned v∧w'.os=w.os∧w'.tape=w.tape∧w'.output=w.output∧w.heap.size≤w'.heap.size∧(∀b,b<w.heap.size→w'.heap[b]? =w.heap[b]?)∧cu w' E res v):Spec P f A m res m:=by
 refine ⟨hc,fun E w vals hg hA=>(h E w vals hg hA).mono ?_⟩
 rintro e w' ⟨v,rfl,h1,h2,h3,h4,h5,h6⟩
 have hst:aN w E.z w' E.z:=fun b=>⟨Nat.le_refl _,fun o ho=>by
  by_cases hb:b<w.heap.size
  ·simp only [World.cell?,h5 b hb]
  ·have:=hg.fresh b (by omega);omega⟩
 refine ⟨v,E,rfl,⟨h1,h2,h3,h4,hst,fun b hb _=>⟨h5 b hb,rfl⟩,fun _ _=>⟨rfl,rfl⟩⟩,⟨hg.low,hg.inj,fun l o hl=> ?_,fun b hb=>hg.fresh b (by omega)⟩,fun l o b hl hro hb=> .inr ⟨l,o,hl,hro,hb⟩,h6⟩
 have h0:=hg.gW l o hl
 have:=bz.keep (k:= []) (E':=E) hst (fun _ _=>⟨rfl,rfl⟩) (fun l x hx=>by cases hx) rfl (fun _ _=>rfl) (fun b hb=>⟨h5 b (h0.lt hb),rfl⟩) h0
 rwa [AObj.k7] at this
theorem yT {aq:List (List Int × Int)} {es:Array MapEntry} (h:jh 0 aq es) {y:MapEntry} :y∈es.toList↔∃i p,aq[i]? =some p∧y=⟨kV 0 p.1, .int .i64 p.2,i⟩:=by
 constructor
 ·intro hy
  obtain ⟨i,hi,e⟩:=List.mem_iff_getElem.1 hy
  have hi':i<es.size:=by simpa using hi
  have hp:=List.getElem?_eq_getElem (l:=aq) (i:=i) (by rw [← h.size];exact hi')
  refine ⟨i,_,hp, ?_⟩
  have:=h.Fo i _ hp
  rw [Array.getElem?_eq_getElem hi'] at this
  rw [← e]
  simpa using Option.some.inj this
 ·rintro ⟨i,p,hp,rfl⟩
  have:=h.Fo i p hp
  obtain ⟨hi,e⟩:=Array.getElem?_eq_some_iff.1 this
  rw [← e]
  simp
theorem Hz {aq:List (List Int × Int)} {es:Array MapEntry} (h:jh 0 aq es):es.toList.map (·.born)=List.range es.size:=by
 refine List.ext_getElem? fun i=> ?_
 rw [List.getElem?_map,Array.getElem?_toList]
 by_cases hi:i<es.size
 ·have hp:=List.getElem?_eq_getElem (l:=aq) (i:=i) (by rw [← h.size];exact hi)
  rw [h.Fo i _ hp,List.getElem?_range hi]
  rfl
 ·rw [Array.getElem?_eq_none (by omega),List.getElem?_eq_none (by simpa using hi)]
  rfl
def jJ (n:Int) (es:List Edge) (ord:List Int) (outs:List (List Int)) (aq:List (List Int × Int)):List (Nat × AObj):=
 [(10000, .box [eN n, .ref 10001, .ref 10002, .ref 10003, .mref 10004]),(10001, .own 73 2 (es.map rE)),(10002, .own 3 1 (ord.map rI)),(10003, .own 31 1 (vI outs)),(10004, .mp 0 aq)]
def vu (es:List Edge) (aq:List (List Int × Int)) (x:Int) (e:Nat):Bool:=aq.any fun p=>fh (fun i=>(es.getD i (0,0)).1) x e (p.1.getD 0 0).toNat p.2
theorem EM (n:Int) (es:List Edge) (ord:List Int) (outs:List (List Int)) (aq:List (List Int × Int)) (x:Int) (e:Nat) (he:e<es.length) (hne:es.length≤1000) (hE:∀p∈aq,0≤p.1.getD 0 0∧p.1.getD 0 0<es.length):
 Spec Tryz.prog 167 (Args [.ptr 10000 0,eN x,eN e]) (jJ n es ord outs aq) (eB (vu es aq x e)) (jJ n es ord outs aq):=by
 refine Spec.of_same ⟨Tryz.f167,_,Tryz.func167,by kernel_rfl,rfl⟩ fun E w vals hg hA=> ?_
 obtain ⟨v,vs,rfl,h0,h3⟩:=hA
 obtain ⟨v2,St,rfl,h1,h4⟩:=h3
 obtain ⟨v3,Su,rfl,h2,h5⟩:=h4
 simp only [AVrs] at h5
 subst h5
 have h1:=oo h1
 have h2:=oo h2
 subst h1 h2
 obtain ⟨B,hB,rfl⟩:=h0
 obtain ⟨B',cs,ty,g1,g2,g3,g4,g5⟩:=hg.gW 10000 (.box [eN n, .ref 10001, .ref 10002, .ref 10003, .mref 10004]) rfl
 obtain rfl:B'=B:=by rw [g1] at hB;exact Option.some.inj hB
 obtain ⟨_,_,o1⟩:=hg.gW 10001 (.own 73 2 (es.map rE)) rfl
 obtain ⟨bm,me,m1,m2,m3,m4⟩:=hg.gW 10004 (.mp 0 aq) rfl
 obtain ⟨u0,r0,rfl,_,g4⟩:=g4
 obtain ⟨u1,r1,rfl,c1,g4⟩:=g4
 obtain ⟨u2,r2,rfl,_,g4⟩:=g4
 obtain ⟨u3,r3,rfl,_,g4⟩:=g4
 obtain ⟨u4,r4,rfl,c4,g4⟩:=g4
 obtain ⟨rfl,_⟩:=c1
 obtain ⟨Qp,c5,rfl⟩:=c4
 obtain rfl:Qp=bm:=by rw [m1] at c5;exact (Option.some.inj c5).symm
 obtain ⟨be,cur,ce,p1,p2,p3,p4,p5,p6,p7,p8⟩:∃b cur cap,E.ρ 10001=some b∧w.heap[b]? =some (.cells cur 73 (0,0))∧E.σ 10001= .slice (some ⟨b,0,none⟩) (es.map rE).length cap∧(es.map rE).length≤cap∧cap*2=cur.size∧cap≤maxLen∧
  E.z b=0∧∀(i j:Nat) (r:List D) (y:D),(es.map rE)[i]? =some r→r[j]? =some y→∃v,cur[i*2+j]? =some v∧Rd w E.z v y:=by
  rcases o1 with ⟨_,h,_⟩|h
  ·rw [List.map_eq_nil_iff] at h
   subst h
   simp at he
  ·exact h
 rw [List.length_map] at p3 p4
 have Tb:B'<w.heap.size:=(Array.getElem?_eq_some_iff.1 g2).1
 have qY:be<w.heap.size:=(Array.getElem?_eq_some_iff.1 p2).1
 have key:=BK B' Qp be es.length ce me (fun i=>(es.getD i (0,0)).1) x e w Tb qY ?_ ?_ m2 (fun i hi=> ?_) he hne ⟨fun y hy=> ?_, ?_⟩ (fun y hy=> ?_)
 ·refine key.mono ?_
  rintro en w' ⟨rfl,w1,seen,⟨ym,NZ⟩,rfl⟩
  refine ⟨_,rfl,ym.2.1,NZ,ym.2.2, ?_,fun b hb=> ?_, ?_⟩
  ·have:=ot w1 (.mapIter (some Qp) me.size seen me.size)
   rw [ym.1] at this
   exact this
  ·rw [nr _ _ (by rw [ym.1];exact hb),ym.1]
  ·have:(me.toList.any fun y=>fh (fun i=>(es.getD i (0,0)).1) x e (JT y.key) (JU y.val))=vu es aq x e:=by
    rw [Bool.eq_iff_iff,vu,List.any_eq_true,List.any_eq_true]
    constructor
    ·rintro ⟨y,hy,hm⟩
     obtain ⟨i,p,hp,rfl⟩:=(yT m4).1 hy
     exact ⟨p,List.mem_of_getElem? hp,hm⟩
    ·rintro ⟨p,hp,hm⟩
     obtain ⟨i,hi⟩:=List.mem_iff_getElem?.1 hp
     exact ⟨_,(yT m4).2 ⟨i,p,hi,rfl⟩,hm⟩
   rw [this]
   exact .sc _ rfl
 ·simp [World.cell?,g2,p3]
 ·simp [World.cell?,g2]
 ·obtain ⟨v,q1,q2⟩:=p8 i 0 (rE es[i]) (.sc (.int .i64 es[i].1)) (by simp [List.getElem?_eq_getElem hi]) rfl
  rw [oo q2] at q1
  simp only [World.cell?,p2,Option.isSome_none,Bool.false_eq_true,if_false]
  rw [List.getD_eq_getElem?_getD,List.getElem?_eq_getElem hi]
  exact q1
 ·obtain ⟨i,p,hp,rfl⟩:=(yT m4).1 hy
  have:=(List.getElem?_eq_some_iff.1 hp).1
  have:=m4.size
  show i<me.size
  omega
 ·rw [Hz m4];exact List.nodup_range
 ·obtain ⟨i,p,hp,rfl⟩:=(yT m4).1 hy
  obtain ⟨h1,h2⟩:=hE p (List.mem_of_getElem? hp)
  refine ⟨(p.1.getD 0 0).toNat,p.2, ?_,rfl,by omega⟩
  show Value.int .i64 (p.1.getD 0 0)=_
  rw [Int.toNat_of_nonneg h1]
end Go.Ab
end
section
namespace Go.Ab
open Go.Proofs
attribute [local congr] ACall.congr gd.congr Nx.congr
set_option maxRecDepth 20000
set_option maxHeartbeats 8000000
def HA (n:Int) (es:List Edge) (ord:List Int) (outs:List (List Int)) (aq:List (List Int × Int)):List (Nat × AObj):=
 [(10000, .box [eN n, .ref 10011, .ref 10012, .ref 10013, .mref 10004]),(10011, .own 73 2 (es.map rE)),(10012, .own 3 1 (ord.map rI)),(10013, .own 31 1 (vI outs)),(10004, .mp 0 aq)]
theorem HB {aq:List (List Int × Int)} {k:List Int} {v:Int} (h:∀p∈aq,k≠p.1):xL aq k v=aq++ [(k,v)]:=by
 have hf:cy aq k=none:=by
  rw [cy,List.findIdx?_eq_none_iff]
  intro p hp
  exact decide_eq_false (h p hp)
 unfold xL fA jX
 rw [hf]
 simp only [rY]
 refine List.ext_getElem? fun i=> ?_
 rw [List.getElem?_modify]
 rcases Nat.lt_trichotomy i aq.length with h1|h1|h1
 ·rw [List.getElem?_append_left h1,List.getElem?_append_left h1]
  simp [show ¬aq.length=i by omega]
 ·subst h1;simp
 ·rw [List.getElem?_eq_none (by simp;omega),List.getElem?_eq_none (by simp;omega)];rfl
theorem Lm {a b:List (List Int)} :vI (a++b)=vI a++vI b:=by simp [vI]
theorem Jm {A B:List Int} {t:Int} (h:t∉A):ff (A++t::B) t=A.length:=by
 refine c8 (d:=0) (by simp) (fun j hj=>decide_eq_false fun e=>h ?_) (decide_eq_true ?_)
 ·rw [e,List.getD_eq_getElem?_getD,List.getElem?_append_left hj,List.getElem?_eq_getElem hj];exact List.getElem_mem _
 ·rw [List.getD_eq_getElem?_getD,List.getElem?_append_right (by omega)];simp
theorem Ln {A O B:List Int} {t:Int} {j:Nat} (hj:j<O.length):(A++t::(O++B)).getD (A.length+1+j) 0=O.getD j 0:=by
 rw [List.getD_eq_getElem?_getD,List.getElem?_append_right (by omega),show A.length+1+j - A.length=j+1 by omega,List.getElem?_cons_succ,List.getElem?_append_left hj, ← List.getD_eq_getElem?_getD]
theorem Jn {A O B:List Int} {t u:Int} :(A++t::(O++u::B)).getD (A.length+1+O.length) 0=u:=by
 rw [List.getD_eq_getElem?_getD,List.getElem?_append_right (by omega),show A.length+1+O.length - A.length=O.length+1 by omega,List.getElem?_cons_succ,List.getElem?_append_right (by omega)]
 simp
theorem Jo {A O B:List Int} {t x:Int} :sg (A++t::(O++B)) (A.length+1+O.length) x=A++t::(O++x::B):=by
 unfold sg
 rw [show A++t::(O++B)=(A++t::O)++B by simp,List.take_left' (by simp;omega),List.drop_left' (by simp;omega)]
 simp
theorem nK {es:List Edge} {a b:Int} :List.map rE es++ [[D.sc (.int .i64 a),D.sc (.int .i64 b)]]=List.map rE (es++ [(a,b)]):=by simp [rE]
theorem yU {es:List Edge} {e:Nat} {a b:Int} (h:es.getD e (0,0)=(a,b)):(List.map rE es).getD e [D.sc (.int .i64 0),D.sc (.int .i64 0)]= [D.sc (.int .i64 a),D.sc (.int .i64 b)]:=by
 rw [show [D.sc (.int .i64 0),D.sc (.int .i64 0)]=rE (0,0) from rfl,List.getD_eq_getElem?_getD,List.getElem?_map]
 rw [List.getD_eq_getElem?_getD] at h
 cases hq:es[e]? with
 |none=>rw [hq] at h;cases h;rfl
 |some q=>rw [hq] at h;cases h;rfl
theorem qO {es:List Edge} {e:Nat} {a b:Int} :(List.map rE es).set e [D.sc (.int .i64 a),D.sc (.int .i64 b)]=List.map rE (es.set e (a,b)):=by
 rw [List.map_set];rfl
theorem EN (n:Int) (es:List Edge) (outs:List (List Int)) (aq:List (List Int × Int)) (e:Nat) (A O B:List Int) (t:Int) (hn:0≤n∧n<1000) (he:e<es.length) (hne:es.length<1000) (sG:outs.length<1000) (Uu:(A++t::(O++B)).length<1000)
 (hE:∀p∈aq,0≤p.1.getD 0 0∧p.1.getD 0 0<es.length) (hnew:∀p∈aq, [(e:Int)]≠p.1) (ht:(es.getD e (0,0)).1=t) (Tc:t∉A)
 (hO:∀u∈O,vu ((es++ [(n,(es.getD e (0,0)).2)]).set e (t,n)) (aq++ [([(e:Int)],n)]) u e=true) (hB:∀u r,B=u::r→vu ((es++ [(n,(es.getD e (0,0)).2)]).set e (t,n)) (aq++ [([(e:Int)],n)]) u e=false):
 Spec Tryz.prog 118 (Args [.ptr 10000 0,eN e]) (jJ n es (A++t::(O++B)) outs aq) (.tup []) (HA (n+1) ((es++ [(n,(es.getD e (0,0)).2)]).set e (t,n)) (A++t::(O++n::B)) (outs++ [[(es.length:Int)]]) (aq++ [([(e:Int)],n)])):=by
 have hi:=aW (A++t::(O++B)) t (by omega)
 rw [Jm Tc] at hi
 have LS:=HB (v:=n) hnew
 obtain ⟨hd,Lc⟩:∃hd,(es.getD e (0,0)).2=hd:=⟨_,rfl⟩
 rw [Lc] at hO hB ⊢
 have JI:(List.map rE es).getD e [D.sc (.int .i64 0),D.sc (.int .i64 0)]= [D.sc (.int .i64 t),D.sc (.int .i64 hd)]:=yU (Prod.ext ht Lc)
 have iB:(List.map rE (es++ [(n,hd)])).getD e [D.sc (.int .i64 0),D.sc (.int .i64 0)]= [D.sc (.int .i64 t),D.sc (.int .i64 hd)]:=yU (by
  rw [List.getD_eq_getElem?_getD,List.getElem?_append_left he, ← List.getD_eq_getElem?_getD];exact Prod.ext ht Lc)
 have rq:(List.map rE ((es++ [(n,hd)]).set e (t,n))).getD e [D.sc (.int .i64 0),D.sc (.int .i64 0)]= [D.sc (.int .i64 t),D.sc (.int .i64 n)]:=yU (by
  rw [List.getD_eq_getElem?_getD,List.getElem?_set_self (by simp;omega)];rfl)
 have Gw:((es++ [(n,hd)]).set e (t,n)).length=es.length+1:=by simp
 have Ri:∀p∈aq++ [([(e:Int)],n)],0≤p.1.getD 0 0∧p.1.getD 0 0<((es++ [(n,hd)]).set e (t,n)).length:=fun p hp=>by
  rw [Gw]
  rcases List.mem_append.1 hp with h|h
  ·have:=hE p h;omega
  ·rw [List.mem_singleton] at h
   subst h
   simp only [List.getD_cons_zero]
   omega
 have mE:=fun (outs:List (List Int)) (u:Int)=>EM (n+1) ((es++ [(n,hd)]).set e (t,n)) (A++t::(O++B)) outs (aq++ [([(e:Int)],n)]) u e (by rw [Gw];omega) (by rw [Gw];omega) Ri
 have hins:=zU (A++t::(O++B)) (A.length+1+O.length) n (by simp;omega) (by omega)
 rw [Jo] at hins
 have hlen:(A++t::(O++B)).length=A.length+1+O.length+B.length:=by simp;omega
 generalize LU:(es++ [(n,hd)]).set e (t,n)=E2 at hO hB rq Gw Ri mE ⊢
 have hv:vI outs++ [[D.sl 1 [[D.sc (.int .i64 (es.length:Int))]]]]=vI (outs++ [[(es.length:Int)]]):=by simp [vI,sI,rI]
 generalize I8:A++t::(O++n::B)=Td at hins ⊢
 unfold jJ HA
 (refine Spec.uf (C:=T.cfg [51,73,125,126,72] []) (rs:= []) [(10011,51),(10013,73),(10012,126)] (T.aj _ _) Tryz.func118 rfl rfl Tryz.ntmps118 Tryz.results118 (by simp [AObj.isNest]) (by simp [AObj.isNest]) (by first|(simp [look];done)|(simp [asN];done)|(intro l hl;simp only [asN];repeat (rw [if_neg (fun e=>by subst e;simp [look] at hl)]))) (by first|(simp [look];done)|(simp [asN];done)|(intro l hl;simp only [asN];repeat (rw [if_neg (fun e=>by subst e;simp [look] at hl)]))) (by kernel_rfl) T.mixed fun X hX hP hC aJ b7=> ?_)
 repeat' (first|refine Rn.p ?_|(with_reducible apply And.intro)|((first|(refine hK _ ?_;clear hK K)|with_reducible intro K hK|refine Rs.p ?_|((with_reducible first|apply oP|apply oQ);exact rfl)|(refine ai hX hC hP (hi) rfl rfl rfl ?_ ?_ ?_ ?_;iterate 3 (focus (simp only [go_sem,simprocAttr,LS,nK,qO,JI,iB,rq,LU,hv,List.length_append,List.length_cons,List.length_nil];done)))|(refine au hX hC hP [(10000,10000),(10001,51),(10002,10002),(10003,73),(10004,10004)] (mE _ _) rfl rfl rfl ?_ ?_ ?_ ?_ ?_ ?_ ?_ ?_ ?_ ?_ ?_ ?_ ?_ ?_;(focus (simp only [go_sem,simprocAttr,LS,nK,qO,JI,iB,rq,LU,hv,List.length_append,List.length_cons,List.length_nil];done));(iterate 12 (focus (simp [go_sem,simprocAttr,LS,nK,qO,JI,iB,rq,LU,hv,List.length_append,List.length_cons,List.length_nil];done)));try simp only [List.map_cons,List.map_nil]));try simp only [go_sem,simprocAttr,LS,nK,qO,JI,iB,rq,LU,hv,List.length_append,List.length_cons,List.length_nil])|((with_reducible refine oD ?_ ?_);kernel_rfl)|((with_reducible intro h);try simp only [go_sem,simprocAttr,LS,nK,qO,JI,iB,rq,LU,hv,List.length_append,List.length_cons,List.length_nil] at h)|omega|intro h)
 refine ah (fun j:Nat=>j≤O.length) (fun j=>⟨[(0, .ptr 10000 0),(1,eN e),(4,eN n),(6,eN ((A.length+1+j:Nat):Int))], [(10000, .box [eN (n+1), .ref 51, .ref 10002, .ref 73, .mref 10004]),(51, .own 73 2 (E2.map rE)),(10002, .own 3 1 ((A++t::(O++B)).map rI)),(73, .own 31 1 (vI (outs++ [[(es.length:Int)]]))),(10004, .mp 0 (aq++ [([(e:Int)],n)]))]⟩) (fun j=>O.length - j) 0 (by omega) ?_ ?_
 ·refine Le.of ?_ ?_<;>simp [go_sem,simprocAttr,LS,nK,qO,JI,iB,rq,LU,hv,List.length_append,List.length_cons,List.length_nil]
 rintro j hj
 obtain ⟨L,hL⟩:∃L,L=A++t::(O++B):=⟨_,rfl⟩
 rcases Nat.lt_or_ge j O.length with hlt|hge
 ·have hb:decide (((A.length+1+j:Nat):Int)<(L.length:Int))=true:=decide_eq_true (by rw [hL];omega)
  have qj:L.getD (A.length+1+j) 0=O.getD j 0:=by rw [hL];exact Ln hlt
  have hm:=hO _ (aE (d:=0) hlt)
  have hm2:=mE (outs++ [[(es.length:Int)]]) (O.getD j 0)
  rw [hm] at hm2
  rw [← hL] at hm2 ⊢
  have hjl:A.length+1+j<L.length:=by rw [hL];omega
  repeat' (first|refine Rn.p ?_|(with_reducible apply And.intro)|((first|(refine hK _ ?_;clear hK K)|with_reducible intro K hK|refine Rs.p ?_|((with_reducible first|apply oP|apply oQ);exact rfl)|(refine au hX hC hP [(10000,10000),(10001,51),(10002,10002),(10003,73),(10004,10004)] (hm2) rfl rfl rfl ?_ ?_ ?_ ?_ ?_ ?_ ?_ ?_ ?_ ?_ ?_ ?_ ?_ ?_;(focus (simp only [go_sem,simprocAttr,jJ,hb,qj];done));(iterate 12 (focus (simp [go_sem,simprocAttr,jJ,hb,qj];done)));try simp only [List.map_cons,List.map_nil]));try simp only [go_sem,simprocAttr,jJ,hb,qj])|((with_reducible refine oD ?_ ?_);kernel_rfl)|((with_reducible intro h);try simp only [go_sem,simprocAttr,jJ,hb,qj] at h)|omega|intro h)
  refine ⟨j+1,by omega, ?_,by omega⟩
  refine Le.of ?_ ?_<;>simp [go_sem,simprocAttr,jJ,hb,qj]
  omega
 ·obtain rfl:j=O.length:=by omega
  have hm2:=mE (outs++ [[(es.length:Int)]])
  rw [← hL] at hm2 hins ⊢
  cases Nt:B with
  |nil=>
   have hb:decide (((A.length+1+O.length:Nat):Int)<(L.length:Int))=false:=decide_eq_false (by rw [hL,hlen,Nt];simp)
   repeat' (first|refine Rn.p ?_|(with_reducible apply And.intro)|((first|(refine hK _ ?_;clear hK K)|with_reducible intro K hK|refine Rs.p ?_|((with_reducible first|apply oP|apply oQ);exact rfl)|(refine au hX hC hP [(10000,10002),(10002,125),(10001,126)] (hins) rfl rfl rfl ?_ ?_ ?_ ?_ ?_ ?_ ?_ ?_ ?_ ?_ ?_ ?_ ?_ ?_;(focus (simp only [go_sem,simprocAttr,jJ,rI,hb];done));(iterate 12 (focus (simp [go_sem,simprocAttr,jJ,rI,hb];done)));try simp only [List.map_cons,List.map_nil]));try simp only [go_sem,simprocAttr,jJ,rI,hb])|((with_reducible refine oD ?_ ?_);kernel_rfl)|((with_reducible intro h);try simp only [go_sem,simprocAttr,jJ,rI,hb] at h)|omega|intro h)
   all_goals rfl
  |cons u r=>
   have hb:decide (((A.length+1+O.length:Nat):Int)<(L.length:Int))=true:=decide_eq_true (by rw [hL,hlen,Nt];simp;omega)
   have qj:L.getD (A.length+1+O.length) 0=u:=by rw [hL,Nt];exact Jn
   have N1:=hm2 u
   rw [hB u r Nt] at N1
   have hjl:A.length+1+O.length<L.length:=by rw [hL,hlen,Nt];simp
   repeat' (first|refine Rn.p ?_|(with_reducible apply And.intro)|((first|(refine hK _ ?_;clear hK K)|with_reducible intro K hK|refine Rs.p ?_|((with_reducible first|apply oP|apply oQ);exact rfl)|(refine au hX hC hP [(10000,10002),(10002,125),(10001,126)] (hins) rfl rfl rfl ?_ ?_ ?_ ?_ ?_ ?_ ?_ ?_ ?_ ?_ ?_ ?_ ?_ ?_;(focus (simp only [go_sem,simprocAttr,jJ,rI,hb,qj];done));(iterate 12 (focus (simp [go_sem,simprocAttr,jJ,rI,hb,qj];done)));try simp only [List.map_cons,List.map_nil])|(refine au hX hC hP [(10000,10000),(10001,51),(10002,10002),(10003,73),(10004,10004)] (N1) rfl rfl rfl ?_ ?_ ?_ ?_ ?_ ?_ ?_ ?_ ?_ ?_ ?_ ?_ ?_ ?_;(focus (simp only [go_sem,simprocAttr,jJ,rI,hb,qj];done));(iterate 12 (focus (simp [go_sem,simprocAttr,jJ,rI,hb,qj];done)));try simp only [List.map_cons,List.map_nil]));try simp only [go_sem,simprocAttr,jJ,rI,hb,qj])|((with_reducible refine oD ?_ ?_);kernel_rfl)|((with_reducible intro h);try simp only [go_sem,simprocAttr,jJ,rI,hb,qj] at h)|omega|intro h)
   all_goals rfl
end Go.Ab
end
section
namespace Go.Ab
open Go.Proofs
set_option maxRecDepth 10000
def EO (q:Nat→Bool):Nat→Nat
 |0=>0
 |n+1=>EO q n ||| (if q n then 2 ^ n else 0)
theorem lS {q:Nat→Bool} {y:Nat} :∀ {n:Nat},(EO q n).testBit y=(decide (y<n)&&q y)
 |0=>by simp [EO]
 |n+1=>by
  rw [EO,Nat.testBit_or,lS]
  by_cases h:y=n
  ·subst h
   cases hq:q y<;>simp [Nat.testBit_two_pow_self]
  ·have h2:(if q n then 2 ^ n else 0).testBit y=false:=by
    split
    ·rw [Nat.testBit_two_pow];exact decide_eq_false fun e=>h e.symm
    ·simp
   rw [h2,Bool.or_false]
   congr 1
   rw [decide_eq_decide];omega
theorem Jp {q:Nat→Bool} {n:Nat} :EO q n<2 ^ n:=by
 refine Nat.lt_pow_two_of_testBit _ fun i hi=> ?_
 rw [lS,decide_eq_false (by omega)];rfl
inductive nV (g:Gr) (both:Bool) (c:Nat→Bool) (x:Nat):Nat→Prop
 |refl:nV g both c x x
 |fwd {i:Nat} :i<g.es.length→c i=true→nV g both c x (tl g i).toNat→nV g both c x (hd g i).toNat
 |Ia {i:Nat} :i<g.es.length→c i=true→both=true→nV g both c x (hd g i).toNat→nV g both c x (tl g i).toNat
theorem nV.trans {g:Gr} {both:Bool} {c:Nat→Bool} {x y z:Nat} (h1:nV g both c x y) (h2:nV g both c y z):nV g both c x z:=by
 induction h2 with
 |refl=>exact h1
 |fwd a b _ ih=>exact .fwd a b ih
 |Ia a b d _ ih=>exact .Ia a b d ih
open Classical in
noncomputable def Od (g:Gr) (both:Bool) (c:Nat→Bool) (x:Nat):Nat:=EO (fun y=>decide (nV g both c x y)) g.n.toNat
noncomputable def Cb (g:Gr) (both:Bool) (c:Nat→Bool):List Nat:=(List.range g.n.toNat).map (Od g both c)
theorem s7 {g:Gr} {both:Bool} {c:Nat→Bool} :(Cb g both c).length=g.n.toNat:=by simp [Cb]
theorem yV {g:Gr} {both:Bool} {c:Nat→Bool} {x:Nat} (h:x<g.n.toNat):(Cb g both c).getD x 0=Od g both c x:=by
 simp [Cb,List.getD_eq_getElem?_getD,List.getElem?_range h]
open Classical in
theorem yW {g:Gr} {both:Bool} {c:Nat→Bool} {x y:Nat} :(Od g both c x).testBit y=true↔y<g.n.toNat∧nV g both c x y:=by
 unfold Od
 rw [lS]
 simp
def bT (g:Gr) (both:Bool) (c:Nat→Bool) (a:List Nat):Nat→List Nat × Bool
 |0=>(a,false)
 |k+1=>
  let s:=bT g both c a k
  if c k=true then
   let t:=s.1.getD (tl g k).toNat 0 ||| s.1.getD (hd g k).toNat 0
   let h:=if both=true then t else s.1.getD (hd g k).toNat 0
   ((s.1.set (tl g k).toNat t).set (hd g k).toNat h,s.2||(decide (t≠s.1.getD (tl g k).toNat 0)||decide (h≠s.1.getD (hd g k).toNat 0)))
  else s
theorem qP {g:Gr} {both:Bool} {c:Nat→Bool} {a:List Nat} :∀ {k:Nat},(bT g both c a k).1.length=a.length
 |0=>rfl
 |k+1=>by
  simp only [bT]
  split
  ·simp [qP]
  ·exact qP
theorem nL {l:List Nat} {i j:Nat} {a:Nat} (hi:i<l.length):(l.set i a).getD j 0=if j=i then a else l.getD j 0:=by
 rw [List.getD_eq_getElem?_getD,List.getElem?_set]
 by_cases h:i=j
 ·subst h;rw [if_pos rfl,if_pos hi,if_pos rfl];rfl
 ·rw [if_neg h,if_neg (Ne.symm h), ← List.getD_eq_getElem?_getD]
structure Fl (g:Gr) (both:Bool) (c:Nat→Bool) (a:List Nat):Prop where
 len:a.length=g.n.toNat
 own:∀x,x<g.n.toNat→(a.getD x 0).testBit x=true
 snd:∀x y,x<g.n.toNat→(a.getD x 0).testBit y=true→y<g.n.toNat∧nV g both c x y
theorem Fl.lt {g:Gr} {both:Bool} {c:Nat→Bool} {a:List Nat} (h:Fl g both c a) (hn:g.n.toNat≤64) (x:Nat):a.getD x 0<18446744073709551616:=by
 by_cases hx:x<g.n.toNat
 ·have:a.getD x 0<2 ^ 64:=Nat.lt_pow_two_of_testBit _ fun i hi=>by
   cases hb:(a.getD x 0).testBit i with
   |false=>rfl
   |true=>have:=(h.snd x i hx hb).1;omega
  simpa using this
 ·rw [List.getD_eq_getElem?_getD,List.getElem?_eq_none (by rw [h.len];omega)];simp
theorem grow_step {g:Gr} (hm:aM g=true) {both:Bool} {c:Nat→Bool} {a:List Nat} (h:Fl g both c a) {i:Nat} (hi:i<g.es.length) (hc:c i=true):
 Fl g both c ((a.set (tl g i).toNat (a.getD (tl g i).toNat 0 ||| a.getD (hd g i).toNat 0)).set (hd g i).toNat (if both=true then a.getD (tl g i).toNat 0 ||| a.getD (hd g i).toNat 0 else a.getD (hd g i).toNat 0))∧
 ∀x y,(a.getD x 0).testBit y=true→(((a.set (tl g i).toNat (a.getD (tl g i).toNat 0 ||| a.getD (hd g i).toNat 0)).set (hd g i).toNat (if both=true then a.getD (tl g i).toNat 0 ||| a.getD (hd g i).toNat 0 else a.getD (hd g i).toNat 0)).getD x 0).testBit y=true:=by
 obtain ⟨ht,hh⟩:=cT hm hi
 have ht:0≤tl g i∧tl g i<g.n:=ht
 have hh:0≤hd g i∧hd g i<g.n:=hh
 have hl:=h.len
 have tu:∀x,((a.set (tl g i).toNat (a.getD (tl g i).toNat 0 ||| a.getD (hd g i).toNat 0)).set (hd g i).toNat (if both=true then a.getD (tl g i).toNat 0 ||| a.getD (hd g i).toNat 0 else a.getD (hd g i).toNat 0)).getD x 0=
  if x=(hd g i).toNat then (if both=true then a.getD (tl g i).toNat 0 ||| a.getD (hd g i).toNat 0 else a.getD (hd g i).toNat 0) else if x=(tl g i).toNat then a.getD (tl g i).toNat 0 ||| a.getD (hd g i).toNat 0 else a.getD x 0:=fun x=>by
  rw [nL (by rw [List.length_set];omega),nL (by omega)]
 have mono:∀x y,(a.getD x 0).testBit y=true→(((a.set (tl g i).toNat (a.getD (tl g i).toNat 0 ||| a.getD (hd g i).toNat 0)).set (hd g i).toNat (if both=true then a.getD (tl g i).toNat 0 ||| a.getD (hd g i).toNat 0 else a.getD (hd g i).toNat 0)).getD x 0).testBit y=true:=fun x y hb=>by
  rw [tu]
  split
  ·rename_i e;subst e
   split
   ·rw [Nat.testBit_or,hb,Bool.or_true]
   ·exact hb
  ·split
   ·rename_i e;subst e
    rw [Nat.testBit_or,hb,Bool.true_or]
   ·exact hb
 refine ⟨⟨by simp [hl],fun x hx=>mono x x (h.own x hx),fun x y hx hb=> ?_⟩,mono⟩
 have e1:nV g both c (tl g i).toNat (hd g i).toNat:= .fwd hi hc .refl
 rw [tu] at hb
 split at hb
 ·rename_i e;subst e
  split at hb
  ·rename_i Qq
   rw [Nat.testBit_or,Bool.or_eq_true] at hb
   rcases hb with hb|hb
   ·obtain ⟨g1,g2⟩:=h.snd _ _ (by omega) hb
    exact ⟨g1,(nV.Ia hi hc Qq .refl).trans g2⟩
   ·exact h.snd _ _ hx hb
  ·exact h.snd _ _ hx hb
 ·split at hb
  ·rename_i e;subst e
   rw [Nat.testBit_or,Bool.or_eq_true] at hb
   rcases hb with hb|hb
   ·exact h.snd _ _ hx hb
   ·obtain ⟨g1,g2⟩:=h.snd _ _ (by omega) hb
    exact ⟨g1,e1.trans g2⟩
  ·exact h.snd _ _ hx hb
theorem jg {g:Gr} (hm:aM g=true) {both:Bool} {c:Nat→Bool} {a:List Nat} (h:Fl g both c a):∀ {k:Nat},k≤g.es.length→Fl g both c (bT g both c a k).1∧∀x y,(a.getD x 0).testBit y=true→((bT g both c a k).1.getD x 0).testBit y=true
 |0,_=>⟨h,fun x y hb=>hb⟩
 |k+1,hk=>by
  obtain ⟨i1,i2⟩:=jg hm h (k:=k) (by omega)
  simp only [bT]
  by_cases hc:c k=true
  ·rw [if_pos hc]
   obtain ⟨j1,j2⟩:=grow_step hm i1 (i:=k) (by omega) hc
   exact ⟨j1,fun x y hb=>j2 x y (i2 x y hb)⟩
  ·rw [if_neg hc];exact ⟨i1,i2⟩
def vv (a:List Nat):Nat:=a.foldr (· + ·) 0
theorem Di:∀ {a b:List Nat},a.length=b.length→(∀x,a.getD x 0≤b.getD x 0)→a≠b→vv a<vv b
 | [], [],_,_,hne=>absurd rfl hne
 |x::a,y::b,hl,h,hne=>by
  have h0:=h 0
  have hr:∀i,a.getD i 0≤b.getD i 0:=fun i=>by simpa using h (i+1)
  simp only [List.getD_cons_zero] at h0
  show x+vv a<y+vv b
  by_cases hab:a=b
  ·subst hab
   have:x≠y:=fun e=>hne (by rw [e])
   omega
  ·have:=Di (a:=a) (b:=b) (by simpa using hl) hr hab
   omega
theorem AX {m:Nat} :∀ {a:List Nat},(∀x,a.getD x 0<m)→vv a≤a.length*m
 | [],_=>by simp [vv]
 |x::a,h=>by
  have h0:=h 0
  have:=AX (a:=a) fun i=>by simpa using h (i+1)
  simp only [List.getD_cons_zero] at h0
  show x+vv a≤(a.length+1)*m
  rw [Nat.add_mul];omega
theorem oR {a b:Nat} (h:∀y,a.testBit y=true→b.testBit y=true):a≤b:=by
 have:a ||| b=b:=Nat.eq_of_testBit_eq fun y=>by
  rw [Nat.testBit_or]
  cases ha:a.testBit y with
  |false=>simp
  |true=>rw [h y ha];rfl
 rw [← this];exact Nat.left_le_or
theorem jC {g:Gr} {both:Bool} {c:Nat→Bool} {a:List Nat} :∀ {k:Nat},(bT g both c a k).2=false→(bT g both c a k).1=a∧∀i,i<k→c i=true→(a.getD (tl g i).toNat 0 ||| a.getD (hd g i).toNat 0=a.getD (tl g i).toNat 0)∧(both=true→a.getD (tl g i).toNat 0=a.getD (hd g i).toNat 0)
 |0,_=>⟨rfl,fun i hi=>by omega⟩
 |k+1,h=>by
  simp only [bT] at h ⊢
  by_cases hc:c k=true
  ·rw [if_pos hc] at h ⊢
   simp only [Bool.or_eq_false_iff,decide_eq_false_iff_not,Decidable.not_not] at h
   obtain ⟨h1,h2,h3⟩:=h
   obtain ⟨i1,i2⟩:=jC h1
   rw [i1] at h2 h3
   simp only [i1]
   have cD:∀ {l:List Nat} {i v:Nat},v=l.getD i 0→l.set i v=l:=fun {l i v} e=>by
    refine List.ext_getElem? fun j=> ?_
    rw [List.getElem?_set]
    split
    ·rename_i hj;subst hj
     split
     ·rename_i hl;rw [e,List.getD_eq_getElem?_getD,List.getElem?_eq_getElem hl];rfl
     ·rename_i hl;rw [List.getElem?_eq_none (by omega)]
    ·rfl
   refine ⟨by rw [cD h2,cD h3],fun i hi LV=> ?_⟩
   by_cases hik:i=k
   ·subst hik
    refine ⟨h2,fun hb=> ?_⟩
    rw [if_pos hb] at h3
    rw [← h2,h3]
   ·exact i2 i (by omega) LV
  ·rw [if_neg hc] at h ⊢
   obtain ⟨i1,i2⟩:=jC h
   refine ⟨i1,fun i hi LV=> ?_⟩
   by_cases hik:i=k
   ·subst hik;exact absurd LV hc
   ·exact i2 i (by omega) LV
theorem Cc {g:Gr} (hm:aM g=true) {both:Bool} {c:Nat→Bool} {a:List Nat} (h:Fl g both c a) (hne:(bT g both c a g.es.length).2=true):vv a<vv (bT g both c a g.es.length).1:=by
 obtain ⟨_,i2⟩:=jg hm h (Nat.le_refl g.es.length)
 refine Di qP.symm (fun x=>oR (i2 x)) fun e=> ?_
 have key:∀k,k≤g.es.length→(bT g both c a k).2=false:=by
  intro k
  induction k with
  |zero=>intro _;rfl
  |succ k ih=>
   intro hk
   have ih:=ih (by omega)
   have Rj:=(jC ih).1
   simp only [bT]
   by_cases hc:c k=true
   ·rw [if_pos hc]
    simp only [Bool.or_eq_false_iff,decide_eq_false_iff_not,Decidable.not_not,ih,Rj,true_and]
    obtain ⟨j1,j2⟩:=jg hm h (k:=k) (by omega)
    have later:∀d,k+1+d≤g.es.length→∀x y,((bT g both c a (k+1)).1.getD x 0).testBit y=true→((bT g both c a (k+1+d)).1.getD x 0).testBit y=true:=by
     intro d
     induction d with
     |zero=>intro _ x y hb;exact hb
     |succ d Te=>
      intro hd x y hb
      have hb:=Te (by omega) x y hb
      show ((bT g both c a (k+1+d+1)).1.getD x 0).testBit y=true
      simp only [bT] at hb ⊢
      split
      ·rename_i CU
       exact (grow_step hm (jg hm h (k:=k+1+d) (by omega)).1 (i:=k+1+d) (by omega) CU).2 x y hb
      ·exact hb
    have r8:=later (g.es.length - (k+1)) (by omega)
    rw [show k+1+(g.es.length - (k+1))=g.es.length by omega, ← e] at r8
    have y4:(bT g both c a (k+1)).1=(a.set (tl g k).toNat (a.getD (tl g k).toNat 0 ||| a.getD (hd g k).toNat 0)).set (hd g k).toNat (if both=true then a.getD (tl g k).toNat 0 ||| a.getD (hd g k).toNat 0 else a.getD (hd g k).toNat 0):=by
     simp only [bT];rw [if_pos hc,Rj]
    obtain ⟨ht,hh⟩:=cT hm (k:=k) (by omega)
    have ht:0≤tl g k∧tl g k<g.n:=ht
    have hh:0≤hd g k∧hd g k<g.n:=hh
    have hl:=h.len
    have tu:∀x,(bT g both c a (k+1)).1.getD x 0=if x=(hd g k).toNat then (if both=true then a.getD (tl g k).toNat 0 ||| a.getD (hd g k).toNat 0 else a.getD (hd g k).toNat 0) else if x=(tl g k).toNat then a.getD (tl g k).toNat 0 ||| a.getD (hd g k).toNat 0 else a.getD x 0:=fun x=>by
     rw [y4,nL (by rw [List.length_set];omega),nL (by omega)]
    have g1:(if both=true then a.getD (tl g k).toNat 0 ||| a.getD (hd g k).toNat 0 else a.getD (hd g k).toNat 0)=a.getD (hd g k).toNat 0:=by
     have:=oR (r8 (hd g k).toNat)
     rw [tu,if_pos rfl] at this
     split at this
     ·rename_i hb
      rw [if_pos hb]
      exact Nat.le_antisymm this Nat.right_le_or
     ·rename_i hb;rw [if_neg hb]
    refine ⟨?_,g1⟩
    by_cases heq:(tl g k).toNat=(hd g k).toNat
    ·rw [heq,Nat.or_self]
    ·have:=oR (r8 (tl g k).toNat)
     rw [tu,if_neg heq,if_pos rfl] at this
     exact Nat.le_antisymm this Nat.left_le_or
   ·rw [if_neg hc];exact ih
 rw [key _ (Nat.le_refl _)] at hne
 cases hne
theorem EP {g:Gr} (hm:aM g=true) {both:Bool} {c:Nat→Bool} {a:List Nat} (h:Fl g both c a) (hne:(bT g both c a g.es.length).2=false):a=Cb g both c:=by
 obtain ⟨_,hcl⟩:=jC hne
 have comp:∀x y,x<g.n.toNat→nV g both c x y→∀w,w<g.n.toNat→nV g both c w x→True:=fun _ _ _ _ _ _ _=>trivial
 have key:∀ {x y:Nat},nV g both c x y→∀z,(a.getD y 0).testBit z=true→(a.getD x 0).testBit z=true:=by
  intro x y hR
  induction hR with
  |refl=>exact fun z hz=>hz
  | @fwd i hi hc _ ih=>
    intro z hz
    refine ih z ?_
    rw [← (hcl i hi hc).1,Nat.testBit_or,hz,Bool.or_true]
  | @Ia i hi hc hb _ ih=>
    intro z hz
    refine ih z ?_
    rw [← (hcl i hi hc).2 hb];exact hz
 refine List.ext_getElem? fun x=> ?_
 by_cases hx:x<g.n.toNat
 ·have e:a.getD x 0=(Cb g both c).getD x 0:=by
   rw [yV hx]
   refine Nat.eq_of_testBit_eq fun y=> ?_
   rw [Bool.eq_iff_iff,yW]
   refine ⟨h.snd x y hx,fun ⟨h1,h2⟩=>key h2 y (h.own y h1)⟩
  rw [List.getD_eq_getElem?_getD,List.getD_eq_getElem?_getD,List.getElem?_eq_getElem (by rw [h.len];exact hx),List.getElem?_eq_getElem (by rw [s7];exact hx)] at e
  rw [List.getElem?_eq_getElem (by rw [h.len];exact hx),List.getElem?_eq_getElem (by rw [s7];exact hx)]
  simpa using e
 ·rw [List.getElem?_eq_none (by rw [h.len];omega),List.getElem?_eq_none (by rw [s7];omega)]
end Go.Ab
end
section
namespace Go.Ab
open Go.Proofs
attribute [local congr] ACall.congr gd.congr Nx.congr
set_option maxRecDepth 20000
set_option maxHeartbeats 8000000
def rU (n:Nat):List D:= [.sc (.int .u64 (n:Int))]
def eU (n:Nat):AV:= .d (.sc (.int .u64 (n:Int)))
def sU (l:List Nat):D:= .sl 1 (l.map rU)
theorem getD_rU (ps:List Nat) (i:Nat):(ps.map rU).getD i [.sc (.int .u64 0)]= [.sc (.int .u64 ((ps.getD i 0:Nat):Int))]:=by
 rw [List.getD_eq_getElem?_getD,List.getElem?_map,List.getD_eq_getElem?_getD]
 cases ps[i]? <;>rfl
theorem j5 (l:List Nat) (k:Nat) (v:Nat):(l.map rU).set k [.sc (.int .u64 (v:Int))]=(l.set k v).map rU:=by
 rw [List.map_set];rfl
attribute [go_sem] eU sU getD_rU InU
theorem Jq {s x:Nat} :decide ((((s >>> x &&& 1:Nat)):Int)=1)=s.testBit x:=by
 rw [Bool.eq_iff_iff,decide_eq_true_eq,Nat.testBit,Nat.and_comm]
 have:1 &&& s >>> x=0∨1 &&& s >>> x=1:=by
  rw [Nat.and_comm,Nat.and_one_is_mod];omega
 rcases this with h|h<;>rw [h]<;>simp
theorem ER (s:Nat) (hs:s<18446744073709551616) (x:Int):Spec Tryz.prog 26 (Args [eU s,eN x]) [] (eB (decide (0≤x)&&decide (x<64)&&s.testBit x.toNat)) []:=by
 by_cases h0:0≤x
 rotate_left
 ·have hb0:decide (0≤x)=false:=decide_eq_false h0
  (refine Spec.hd (C:=T.cfg [] []) (rs:= [.t 4]) (T.aj _ _) Tryz.func26 rfl rfl Tryz.ntmps26 Tryz.results26 (by simp [AObj.isNest]) (by simp [AObj.isNest]) (by kernel_rfl) T.mixed fun X hX hP hC aJ b7=> ?_)
  repeat' (first|refine Rn.p ?_|(with_reducible apply And.intro)|((first|(refine hK _ ?_;clear hK K)|with_reducible intro K hK|refine Rs.p ?_|((with_reducible first|apply oP|apply oQ);exact rfl));try simp only [go_sem,simprocAttr,hb0])|((with_reducible refine oD ?_ ?_);kernel_rfl)|((with_reducible intro h);try simp only [go_sem,simprocAttr,hb0] at h)|omega|intro h)
 have hb0:decide (0≤x)=true:=decide_eq_true h0
 by_cases h1:x<64
 rotate_left
 ·have hb1:decide (x<64)=false:=decide_eq_false h1
  (refine Spec.hd (C:=T.cfg [] []) (rs:= [.t 4]) (T.aj _ _) Tryz.func26 rfl rfl Tryz.ntmps26 Tryz.results26 (by simp [AObj.isNest]) (by simp [AObj.isNest]) (by kernel_rfl) T.mixed fun X hX hP hC aJ b7=> ?_)
  repeat' (first|refine Rn.p ?_|(with_reducible apply And.intro)|((first|(refine hK _ ?_;clear hK K)|with_reducible intro K hK|refine Rs.p ?_|((with_reducible first|apply oP|apply oQ);exact rfl));try simp only [go_sem,simprocAttr,hb0,hb1])|((with_reducible refine oD ?_ ?_);kernel_rfl)|((with_reducible intro h);try simp only [go_sem,simprocAttr,hb0,hb1] at h)|omega|intro h)
 have hb1:decide (x<64)=true:=decide_eq_true h1
 obtain ⟨i,rfl⟩:∃i:Nat,x=i:=⟨x.toNat,by omega⟩
 have hlt:s >>> i<18446744073709551616:=Nat.lt_of_le_of_lt (Nat.shiftRight_le s i) hs
 have ha:=Jq (s:=s) (x:=i)
 generalize hq:s >>> i=q at hlt ha
 (refine Spec.hd (C:=T.cfg [] []) (rs:= [.t 4]) (T.aj _ _) Tryz.func26 rfl rfl Tryz.ntmps26 Tryz.results26 (by simp [AObj.isNest]) (by simp [AObj.isNest]) (by kernel_rfl) T.mixed fun X hX hP hC aJ b7=> ?_)
 repeat' (first|refine Rn.p ?_|(with_reducible apply And.intro)|((first|(refine hK _ ?_;clear hK K)|with_reducible intro K hK|refine Rs.p ?_|((with_reducible first|apply oP|apply oQ);exact rfl));try simp only [go_sem,simprocAttr,hb0,hb1,hq,ha])|((with_reducible refine oD ?_ ?_);kernel_rfl)|((with_reducible intro h);try simp only [go_sem,simprocAttr,hb0,hb1,hq,ha] at h)|omega|intro h)
theorem HC (x:Nat) (hx:x<64):Spec Tryz.prog 114 (Args [.d (.sl 1 [[.sc (.int .i64 (x:Int))]])]) [] (eU (2 ^ x)) []:=by
 have hsh:1 <<< x % 18446744073709551616=2 ^ x:=by
  rw [Nat.shiftLeft_eq,Nat.one_mul,Nat.mod_eq_of_lt]
  exact Nat.lt_of_lt_of_le (Nat.pow_lt_pow_right (by decide) hx) (by decide)
 have hlt:2 ^ x<18446744073709551616:=Nat.lt_of_lt_of_le (Nat.pow_lt_pow_right (by decide) hx) (by decide)
 have hb1:decide (0≤(x:Int))=true:=decide_eq_true (by omega)
 have hb2:decide ((x:Int)<64)=true:=decide_eq_true (by omega)
 (refine Spec.hd (C:=T.cfg [] []) (rs:= [.t 2]) (T.aj _ _) Tryz.func114 rfl rfl Tryz.ntmps114 Tryz.results114 (by simp [AObj.isNest]) (by simp [AObj.isNest]) (by kernel_rfl) T.mixed fun X hX hP hC aJ b7=> ?_)
 repeat' (first|refine Rn.p ?_|(with_reducible apply And.intro)|((first|(refine hK _ ?_;clear hK K)|with_reducible intro K hK|refine Rs.p ?_|((with_reducible first|apply oP|apply oQ);exact rfl));try simp only [go_sem,simprocAttr])|((with_reducible refine oD ?_ ?_);kernel_rfl)|((with_reducible intro h);try simp only [go_sem,simprocAttr] at h)|omega|intro h)
 refine ah (fun k:Nat=>k≤1) (fun k=>⟨[(2,eU (if k=0 then 0 else 2 ^ x)),(5, .d (.sl 1 [[.sc (.int .i64 (x:Int))]])),(6,eN 1),(7,eN k)], []⟩) (fun k=>1 - k) 0 (by omega) ?_ ?_
 ·refine Le.of ?_ ?_<;>simp [go_sem,simprocAttr]
 rintro k hk
 match k,hk with
 |0,_=>
  repeat' (first|refine Rn.p ?_|(with_reducible apply And.intro)|((first|(refine hK _ ?_;clear hK K)|with_reducible intro K hK|refine Rs.p ?_|((with_reducible first|apply oP|apply oQ);exact rfl));try simp only [go_sem,simprocAttr,hsh,hb1,hb2,Nat.zero_or])|((with_reducible refine oD ?_ ?_);kernel_rfl)|((with_reducible intro h);try simp only [go_sem,simprocAttr,hsh,hb1,hb2,Nat.zero_or] at h)|omega|intro h)
  all_goals (refine ⟨1,by omega, ?_,by omega⟩)
  all_goals (refine Le.of ?_ ?_<;>simp [go_sem,simprocAttr,hsh,hb1,hb2,Nat.zero_or])
 |1,_=>
  repeat' (first|refine Rn.p ?_|(with_reducible apply And.intro)|((first|(refine hK _ ?_;clear hK K)|with_reducible intro K hK|refine Rs.p ?_|((with_reducible first|apply oP|apply oQ);exact rfl));try simp only [go_sem,simprocAttr])|((with_reducible refine oD ?_ ?_);kernel_rfl)|((with_reducible intro h);try simp only [go_sem,simprocAttr] at h)|omega|intro h)
end Go.Ab
end
section
namespace Go.Ab
open Go.Proofs
attribute [local congr] ACall.congr gd.congr Nx.congr
set_option maxRecDepth 20000
set_option maxHeartbeats 8000000
def qQ (k:Nat):List Nat:=(List.range k).map fun x=>2 ^ x
theorem ES {k:Nat} :qQ (k+1)=qQ k++ [2 ^ k]:=by simp [qQ,List.range_succ]
theorem vA {k:Nat} :(qQ k).length=k:=by simp [qQ]
def jW (g:Gr):List Nat:=if aM g=true then qQ g.n.toNat else []
theorem Cd (g:Gr) (hl:g.es.length≤9223372036854775807):Spec Tryz.prog 64 (Args [eG g]) [] (.ref 10000) [(10000, .own 49 1 ((jW g).map rU))]:=by
 have hM:=gj g hl
 cases hm:aM g with
 |false=>
  rw [hm] at hM
  have he:jW g= []:=by unfold jW;rw [hm];rfl
  rw [he]
  (refine Spec.uf (C:=T.cfg [200,17] []) (rs:= [.t 2]) [(10000,200)] (T.aj _ _) Tryz.func64 rfl rfl Tryz.ntmps64 Tryz.results64 (by simp [AObj.isNest]) (by simp [AObj.isNest]) (by first|(simp [look];done)|(simp [asN];done)|(intro l hl;simp only [asN];repeat (rw [if_neg (fun e=>by subst e;simp [look] at hl)]))) (by first|(simp [look];done)|(simp [asN];done)|(intro l hl;simp only [asN];repeat (rw [if_neg (fun e=>by subst e;simp [look] at hl)]))) (by kernel_rfl) T.mixed fun X hX hP hC aJ b7=> ?_)
  repeat' (first|(show bW _ .ret _ _;(try simp only [go_sem,simprocAttr]);refine dX hX 2 200 (.own 49 1 []) ?_ ?_ (by decide) ⟨49,1,by decide, .inl rfl⟩ ?_;(iterate 2 (focus (simp only [go_sem,simprocAttr];done)));simp only [go_sem,simprocAttr])|refine Rn.p ?_|(with_reducible apply And.intro)|((first|(refine hK _ ?_;clear hK K)|with_reducible intro K hK|refine Rs.p ?_|((with_reducible first|apply oP|apply oQ);exact rfl)|refine aa hX hC hP (hM) rfl rfl rfl (by simp only [go_sem,simprocAttr]) rfl ?_);try simp only [go_sem,simprocAttr])|((with_reducible refine oD ?_ ?_);kernel_rfl)|((with_reducible intro h);try simp only [go_sem,simprocAttr] at h)|omega|intro h)
 |true=>
  rw [hm] at hM
  have hn:=aH hm
  have he:jW g=qQ g.n.toNat:=by unfold jW;rw [if_pos hm]
  rw [he]
  (refine Spec.uf (C:=T.cfg [200,17] []) (rs:= [.t 2]) [(10000,200)] (T.aj _ _) Tryz.func64 rfl rfl Tryz.ntmps64 Tryz.results64 (by simp [AObj.isNest]) (by simp [AObj.isNest]) (by first|(simp [look];done)|(simp [asN];done)|(intro l hl;simp only [asN];repeat (rw [if_neg (fun e=>by subst e;simp [look] at hl)]))) (by first|(simp [look];done)|(simp [asN];done)|(intro l hl;simp only [asN];repeat (rw [if_neg (fun e=>by subst e;simp [look] at hl)]))) (by kernel_rfl) T.mixed fun X hX hP hC aJ b7=> ?_)
  repeat' (first|(show bW _ (.seq (.region 3 _ _) _) _ _;(refine dX hX 2 200 (.own 49 1 []) ?_ ?_ (by decide) ⟨49,1,by decide, .inl rfl⟩ ?_;(iterate 2 (focus (simp only [go_sem,simprocAttr];done)));simp only [go_sem,simprocAttr]))|refine Rn.p ?_|(with_reducible apply And.intro)|((first|(refine hK _ ?_;clear hK K)|with_reducible intro K hK|refine Rs.p ?_|((with_reducible first|apply oP|apply oQ);exact rfl)|refine aa hX hC hP (hM) rfl rfl rfl (by simp only [go_sem,simprocAttr]) rfl ?_);try simp only [go_sem,simprocAttr])|((with_reducible refine oD ?_ ?_);kernel_rfl)|((with_reducible intro h);try simp only [go_sem,simprocAttr] at h)|omega|intro h)
  refine ah (fun k:Nat=>k≤g.n.toNat) (fun k=>⟨[(2, .ref 200),(8,eN g.n),(9,eN k)], [(200, .own 49 1 ((qQ k).map rU))]⟩) (fun k=>g.n.toNat - k) 0 (by omega) ?_ ?_
  ·refine Le.of ?_ ?_<;>simp [go_sem,simprocAttr,qQ]
  rintro k hk
  rcases Nat.lt_or_ge k g.n.toNat with hlt|hge
  ·have hb:decide ((k:Int)<g.n)=true:=decide_eq_true (by omega)
   have sG:=vA (k:=k)
   have b9:=ES (k:=k)
   have Tf:=HC k (by omega)
   generalize qQ k=O1 at sG b9
   repeat' (first|(show bW _ (.region 7 _ _) _ _;(refine lB hX 2 17 200 (by simp only [go_sem,simprocAttr,hb,sG]) rfl (by first|exact .inl rfl|exact .inr rfl) (by decide) ?_;simp only [go_sem,simprocAttr,hb,sG]))|refine Rn.p ?_|(with_reducible apply And.intro)|((first|(refine hK _ ?_;clear hK K)|with_reducible intro K hK|refine Rs.p ?_|((with_reducible first|apply oP|apply oQ);exact rfl)|(refine cE hX hC hP (Tf) rfl rfl rfl ?_ ?_ rfl ?_;iterate 2 (focus (simp only [go_sem,simprocAttr,hb,sG];done))));try simp only [go_sem,simprocAttr,hb,sG])|((with_reducible refine oD ?_ ?_);kernel_rfl)|((with_reducible intro h);try simp only [go_sem,simprocAttr,hb,sG] at h)|omega|intro h)
   refine ⟨k+1,by omega, ?_,by omega⟩
   rw [b9]
   refine Le.of ?_ ?_<;>simp [go_sem,simprocAttr,hb,sG,rU]
  ·have hb:decide ((k:Int)<g.n)=false:=decide_eq_false (by omega)
   obtain rfl:k=g.n.toNat:=by omega
   repeat' (first|refine Rn.p ?_|(with_reducible apply And.intro)|((first|(refine hK _ ?_;clear hK K)|with_reducible intro K hK|refine Rs.p ?_|((with_reducible first|apply oP|apply oQ);exact rfl));try simp only [go_sem,simprocAttr,hb])|((with_reducible refine oD ?_ ?_);kernel_rfl)|((with_reducible intro h);try simp only [go_sem,simprocAttr,hb] at h)|omega|intro h)
theorem Rk {a b:Nat} :(!decide ((a:Int)=(b:Int)))=decide (a≠b):=by
 by_cases h:a=b
 ·simp [h]
 ·simp [h];omega
theorem Jr {g:Gr} (hn:g.n.toNat≤64) (both:Bool) (c:Nat→Bool):∃M:Nat,∀b:List Nat,Fl g both c b→vv b≤M:=
 ⟨_,fun b hb=>by have:=AX (a:=b) fun x=>hb.lt hn x;rw [hb.len] at this;exact this⟩
theorem rL {l:List Nat} :∀r∈l.map rU,∀x∈r,∃v,x=D.sc v:=by
 intro r hr x hx
 obtain ⟨y,_,rfl⟩:=List.mem_map.1 hr
 simp only [rU,List.mem_singleton] at hx
 exact ⟨_,hx⟩
theorem ET {g:Gr} (hm:aM g=true) {both:Bool} {c:Nat→Bool} :Fl g both c (jW g):=by
 have he:jW g=qQ g.n.toNat:=by unfold jW;rw [if_pos hm]
 have qj:∀x,x<g.n.toNat→(qQ g.n.toNat).getD x 0=2 ^ x:=fun x hx=>by simp [qQ,List.getD_eq_getElem?_getD,List.getElem?_range hx]
 rw [he]
 refine ⟨vA,fun x hx=>by rw [qj x hx,Nat.testBit_two_pow_self],fun x y hx hb=> ?_⟩
 rw [qj x hx,Nat.testBit_two_pow] at hb
 have:x=y:=of_decide_eq_true hb
 subst this
 exact ⟨hx, .refl⟩
noncomputable def Uv (g:Gr):List Nat:=if aM g=true then Cb g false (fun _=>true) else []
end Go.Ab
end
section
namespace Go.Ab
open Go.Proofs
attribute [local congr] ACall.congr gd.congr Nx.congr
set_option maxRecDepth 20000
set_option maxHeartbeats 8000000
theorem Ce (g:Gr) (hm:aM g=true) (both:Bool) (c:Nat→Bool) (F:Nat) (i0:Int) (hF:∀i:Nat,i<g.es.length→Spec Tryz.prog F (Args [eN i, .ptr 10001 0]) [(10001, .rob [eN i0])] (eB (c i)) [(10001, .rob [eN i0])]) (a0:List Nat) (h0:Fl g both c a0):
 Spec Tryz.prog 65 (Args [eG g, .ref 10000,eB both, .fn F [] [.ptr 10001 0]]) [(10000, .own 49 1 (a0.map rU)),(10001, .box [eN i0])] (.tup []) [(10000, .own 49 1 ((Cb g both c).map rU)),(10001, .box [eN i0])]:=by
 have hn:=aH hm
 obtain ⟨M,hM⟩:=Jr (g:=g) (by omega) both c
 (refine Spec.hd (C:=T.cfg [] []) (rs:= []) (T.aj _ _) Tryz.func65 rfl rfl Tryz.ntmps65 Tryz.results65 (by simp [AObj.isNest]) (by simp [AObj.isNest]) (by kernel_rfl) T.mixed fun X hX hP hC aJ b7=> ?_)
 repeat' (first|refine Rn.p ?_|(with_reducible apply And.intro)|((first|(refine hK _ ?_;clear hK K)|with_reducible intro K hK|refine Rs.p ?_|((with_reducible first|apply oP|apply oQ);exact rfl));try simp only [go_sem,simprocAttr])|((with_reducible refine oD ?_ ?_);kernel_rfl)|((with_reducible intro h);try simp only [go_sem,simprocAttr] at h)|omega|intro h)
 refine ah (fun s:List Nat × Bool=>Fl g both c s.1∧(s.2=false→s.1=Cb g both c)) (fun s=>⟨[(1, .ref 10000),(2,eB both),(3, .fn F [] [.ptr 10001 0]),(4, .ptr 4 0),(8,eB s.2)], [(10000, .own 49 1 (s.1.map rU)),(10001, .box [eN i0]),(4, .box [eN g.n, .d (sE g.es)])]⟩) (fun s=>2*(M - vv s.1)+(if s.2=true then 1 else 0)) (a0,true) ⟨h0,by simp⟩ ?_ ?_
 ·refine Le.of ?_ ?_<;>simp [go_sem,simprocAttr]
 rintro ⟨a,more⟩ ⟨hG,r8⟩
 simp only at hG r8 ⊢
 cases more with
 |false=>
  have:=r8 rfl
  subst this
  repeat' (first|refine Rn.p ?_|(with_reducible apply And.intro)|((first|(refine hK _ ?_;clear hK K)|with_reducible intro K hK|refine Rs.p ?_|((with_reducible first|apply oP|apply oQ);exact rfl));try simp only [go_sem,simprocAttr])|((with_reducible refine oD ?_ ?_);kernel_rfl)|((with_reducible intro h);try simp only [go_sem,simprocAttr] at h)|omega|intro h)
 |true=>
 repeat' (first|refine Rn.p ?_|(with_reducible apply And.intro)|((first|(refine hK _ ?_;clear hK K)|with_reducible intro K hK|refine Rs.p ?_|((with_reducible first|apply oP|apply oQ);exact rfl));try simp only [go_sem,simprocAttr])|((with_reducible refine oD ?_ ?_);kernel_rfl)|((with_reducible intro h);try simp only [go_sem,simprocAttr] at h)|omega|intro h)
 refine ah (fun k:Nat=>k≤g.es.length) (fun k=>⟨[(1, .ref 10000),(2,eB both),(3, .fn F [] [.ptr 10001 0]),(4, .ptr 4 0),(8,eB (bT g both c a k).2),(15, .d (sE g.es)),(16,eN g.es.length),(17,eN k)], [(10000, .own 49 1 ((bT g both c a k).1.map rU)),(10001, .box [eN i0]),(4, .box [eN g.n, .d (sE g.es)])]⟩) (fun k=>g.es.length - k) 0 (by omega) ?_ ?_
 ·refine Le.of ?_ ?_<;>simp [go_sem,simprocAttr,bT]
 rintro k hk
 rcases Nat.lt_or_ge k g.es.length with hlt|hge
 rotate_left
 ·have hb:decide ((k:Int)<(g.es.length:Int))=false:=decide_eq_false (by omega)
  obtain rfl:k=g.es.length:=by omega
  obtain ⟨i1,_⟩:=jg hm hG (Nat.le_refl g.es.length)
  have Nu:=Cc hm hG
  have J2:=jC (g:=g) (both:=both) (c:=c) (a:=a) (k:=g.es.length)
  have hdone:=EP hm hG
  have CE:=hM _ i1
  generalize bT g both c a g.es.length=R at*
  repeat' (first|refine Rn.p ?_|(with_reducible apply And.intro)|((first|(refine hK _ ?_;clear hK K)|with_reducible intro K hK|refine Rs.p ?_|((with_reducible first|apply oP|apply oQ);exact rfl));try simp only [go_sem,simprocAttr,hb])|((with_reducible refine oD ?_ ?_);kernel_rfl)|((with_reducible intro h);try simp only [go_sem,simprocAttr,hb] at h)|omega|intro h)
  refine ⟨(R.1,R.2),⟨i1,fun hf=> ?_⟩, ?_, ?_⟩
  ·rw [(J2 hf).1];exact hdone hf
  ·refine Le.of ?_ ?_<;>simp [go_sem,simprocAttr,hb]
  ·cases Rl:R.2 with
   |true=>have:=Nu Rl;simp;omega
   |false=>rw [(J2 Rl).1];simp
 have hb:decide ((k:Int)<(g.es.length:Int))=true:=decide_eq_true (by omega)
 obtain ⟨Oe,_⟩:=jg hm hG (k:=k) (by omega)
 obtain ⟨ht,hh⟩:=cT hm hlt
 have Nv:=hF k hlt
 have Fm:=Oe.len
 have EK:=Oe.lt (by omega)
 obtain ⟨x,hx⟩:∃x:Nat,(g.es.getD k (0,0)).1=x:=⟨(g.es.getD k (0,0)).1.toNat,by omega⟩
 obtain ⟨y,hy⟩:∃y:Nat,(g.es.getD k (0,0)).2=y:=⟨(g.es.getD k (0,0)).2.toNat,by omega⟩
 have htl:(tl g k).toNat=x:=by show ((g.es.getD k (0,0)).1).toNat=x;rw [hx];rfl
 have Lc:(hd g k).toNat=y:=by show ((g.es.getD k (0,0)).2).toNat=y;rw [hy];rfl
 have b9:bT g both c a (k+1)=if c k=true then ((((bT g both c a k).1.set x ((bT g both c a k).1.getD x 0 ||| (bT g both c a k).1.getD y 0)).set y (if both=true then (bT g both c a k).1.getD x 0 ||| (bT g both c a k).1.getD y 0 else (bT g both c a k).1.getD y 0)),(bT g both c a k).2||(decide ((bT g both c a k).1.getD x 0 ||| (bT g both c a k).1.getD y 0≠(bT g both c a k).1.getD x 0)||decide ((if both=true then (bT g both c a k).1.getD x 0 ||| (bT g both c a k).1.getD y 0 else (bT g both c a k).1.getD y 0)≠(bT g both c a k).1.getD y 0))) else bT g both c a k:=by
  simp only [bT,htl,Lc]
 generalize bT g both c a k=R at Oe Fm EK b9
 obtain ⟨A,m1⟩:=R
 simp only at Oe Fm EK b9 ⊢
 have Th:=EK x
 have Ti:=EK y
 cases hc:c k with
 |false=>
  rw [hc] at Nv b9
  repeat' (first|refine Rn.p ?_|(with_reducible apply And.intro)|((first|(refine hK _ ?_;clear hK K)|with_reducible intro K hK|refine Rs.p ?_|((with_reducible first|apply oP|apply oQ);exact rfl)|(refine aI hX hC hP [(10001,10001)] (Nv) rfl rfl rfl ?_ ?_ ?_ ?_ ?_ ?_ rfl rfl ?_ ?_;(focus (simp only [go_sem,simprocAttr,hb,hx,hy];done));(iterate 6 (focus (simp [go_sem,simprocAttr,hb,hx,hy];done)));try simp only [List.map_cons,List.map_nil]));try simp only [go_sem,simprocAttr,hb,hx,hy])|((with_reducible refine oD ?_ ?_);kernel_rfl)|((with_reducible intro h);try simp only [go_sem,simprocAttr,hb,hx,hy] at h)|omega|intro h)
  refine ⟨k+1,by omega, ?_,by omega⟩
  rw [b9]
  refine Le.of ?_ ?_<;>simp [go_sem,simprocAttr,hb,hx,hy]
 |true=>
  rw [hc] at Nv b9
  rw [if_pos rfl] at b9
  have n1:=Rk (a:=A.getD x 0 ||| A.getD y 0) (b:=A.getD x 0)
  have n2:=Rk (a:=if both=true then A.getD x 0 ||| A.getD y 0 else A.getD y 0) (b:=A.getD y 0)
  have Qr:A.getD x 0 ||| A.getD y 0<18446744073709551616:=Nat.or_lt_two_pow (n:=64) Th Ti
  have Gw:(A.set x (A.getD x 0 ||| A.getD y 0)).length=A.length:=List.length_set ..
  generalize Bx:A.getD x 0 ||| A.getD y 0=t at n1 n2 b9 Qr Gw
  generalize Nw:decide (t≠A.getD x 0)=d1 at n1 b9
  cases both with
  |true=>
   rw [if_pos rfl] at n2 b9
   generalize yS:decide (t≠A.getD y 0)=d2 at n2 b9
   clear Nw yS
   cases m1<;>cases d1<;>cases d2<;>simp only [Bool.or_false,Bool.or_true,Bool.false_or,Bool.true_or] at b9
   all_goals (repeat' (first|refine Rn.p ?_|(with_reducible apply And.intro)|((first|(refine hK _ ?_;clear hK K)|with_reducible intro K hK|refine Rs.p ?_|((with_reducible first|apply oP|apply oQ);exact rfl)|(refine aI hX hC hP [(10001,10001)] (Nv) rfl rfl rfl ?_ ?_ ?_ ?_ ?_ ?_ rfl rfl ?_ ?_;(focus (simp only [go_sem,simprocAttr,hb,hx,hy,Bx,n1,n2,Fm,j5,List.length_set];done));(iterate 6 (focus (simp [go_sem,simprocAttr,hb,hx,hy,Bx,n1,n2,Fm,j5,List.length_set];done)));try simp only [List.map_cons,List.map_nil]));try simp only [go_sem,simprocAttr,hb,hx,hy,Bx,n1,n2,Fm,j5,List.length_set])|((with_reducible refine oD ?_ ?_);kernel_rfl)|((with_reducible intro h);try simp only [go_sem,simprocAttr,hb,hx,hy,Bx,n1,n2,Fm,j5,List.length_set] at h)|omega|intro h))
   all_goals (refine ⟨k+1,by omega, ?_,by omega⟩)
   all_goals (rw [b9])
   all_goals (refine Le.of ?_ ?_<;>simp [go_sem,simprocAttr,hb,hx,hy,Bx,n1,n2,Fm,j5,List.length_set])
  |false=>
   rw [if_neg (by simp)] at n2 b9
   have yS:decide (A.getD y 0≠A.getD y 0)=false:=decide_eq_false fun h=>h rfl
   rw [yS] at n2 b9
   clear Nw
   cases m1<;>cases d1<;>simp only [Bool.or_false,Bool.or_true,Bool.false_or,Bool.true_or] at b9
   all_goals (repeat' (first|refine Rn.p ?_|(with_reducible apply And.intro)|((first|(refine hK _ ?_;clear hK K)|with_reducible intro K hK|refine Rs.p ?_|((with_reducible first|apply oP|apply oQ);exact rfl)|(refine aI hX hC hP [(10001,10001)] (Nv) rfl rfl rfl ?_ ?_ ?_ ?_ ?_ ?_ rfl rfl ?_ ?_;(focus (simp only [go_sem,simprocAttr,hb,hx,hy,Bx,n1,n2,Fm,j5,List.length_set];done));(iterate 6 (focus (simp [go_sem,simprocAttr,hb,hx,hy,Bx,n1,n2,Fm,j5,List.length_set];done)));try simp only [List.map_cons,List.map_nil]));try simp only [go_sem,simprocAttr,hb,hx,hy,Bx,n1,n2,Fm,j5,List.length_set])|((with_reducible refine oD ?_ ?_);kernel_rfl)|((with_reducible intro h);try simp only [go_sem,simprocAttr,hb,hx,hy,Bx,n1,n2,Fm,j5,List.length_set] at h)|omega|intro h))
   all_goals (refine ⟨k+1,by omega, ?_,by omega⟩)
   all_goals (rw [b9])
   all_goals (refine Le.of ?_ ?_<;>simp [go_sem,simprocAttr,hb,hx,hy,Bx,n1,n2,Fm,j5,List.length_set])
theorem HD (i k:Int):Spec Tryz.prog 87 (Args [eN k, .ptr 10001 0]) [(10001, .rob [eN i])] (eB (!decide (k=i))) [(10001, .rob [eN i])]:=by
 (refine Spec.hd (C:=T.cfg [] []) (rs:= [.t 3]) (T.aj _ _) Tryz.func87 rfl rfl Tryz.ntmps87 Tryz.results87 (by simp [AObj.isNest]) (by simp [AObj.isNest]) (by kernel_rfl) T.mixed fun X hX hP hC aJ b7=> ?_)
 repeat' (first|refine Rn.p ?_|(with_reducible apply And.intro)|((first|(refine hK _ ?_;clear hK K)|with_reducible intro K hK|refine Rs.p ?_|((with_reducible first|apply oP|apply oQ);exact rfl));try simp only [go_sem,simprocAttr])|((with_reducible refine oD ?_ ?_);kernel_rfl)|((with_reducible intro h);try simp only [go_sem,simprocAttr] at h)|omega|intro h)
def oS (i:Nat) (k:Nat):Bool:= !decide ((k:Int)=(i:Int))
noncomputable def Bn (g:Gr) (i:Nat):Bool:=((Cb g false (oS i)).getD (tl g i).toNat 0).testBit (hd g i).toNat
noncomputable def y5 (g:Gr) (k:Nat):List Int:=((List.range k).filter fun i=>Bn g i).map fun i:Nat=>(i:Int)
noncomputable def dU (g:Gr):List Int:=if aM g=true then y5 g g.es.length else []
theorem qe {g:Gr} {k:Nat} :y5 g (k+1)=if Bn g k=true then y5 g k++ [(k:Int)] else y5 g k:=by
 unfold y5
 rw [List.range_succ,List.filter_append,List.map_append]
 cases h:Bn g k with
 |true=>rw [if_pos rfl,List.filter_cons,if_pos h];rfl
 |false=>rw [if_neg (by simp),List.filter_cons,if_neg (by rw [h];decide)];simp
theorem Dj {g:Gr} {k:Nat} :(y5 g k).length≤k:=by
 unfold y5
 rw [List.length_map]
 exact Nat.le_trans (List.length_filter_le _ _) (by simp)
theorem Dk (g:Gr) (hl:g.es.length≤9223372036854775807):Spec Tryz.prog 42 (Args [eG g]) [] (.d (sI (dU g))) []:=by
 have hE:=Cd g hl
 (refine Spec.hd (C:=T.cfg [200,34,33] []) (rs:= [.t 2]) (T.aj _ _) Tryz.func42 rfl rfl Tryz.ntmps42 Tryz.results42 (by simp [AObj.isNest]) (by simp [AObj.isNest]) (by kernel_rfl) T.mixed fun X hX hP hC aJ b7=> ?_)
 repeat' (first|(show bW _ (.seq (.region 1 _ _) _) _ _;(refine dX hX 2 200 (.own 3 1 []) ?_ ?_ (by decide) ⟨3,1,by decide, .inl rfl⟩ ?_;(iterate 2 (focus (simp only [go_sem,simprocAttr];done)));simp only [go_sem,simprocAttr]))|refine Rn.p ?_|(with_reducible apply And.intro)|((first|(refine hK _ ?_;clear hK K)|with_reducible intro K hK|refine Rs.p ?_|((with_reducible first|apply oP|apply oQ);exact rfl));try simp only [go_sem,simprocAttr])|((with_reducible refine oD ?_ ?_);kernel_rfl)|((with_reducible intro h);try simp only [go_sem,simprocAttr] at h)|omega|intro h)
 have hm0:aM g=false→dU g= []:=fun h=>by unfold dU;rw [h];rfl
 cases hm:aM g with
 |false=>
  have hU:jW g= []:=by unfold jW;rw [hm];rfl
  rw [hU] at hE
  rw [hm0 hm]
  cases Bk:g.es with
  |nil=>
   refine ah (fun k:Nat=>k=0) (fun _=>⟨[(1, .ptr 1 0),(2, .ref 200),(7, .d (sE [])),(8,eN 0),(9,eN 0)], [(1, .box [eN g.n, .d (sE [])]),(200, .own 3 1 [])]⟩) (fun _=>0) 0 rfl ?_ ?_
   ·refine Le.of ?_ ?_<;>simp [go_sem,simprocAttr,Bk]
   rintro k rfl
   repeat' (first|refine Rn.p ?_|(with_reducible apply And.intro)|((first|(refine hK _ ?_;clear hK K)|with_reducible intro K hK|refine Rs.p ?_|((with_reducible first|apply oP|apply oQ);exact rfl));try simp only [go_sem,simprocAttr])|((with_reducible refine oD ?_ ?_);kernel_rfl)|((with_reducible intro h);try simp only [go_sem,simprocAttr] at h)|omega|intro h)
  |cons q r=>
   have hq:g.es.length=r.length+1:=by rw [Bk];rfl
   have hb:decide ((0:Int)<((r.length+1:Nat):Int))=true:=decide_eq_true (by omega)
   refine ah (fun k:Nat=>k=0) (fun _=>⟨[(1, .ptr 1 0),(2, .ref 200),(7, .d (sE g.es)),(8,eN ((r.length+1:Nat):Int)),(9,eN 0)], [(1, .box [eN g.n, .d (sE g.es)]),(200, .own 3 1 [])]⟩) (fun _=>0) 0 rfl ?_ ?_
   ·refine Le.of ?_ ?_<;>simp [go_sem,simprocAttr,Bk]
   rintro k rfl
   repeat' (first|refine Rn.p ?_|(with_reducible apply And.intro)|((first|(refine hK _ ?_;clear hK K)|with_reducible intro K hK|refine Rs.p ?_|((with_reducible first|apply oP|apply oQ);exact rfl)|(refine gh hX hC hP 15 (hE) rfl rfl rfl ?_ ?_ (by first|exact ⟨_,_,_,rfl,rD⟩|exact ⟨_,_,_,rfl,rH⟩|exact ⟨_,_,_,rfl,rL⟩) rfl (by decide) ?_;(iterate 2 (focus (simp only [go_sem,simprocAttr,hb];done)));simp only [go_sem,simprocAttr,hb]));try simp only [go_sem,simprocAttr,hb])|((with_reducible refine oD ?_ ?_);kernel_rfl)|((with_reducible intro h);try simp only [go_sem,simprocAttr,hb] at h)|omega|intro h)
 |true=>
  have hn:=aH hm
  have he:(jW g).length=g.n.toNat:=by unfold jW;rw [if_pos hm];exact vA
  have hb0:decide ((g.n.toNat:Int)=0)=false:=decide_eq_false (by omega)
  have hT:dU g=y5 g g.es.length:=if_pos hm
  rw [hT]
  have hG:=fun i:Nat=>Ce g hm false (oS i) 87 (i:Int) (fun k _=>HD (i:Int) (k:Int)) (jW g) (ET hm)
  generalize jW g=U at hE he hG
  refine ah (fun k:Nat=>k≤g.es.length) (fun k=>⟨[(1, .ptr 1 0),(2, .ref 200),(7, .d (sE g.es)),(8,eN g.es.length),(9,eN k)], [(1, .box [eN g.n, .d (sE g.es)]),(200, .own 3 1 ((y5 g k).map rI))]⟩) (fun k=>g.es.length - k) 0 (by omega) ?_ ?_
  ·refine Le.of ?_ ?_<;>simp [go_sem,simprocAttr,y5]
  rintro k hk
  rcases Nat.lt_or_ge k g.es.length with hlt|hge
  rotate_left
  ·have hb:decide ((k:Int)<(g.es.length:Int))=false:=decide_eq_false (by omega)
   obtain rfl:k=g.es.length:=by omega
   repeat' (first|refine Rn.p ?_|(with_reducible apply And.intro)|((first|(refine hK _ ?_;clear hK K)|with_reducible intro K hK|refine Rs.p ?_|((with_reducible first|apply oP|apply oQ);exact rfl));try simp only [go_sem,simprocAttr,hb])|((with_reducible refine oD ?_ ?_);kernel_rfl)|((with_reducible intro h);try simp only [go_sem,simprocAttr,hb] at h)|omega|intro h)
  have hb:decide ((k:Int)<(g.es.length:Int))=true:=decide_eq_true (by omega)
  have Qs:=hG k
  have b9:=qe (g:=g) (k:=k)
  have Ef:=Dj (g:=g) (k:=k)
  obtain ⟨ht,hh⟩:=cT hm hlt
  obtain ⟨x,hx⟩:∃x:Nat,(g.es.getD k (0,0)).1=x:=⟨(g.es.getD k (0,0)).1.toNat,by omega⟩
  obtain ⟨y,hy⟩:∃y:Nat,(g.es.getD k (0,0)).2=y:=⟨(g.es.getD k (0,0)).2.toNat,by omega⟩
  rw [hx] at ht
  rw [hy] at hh
  have L6:Bn g k=((Cb g false (oS k)).getD x 0).testBit y:=by
   unfold Bn
   rw [show (tl g k).toNat=x by show ((g.es.getD k (0,0)).1).toNat=x;rw [hx];rfl,show (hd g k).toNat=y by show ((g.es.getD k (0,0)).2).toNat=y;rw [hy];rfl]
  have hrl:(Cb g false (oS k)).length=g.n.toNat:=s7
  have hH:=ER ((Cb g false (oS k)).getD x 0) (by
   rw [yV (by omega)]
   exact Nat.lt_of_lt_of_le Jp (Nat.pow_le_pow_right (by decide) (show g.n.toNat≤64 by omega))) (y:Int)
  rw [show (decide ((0:Int)≤(y:Int))&&decide ((y:Int)<64)&&((Cb g false (oS k)).getD x 0).testBit ((y:Int)).toNat)=Bn g k by
   rw [L6,decide_eq_true (show (0:Int)≤(y:Int) by omega),decide_eq_true (show (y:Int)<64 by omega)];rfl] at hH
  generalize Cb g false (oS k)=R at Qs hrl hH
  generalize y5 g k=O at b9 Ef
  cases hB:Bn g k with
  |true=>
   rw [hB] at hH
   rw [hB,if_pos rfl] at b9
   repeat' (first|(show bW _ (.region 10 _ _) _ _;(refine lB hX 2 34 200 (by simp only [go_sem,simprocAttr,hb,hb0,he,hx,hy,hrl]) rfl (by first|exact .inl rfl|exact .inr rfl) (by decide) ?_;simp only [go_sem,simprocAttr,hb,hb0,he,hx,hy,hrl]))|refine Rn.p ?_|(with_reducible apply And.intro)|((first|(refine hK _ ?_;clear hK K)|with_reducible intro K hK|refine Rs.p ?_|((with_reducible first|apply oP|apply oQ);exact rfl)|(refine gh hX hC hP 15 (hE) rfl rfl rfl ?_ ?_ (by first|exact ⟨_,_,_,rfl,rD⟩|exact ⟨_,_,_,rfl,rH⟩|exact ⟨_,_,_,rfl,rL⟩) rfl (by decide) ?_;(iterate 2 (focus (simp only [go_sem,simprocAttr,hb,hb0,he,hx,hy,hrl];done)));simp only [go_sem,simprocAttr,hb,hb0,he,hx,hy,hrl])|(refine au hX hC hP [(10000,15),(10001,3)] (Qs) rfl rfl rfl ?_ ?_ ?_ ?_ ?_ ?_ ?_ ?_ ?_ ?_ ?_ ?_ ?_ ?_;(focus (simp only [go_sem,simprocAttr,hb,hb0,he,hx,hy,hrl];done));(iterate 12 (focus (simp [go_sem,simprocAttr,hb,hb0,he,hx,hy,hrl];done)));try simp only [List.map_cons,List.map_nil])|refine aa hX hC hP (hH) rfl rfl rfl (by simp only [go_sem,simprocAttr,hb,hb0,he,hx,hy,hrl]) rfl ?_);try simp only [go_sem,simprocAttr,hb,hb0,he,hx,hy,hrl])|((with_reducible refine oD ?_ ?_);kernel_rfl)|((with_reducible intro h);try simp only [go_sem,simprocAttr,hb,hb0,he,hx,hy,hrl] at h)|omega|intro h)
   refine ⟨k+1,by omega, ?_,by omega⟩
   rw [b9]
   refine Le.of ?_ ?_<;>simp [go_sem,simprocAttr,hb,hb0,he,hx,hy,hrl,rI]
  |false=>
   rw [hB] at hH
   rw [hB,if_neg (by simp)] at b9
   repeat' (first|refine Rn.p ?_|(with_reducible apply And.intro)|((first|(refine hK _ ?_;clear hK K)|with_reducible intro K hK|refine Rs.p ?_|((with_reducible first|apply oP|apply oQ);exact rfl)|(refine gh hX hC hP 15 (hE) rfl rfl rfl ?_ ?_ (by first|exact ⟨_,_,_,rfl,rD⟩|exact ⟨_,_,_,rfl,rH⟩|exact ⟨_,_,_,rfl,rL⟩) rfl (by decide) ?_;(iterate 2 (focus (simp only [go_sem,simprocAttr,hb,hb0,he,hx,hy,hrl];done)));simp only [go_sem,simprocAttr,hb,hb0,he,hx,hy,hrl])|(refine au hX hC hP [(10000,15),(10001,3)] (Qs) rfl rfl rfl ?_ ?_ ?_ ?_ ?_ ?_ ?_ ?_ ?_ ?_ ?_ ?_ ?_ ?_;(focus (simp only [go_sem,simprocAttr,hb,hb0,he,hx,hy,hrl];done));(iterate 12 (focus (simp [go_sem,simprocAttr,hb,hb0,he,hx,hy,hrl];done)));try simp only [List.map_cons,List.map_nil])|refine aa hX hC hP (hH) rfl rfl rfl (by simp only [go_sem,simprocAttr,hb,hb0,he,hx,hy,hrl]) rfl ?_);try simp only [go_sem,simprocAttr,hb,hb0,he,hx,hy,hrl])|((with_reducible refine oD ?_ ?_);kernel_rfl)|((with_reducible intro h);try simp only [go_sem,simprocAttr,hb,hb0,he,hx,hy,hrl] at h)|omega|intro h)
   refine ⟨k+1,by omega, ?_,by omega⟩
   rw [b9]
   refine Le.of ?_ ?_<;>simp [go_sem,simprocAttr,hb,hb0,he,hx,hy,hrl]
end Go.Ab
end
section
namespace Go.Ab
open Go.Proofs
attribute [local congr] ACall.congr gd.congr Nx.congr
set_option maxRecDepth 10000
set_option maxHeartbeats 8000000
def swapT (l:List It) (k:Nat):List It:=(List.range l.length).map fun p=>if p<k∨l.length - 1<p+k then l.getD (l.length - 1 - p) (0,0,0) else l.getD p (0,0,0)
theorem dm {l:List It} {k:Nat} :(swapT l k).length=l.length:=by simp [swapT]
theorem kY {l:List It} {k p:Nat} (h:p<l.length):(swapT l k)[p]? =some (if p<k∨l.length - 1<p+k then l.getD (l.length - 1 - p) (0,0,0) else l.getD p (0,0,0)):=by
 simp [swapT,List.getElem?_range h]
theorem vB {l:List It} {k p:Nat} (h:p<l.length) (d:It):(swapT l k).getD p d=if p<k∨l.length - 1<p+k then l.getD (l.length - 1 - p) (0,0,0) else l.getD p (0,0,0):=by
 rw [List.getD_eq_getElem?_getD,kY h];rfl
theorem Cf {l:List It} :swapT l 0=l:=by
 refine List.ext_getElem? fun i=> ?_
 by_cases hi:i<l.length
 ·rw [kY hi,if_neg (by omega),List.getD_eq_getElem?_getD,List.getElem?_eq_getElem hi];rfl
 ·rw [List.getElem?_eq_none (by rw [dm];omega),List.getElem?_eq_none (by omega)]
theorem EU {l:List It} {k:Nat} (h:l.length≤2*k+1):swapT l k=l.reverse:=by
 refine List.ext_getElem? fun i=> ?_
 by_cases hi:i<l.length
 ·rw [kY hi,List.getElem?_reverse hi]
  split
  ·rw [List.getD_eq_getElem?_getD,List.getElem?_eq_getElem (by omega)];rfl
  ·have:i=l.length - 1 - i:=by omega
   rw [← this,List.getD_eq_getElem?_getD,List.getElem?_eq_getElem hi];rfl
 ·rw [List.getElem?_eq_none (by rw [dm];omega),List.getElem?_eq_none (by rw [List.length_reverse];omega)]
theorem Cg {l:List It} {k:Nat} (h:k<l.length - 1 - k):((swapT l k).set k ((swapT l k).getD (l.length - 1 - k) (0,0,0))).set (l.length - 1 - k) ((swapT l k).getD k (0,0,0))=swapT l (k+1):=by
 refine List.ext_getElem? fun i=> ?_
 rw [List.getElem?_set,List.length_set,dm,List.getElem?_set,dm]
 by_cases hi:i<l.length
 ·rw [kY hi,kY hi,vB (by omega),vB (by omega)]
  by_cases h1:l.length - 1 - k=i
  ·rw [if_pos h1,if_pos (by omega),if_neg (by omega),if_pos (by omega)]
   congr 2;omega
  ·rw [if_neg h1]
   by_cases h2:k=i
   ·rw [if_pos h2,if_pos (by omega),if_neg (by omega),if_pos (by omega)]
    congr 2;omega
   ·rw [if_neg h2]
    congr 1
    by_cases h3:i<k∨l.length - 1<i+k
    ·rw [if_pos h3,if_pos (by omega)]
    ·rw [if_neg h3,if_neg (by omega)]
 ·rw [List.getElem?_eq_none (by rw [dm];omega),List.getElem?_eq_none (by rw [dm];omega),if_neg (by omega),if_neg (by omega)]
theorem HE (l:List It) (k:Nat) (t:It):(l.map rT).set k [.sc (.int .i64 t.1), .sc (.int .i64 t.2.1), .sc (.int .i64 t.2.2)]=(l.set k t).map rT:=by
 rw [List.map_set];rfl
theorem wj (l:List It) (hl:l.length≤1000000):Spec Tryz.prog 63 (Args [.ref 10000]) [(10000, .own 100 3 (l.map rT))] (.tup []) [(10000, .own 100 3 (l.reverse.map rT))]:=by
 (refine Spec.hd (C:=T.cfg [] []) (rs:= []) (T.aj _ _) Tryz.func63 rfl rfl Tryz.ntmps63 Tryz.results63 (by simp [AObj.isNest]) (by simp [AObj.isNest]) (by kernel_rfl) T.mixed fun X hX hP hC aJ b7=> ?_)
 repeat' (first|refine Rn.p ?_|(with_reducible apply And.intro)|((first|(refine hK _ ?_;clear hK K)|with_reducible intro K hK|refine Rs.p ?_|((with_reducible first|apply oP|apply oQ);exact rfl));try simp only [go_sem,simprocAttr])|((with_reducible refine oD ?_ ?_);kernel_rfl)|((with_reducible intro h);try simp only [go_sem,simprocAttr] at h)|omega|intro h)
 refine ah (fun k:Nat=>2*k≤l.length+1) (fun k=>⟨[(0, .ref 10000),(2,eN k),(3,eN ((l.length:Int) - 1 - k))], [(10000, .own 100 3 ((swapT l k).map rT))]⟩) (fun k=>l.length+1 - k) 0 (by omega) ?_ ?_
 ·refine Le.of ?_ ?_<;>simp [go_sem,simprocAttr,Cf]
 rintro k hk
 rcases Nat.lt_or_ge (2*k+1) l.length with hlt|hge
 ·have hb:decide ((k:Int)<(l.length:Int) - 1 - (k:Int))=true:=decide_eq_true (by omega)
  have ht:((l.length:Int) - 1 - (k:Int)).toNat=l.length - 1 - k:=by omega
  repeat' (first|refine Rn.p ?_|(with_reducible apply And.intro)|((first|(refine hK _ ?_;clear hK K)|with_reducible intro K hK|refine Rs.p ?_|((with_reducible first|apply oP|apply oQ);exact rfl));try simp only [go_sem,simprocAttr,hb,ht,dm,HE,List.length_cons,List.length_nil,List.drop_succ_cons,List.drop_zero,List.drop_nil])|((with_reducible refine oD ?_ ?_);kernel_rfl)|((with_reducible intro h);try simp only [go_sem,simprocAttr,hb,ht,dm,HE,List.length_cons,List.length_nil,List.drop_succ_cons,List.drop_zero,List.drop_nil] at h)|omega|intro h)
  refine ⟨k+1,by omega, ?_,by omega⟩
  refine Le.of ?_ ?_<;>simp [go_sem,simprocAttr]
  ·omega
  ·rw [← Cg (by omega),List.map_set,List.map_set]
   simp only [List.getD_eq_getElem?_getD]
   rfl
 ·have hb:decide ((k:Int)<(l.length:Int) - 1 - (k:Int))=false:=decide_eq_false (by omega)
  repeat' (first|refine Rn.p ?_|(with_reducible apply And.intro)|((first|(refine hK _ ?_;clear hK K)|with_reducible intro K hK|refine Rs.p ?_|((with_reducible first|apply oP|apply oQ);exact rfl));try simp only [go_sem,simprocAttr,hb])|((with_reducible refine oD ?_ ?_);kernel_rfl)|((with_reducible intro h);try simp only [go_sem,simprocAttr,hb] at h)|omega|intro h)
  simp only [go_sem,simprocAttr,hb,EU hge]
theorem AY (ps:List It) (hl:ps.length≤1000000):
 Spec Tryz.prog 127 (Args [.d (sT ps)]) [] (.ref 10000) [(10000, .own 100 3 (ps.map rT))]:=by
 (refine Spec.uf (C:=T.cfg [5,7] []) (rs:= [.t 2]) [(10000,7)] (T.aj _ _) Tryz.func127 rfl rfl Tryz.ntmps127 Tryz.results127 (by simp [AObj.isNest]) (by simp [AObj.isNest]) (by first|(simp [look];done)|(simp [asN];done)|(intro l hl;simp only [asN];repeat (rw [if_neg (fun e=>by subst e;simp [look] at hl)]))) (by first|(simp [look];done)|(simp [asN];done)|(intro l hl;simp only [asN];repeat (rw [if_neg (fun e=>by subst e;simp [look] at hl)]))) (by kernel_rfl) T.mixed fun X hX hP hC aJ b7=> ?_)
 repeat' (first|(show bW _ .ret _ _;(try simp only [go_sem,simprocAttr]);refine dX hX 2 7 (.own 100 3 []) ?_ ?_ (by decide) ⟨100,3,by decide, .inl rfl⟩ ?_;(iterate 2 (focus (simp only [go_sem,simprocAttr];done)));simp only [go_sem,simprocAttr])|refine Rn.p ?_|(with_reducible apply And.intro)|((first|(refine hK _ ?_;clear hK K)|with_reducible intro K hK|refine Rs.p ?_|((with_reducible first|apply oP|apply oQ);exact rfl));try simp only [go_sem,simprocAttr])|((with_reducible refine oD ?_ ?_);kernel_rfl)|((with_reducible intro h);try simp only [go_sem,simprocAttr] at h)|omega|intro h)
 exact h.symm
theorem EV (ds:List D) (row:List It) (hr:row.length≤1000000):Spec Tryz.prog 84 (Args [.d (.pt (sT row::ds))]) [] (.ref 10000) [(10000, .own 100 3 (row.map rT))]:=by
 (refine Spec.uf (C:=T.cfg [] []) (rs:= [.t 2]) [(10000,7)] (T.aj _ _) Tryz.func84 rfl rfl Tryz.ntmps84 Tryz.results84 (by simp [AObj.isNest]) (by simp [AObj.isNest]) (by first|(simp [look];done)|(simp [asN];done)|(intro l hl;simp only [asN];repeat (rw [if_neg (fun e=>by subst e;simp [look] at hl)]))) (by first|(simp [look];done)|(simp [asN];done)|(intro l hl;simp only [asN];repeat (rw [if_neg (fun e=>by subst e;simp [look] at hl)]))) (by kernel_rfl) T.mixed fun X hX hP hC aJ b7=> ?_)
 repeat' (first|refine Rn.p ?_|(with_reducible apply And.intro)|((first|(refine hK _ ?_;clear hK K)|with_reducible intro K hK|refine Rs.p ?_|((with_reducible first|apply oP|apply oQ);exact rfl)|(refine au hX hC hP [(10000,7)] (AY row hr) rfl rfl rfl ?_ ?_ ?_ ?_ ?_ ?_ ?_ ?_ ?_ ?_ ?_ ?_ ?_ ?_;(focus (simp only [go_sem,simprocAttr];done));(iterate 12 (focus (simp [go_sem,simprocAttr];done)));try simp only [List.map_cons,List.map_nil]));try simp only [go_sem,simprocAttr])|((with_reducible refine oD ?_ ?_);kernel_rfl)|((with_reducible intro h);try simp only [go_sem,simprocAttr] at h)|omega|intro h)
def xE (rs:List Int) (l:List It):Int:=match l.find? (fun t=>decide (t.2.2∈rs)) with
 |some t=>t.2.2
 |none=>rs.headD (-1)
theorem EW (rs:List Int) (l:List It) (hr:rs≠ []) (hrl:rs.length≤1000000) (hl:l.length≤1000000):Spec Tryz.prog 112 (Args [.d (sI rs), .d (sT l)]) [] (eN (xE rs l)) []:=by
 generalize hH:xE rs l=H
 (refine Spec.hd (C:=T.cfg [] []) (rs:= [.t 4]) (T.aj _ _) Tryz.func112 rfl rfl Tryz.ntmps112 Tryz.results112 (by simp [AObj.isNest]) (by simp [AObj.isNest]) (by kernel_rfl) T.mixed fun X hX hP hC aJ b7=> ?_)
 repeat' (first|refine Rn.p ?_|(with_reducible apply And.intro)|((first|(refine hK _ ?_;clear hK K)|with_reducible intro K hK|refine Rs.p ?_|((with_reducible first|apply oP|apply oQ);exact rfl));try simp only [go_sem,simprocAttr])|((with_reducible refine oD ?_ ?_);kernel_rfl)|((with_reducible intro h);try simp only [go_sem,simprocAttr] at h)|omega|intro h)
 refine ah (fun k:Nat=>k≤l.length∧∀j,j<k→(l.getD j (0,0,0)).2.2∉rs) (fun k=>⟨[(0, .d (sI rs)),(7, .d (sT l)),(8,eN l.length),(9,eN k)], []⟩) (fun k=>l.length - k) 0 (by simp) ?_ ?_
 ·(refine Le.of ?_ ?_<;>simp [go_sem,simprocAttr])
 rintro k ⟨hk,hg⟩
 rcases Nat.lt_or_ge k l.length with cm|Ir
 ·have hb:decide ((k:Int)<(l.length:Int))=true:=decide_eq_true (by omega)
  by_cases h1:(l.getD k (0,0,0)).2.2∈rs
  ·have hb1:decide ((l.getD k (0,0,0)).2.2∈rs)=true:=decide_eq_true h1
   have:(l.getD k (0,0,0)).2.2=H:=by
    rw [← hH];unfold xE
    have:l.find? (fun t=>decide (t.2.2∈rs))=some (l.getD k (0,0,0)):=by
     rw [List.find?_eq_some_iff_getElem]
     refine ⟨hb1,k,cm,by rw [List.getD_eq_getElem?_getD,List.getElem?_eq_getElem cm];rfl,fun j hj=> ?_⟩
     have:=hg j hj
     rw [List.getD_eq_getElem?_getD,List.getElem?_eq_getElem (by omega)] at this
     simpa using this
    rw [this]
   have hb2:decide (H∈rs)=true:=by rw [← this];exact hb1
   repeat' (first|refine Rn.p ?_|(with_reducible apply And.intro)|((first|(refine hK _ ?_;clear hK K)|with_reducible intro K hK|refine Rs.p ?_|((with_reducible first|apply oP|apply oQ);exact rfl)|refine aa hX hC hP (bn rs H (by omega)) rfl rfl rfl (by simp only [go_sem,simprocAttr,hb,hb2,this]) rfl ?_);try simp only [go_sem,simprocAttr,hb,hb2,this])|((with_reducible refine oD ?_ ?_);kernel_rfl)|((with_reducible intro h);try simp only [go_sem,simprocAttr,hb,hb2,this] at h)|omega|intro h)
  ·have hb1:decide ((l.getD k (0,0,0)).2.2∈rs)=false:=decide_eq_false h1
   repeat' (first|refine Rn.p ?_|(with_reducible apply And.intro)|((first|(refine hK _ ?_;clear hK K)|with_reducible intro K hK|refine Rs.p ?_|((with_reducible first|apply oP|apply oQ);exact rfl)|refine aa hX hC hP (bn rs (l.getD k (0,0,0)).2.2 (by omega)) rfl rfl rfl (by simp only [go_sem,simprocAttr,hb,hb1]) rfl ?_);try simp only [go_sem,simprocAttr,hb,hb1])|((with_reducible refine oD ?_ ?_);kernel_rfl)|((with_reducible intro h);try simp only [go_sem,simprocAttr,hb,hb1] at h)|omega|intro h)
   refine ⟨k+1,⟨by omega,fun j hj=> ?_⟩, ?_,by omega⟩
   ·by_cases e:j=k
    ·subst e;exact h1
    ·exact hg j (by omega)
   ·(refine Le.of ?_ ?_<;>simp [go_sem,simprocAttr,hb,hb1])
 ·have hb:decide ((k:Int)<(l.length:Int))=false:=decide_eq_false (by omega)
  have hpos:=List.length_pos_iff.2 hr
  have:rs.getD 0 0=H:=by
   rw [← hH];unfold xE
   have:l.find? (fun t=>decide (t.2.2∈rs))=none:=by
    rw [List.find?_eq_none]
    intro t ht
    obtain ⟨j,hj,rfl⟩:=List.mem_iff_getElem.1 ht
    have:=hg j (by omega)
    rw [List.getD_eq_getElem?_getD,List.getElem?_eq_getElem hj] at this
    simpa using this
   rw [this]
   match rs,hr with
   |a::_,_=>rfl
  repeat' (first|refine Rn.p ?_|(with_reducible apply And.intro)|((first|(refine hK _ ?_;clear hK K)|with_reducible intro K hK|refine Rs.p ?_|((with_reducible first|apply oP|apply oQ);exact rfl));try simp only [go_sem,simprocAttr,hb,this])|((with_reducible refine oD ?_ ?_);kernel_rfl)|((with_reducible intro h);try simp only [go_sem,simprocAttr,hb,this] at h)|omega|intro h)
end Go.Ab
end
section
namespace Go.Ab
open Go.Proofs
attribute [local congr] ACall.congr gd.congr Nx.congr
set_option maxRecDepth 10000
set_option maxHeartbeats 8000000
theorem Js {g:Gr} (hm:aM g=true) {f:Fr} (hi:dR g f) (rev:Bool):xE (dw g f) (e8 rev f.row)=e9 g f rev:=by
 unfold xE e9
 have:(fun t:It=>decide (t.2.2∈dw g f))=fun t:It=>ak g f t.2.2:=by
  funext t
  cases h:ak g f t.2.2 with
  |true=>exact decide_eq_true ((ir hm hi).2 h)
  |false=>exact decide_eq_false fun h2=>by rw [(ir hm hi).1 h2] at h;cases h
 rw [this]
 rfl
theorem Ch (row:List It):Spec Tryz.prog 62 (Args [.ref 10000]) [(10000, .own 100 3 (row.map rT))] (.tup []) [(10000, .own 100 3 ((e8 false row).map rT))]:=by
 (refine Spec.hd (C:=T.cfg [] []) (rs:= []) (T.aj _ _) Tryz.func62 rfl rfl Tryz.ntmps62 Tryz.results62 (by simp [AObj.isNest]) (by simp [AObj.isNest]) (by kernel_rfl) T.mixed fun X hX hP hC aJ b7=> ?_)
 repeat' (first|refine Rn.p ?_|(with_reducible apply And.intro)|((first|(refine hK _ ?_;clear hK K)|with_reducible intro K hK|refine Rs.p ?_|((with_reducible first|apply oP|apply oQ);exact rfl));try simp only [go_sem,simprocAttr,e8])|((with_reducible refine oD ?_ ?_);kernel_rfl)|((with_reducible intro h);try simp only [go_sem,simprocAttr,e8] at h)|omega|intro h)
theorem Ci (row:List It) (hl:row.length≤1000000):Spec Tryz.prog 63 (Args [.ref 10000]) [(10000, .own 100 3 (row.map rT))] (.tup []) [(10000, .own 100 3 ((e8 true row).map rT))]:=wj row hl
theorem xF (g:Gr) (p:Pl) (h:aR g p) (rev:Bool) (F:Nat) (Ny:∀row:List It,row.length≤1000000→Spec Tryz.prog F (Args [.ref 10000]) [(10000, .own 100 3 (row.map rT))] (.tup []) [(10000, .own 100 3 ((e8 rev row).map rT))]):
 Spec Tryz.prog 61 (Args [eG g, .d (.sl 1 (vI p.outs)), .fn F [] []]) [] (.d (sI (dS g p rev g.n.toNat))) []:=by
 have hm:=an h.1
 have hn:=aH hm
 (refine Spec.hd (C:=T.cfg [] []) (rs:= [.t 6]) (T.aj _ _) Tryz.func61 rfl rfl Tryz.ntmps61 Tryz.results61 (by simp [AObj.isNest]) (by simp [AObj.isNest]) (by kernel_rfl) T.mixed fun X hX hP hC aJ b7=> ?_)
 repeat' (first|(show bW _ (.seq (.region 3 _ _) _) _ _;(refine pH 15 0 3 rfl rfl rfl ?_;simp only [List.set_cons_zero,List.set_cons_succ,go_sem,simprocAttr]);(refine ga hX 15 2 200 (.tip 3 1 []) rfl rfl rfl (by simp only [go_sem,simprocAttr]) (by decide) (by simp [go_sem,simprocAttr]) ⟨3,1,by decide, .inr rfl⟩ ?_;simp only [List.set_cons_zero,List.set_cons_succ,go_sem,simprocAttr]))|refine Rn.p ?_|(with_reducible apply And.intro)|((first|(refine hK _ ?_;clear hK K)|with_reducible intro K hK|refine Rs.p ?_|((with_reducible first|apply oP|apply oQ);exact rfl)|(refine jk hX hC hP [(10000,15)] (qA g (by omega) h.1 hm) rfl rfl rfl ?_ ?_ ?_ ?_ ?_ ?_ ?_ ?_ ?_ ?_ ?_ ?_ ?_ ?_;(focus (simp only [go_sem,simprocAttr];done));(iterate 12 (focus (simp [go_sem,simprocAttr];done)));try simp only [List.map_cons,List.map_nil]));try simp only [go_sem,simprocAttr])|((with_reducible refine oD ?_ ?_);kernel_rfl)|((with_reducible intro h);try simp only [go_sem,simprocAttr] at h)|omega|intro h)
 have I5:List.replicate g.n.toNat [D.sc (.int .i64 0)]=(dS g p rev 0).map rI:=by rw [dS,List.map_replicate];rfl
 rw [I5]
 refine ah (fun k:Nat=>k≤g.n.toNat) (fun k=>⟨[(1, .d (.sl 1 (vI p.outs))),(2, .fn F [] []),(7, .ptr 15 0),(9, .ref 20),(22,eN g.n),(23,eN k)], [(15, .box [.d (sT (bB g p rev k).row), .d (vw g), .ref 200]),(200, .tip 3 1 ((bB g p rev k).pl.map rI)),(20, .own 3 1 ((dS g p rev k).map rI))]⟩) (fun k=>g.n.toNat - k) 0 (by omega) ?_ ?_
 ·refine Le.of ?_ ?_<;>simp [go_sem,simprocAttr,bB]
 rintro k hk
 obtain ⟨hi,dM,_,hrl⟩:=gm h rev hk
 have hmul:k*(g.es.length+1)≤64*129:=Nat.mul_le_mul (by omega) (by omega)
 rcases Nat.lt_or_ge k g.n.toNat with cm|Ir
 rotate_left
 ·have hb:decide ((k:Int)<g.n)=false:=decide_eq_false (by omega)
  obtain rfl:k=g.n.toNat:=by omega
  repeat' (first|refine Rn.p ?_|(with_reducible apply And.intro)|((first|(refine hK _ ?_;clear hK K)|with_reducible intro K hK|refine Rs.p ?_|((with_reducible first|apply oP|apply oQ);exact rfl));try simp only [go_sem,simprocAttr,hb])|((with_reducible refine oD ?_ ?_);kernel_rfl)|((with_reducible intro h);try simp only [go_sem,simprocAttr,hb] at h)|omega|intro h)
 have hb:decide ((k:Int)<g.n)=true:=decide_eq_true (by omega)
 obtain ⟨hR,hne⟩:=uW h rev cm
 have JM:=aB hR
 have iI:(dw g (bB g p rev k)).length≤64:=by have:=uN (g:=g) (f:=bB g p rev k) (k:=g.n.toNat);unfold dw;omega
 have hpe:=Js hm hi.todR rev
 have hlo:(e8 rev (bB g p rev k).row).length=(bB g p rev k).row.length:=by unfold e8;split<;>simp
 have Of:=EW (dw g (bB g p rev k)) (e8 rev (bB g p rev k).row) hne (by omega) (by omega)
 rw [hpe] at Of
 clear hpe
 have Tj:=EV [vw g,sI (bB g p rev k).pl] (bB g p rev k).row (by omega)
 have Rm:=Ny (bB g p rev k).row (by omega)
 have Ro:=Ac g hm (bB g p rev k) (by omega) (by omega)
 have Lo:=bS h.2.1 JM.1 JM.2.1
 have sG:=pT h.2.1 JM.1 JM.2.1
 have b9:bB g p rev (k+1)=(az g (bB g p rev k) (e9 g (bB g p rev k) rev) (bQ p (e9 g (bB g p rev k) rev))).2:=rfl
 have Rp:dS g p rev (k+1)=(dS g p rev k).set (e9 g (bB g p rev k) rev).toNat (k:Int):=rfl
 have vV:=qG (g:=g) (p:=p) (rev:=rev) (k:=k)
 generalize e9 g (bB g p rev k) rev=x0 at*
 obtain ⟨x,rfl⟩:∃x:Nat,x0=x:=⟨x0.toNat,by omega⟩
 have hxl:x<p.outs.length:=by have:=h.2.1.1;omega
 have hv:=eo hxl
 have hla:bQ p (x:Int)=p.outs.getD x []:=by unfold bQ;rw [Int.toNat_natCast]
 rw [hla] at Lo sG b9
 rw [Int.toNat_natCast] at Rp
 have v8:=rO g hm (bB g p rev k) hi (x:Int) (p.outs.getD x []) (by omega) (by omega) (by omega)
 have hpk:cF g (bB g p rev k) (x:Int) (p.outs.getD x [])=az g (bB g p rev k) (x:Int) (p.outs.getD x []):=by
  unfold cF
  rw [if_neg (by rw [hR];simp),if_neg]
  rintro (h|⟨i,h1,h2⟩)
  ·exact h Lo.length_eq
  ·exact h2 (Lo.mem_iff.2 h1)
 rw [hpk] at v8
 generalize p.outs.getD x []=o at hv v8 b9
 generalize dw g (bB g p rev k)=L at Of Ro iI
 generalize e8 rev (bB g p rev k).row=LR at Of Rm hlo
 generalize Tk:bB g p rev (k+1)=f' at b9
 generalize bB g p rev k=f at*
 generalize az g f (x:Int) o=su at v8 b9
 repeat' (first|(show bW _ (.region 11 _ _) _ _;(refine c7 hX 15 2 201 200 rfl rfl rfl (by first|exact .inl rfl|exact .inr rfl) (by decide) (by decide) ?_;simp only [List.set_cons_zero,List.set_cons_succ,go_sem,simprocAttr,hb,hv,vV,jG,qk,gw]))|refine Rn.p ?_|(with_reducible apply And.intro)|((first|(refine hK _ ?_;clear hK K)|with_reducible intro K hK|refine Rs.p ?_|((with_reducible first|apply oP|apply oQ);exact rfl)|(refine gh hX hC hP 29 (Tj) rfl rfl rfl ?_ ?_ (by first|exact ⟨_,_,_,rfl,rD⟩|exact ⟨_,_,_,rfl,rH⟩|exact ⟨_,_,_,rfl,rL⟩) rfl (by decide) ?_;(iterate 2 (focus (simp only [go_sem,simprocAttr,hb,hv,vV,jG,qk,gw];done)));simp only [go_sem,simprocAttr,hb,hv,vV,jG,qk,gw])|(refine au hX hC hP [(10000,29)] (Rm) rfl rfl rfl ?_ ?_ ?_ ?_ ?_ ?_ ?_ ?_ ?_ ?_ ?_ ?_ ?_ ?_;(focus (simp only [go_sem,simprocAttr,hb,hv,vV,jG,qk,gw];done));(iterate 12 (focus (simp [go_sem,simprocAttr,hb,hv,vV,jG,qk,gw];done)));try simp only [List.map_cons,List.map_nil])|(refine mG hX hC hP 34 (Ro) rfl rfl rfl ?_ ?_ (by first|exact ⟨_,_,_,rfl,rD⟩|exact ⟨_,_,_,rfl,rH⟩|exact ⟨_,_,_,rfl,rL⟩) rfl (by decide) ?_;(iterate 2 (focus (simp only [go_sem,simprocAttr,hb,hv,vV,jG,qk,gw];done)));simp only [go_sem,simprocAttr,hb,hv,vV,jG,qk,gw])|(refine ai hX hC hP (Of) rfl rfl rfl ?_ ?_ ?_ ?_;iterate 3 (focus (simp only [go_sem,simprocAttr,hb,hv,vV,jG,qk,gw];done)))|(refine au hX hC hP [(10000,15),(10001,200),(10002,201)] (v8) rfl rfl rfl ?_ ?_ ?_ ?_ ?_ ?_ ?_ ?_ ?_ ?_ ?_ ?_ ?_ ?_;(focus (simp only [go_sem,simprocAttr,hb,hv,vV,jG,qk,gw];done));(iterate 12 (focus (simp [go_sem,simprocAttr,hb,hv,vV,jG,qk,gw];done)));try simp only [List.map_cons,List.map_nil]));try simp only [go_sem,simprocAttr,hb,hv,vV,jG,qk,gw])|((with_reducible refine oD ?_ ?_);kernel_rfl)|((with_reducible intro h);try simp only [go_sem,simprocAttr,hb,hv,vV,jG,qk,gw] at h)|omega|intro h)
 refine ⟨k+1,by omega, ?_,by omega⟩
 rw [Rp,Tk,b9]
 refine Le.of ?_ ?_<;>simp [go_sem,simprocAttr,hb,hv,vV,jG,qk,gw,rI]
def Lq (b:Bool) (g:Gr) (p:Pl):List Int × List Int × Int:=
 if (bH b g p).2.1=0∧xp g=true then (dS g p false g.n.toNat,dS g p true g.n.toNat,0) else ([], [],1)
theorem Cj (g:Gr) (hl:g.es.length≤1000) (p:Pl) (hp:l6 p) (b:Bool) (hr:b=true↔(bR g).1=0∧aX g p):
 Spec Tryz.prog 24 (Args [eG g,ePl p]) [] (.tup [.d (sI (Lq b g p).1), .d (sI (Lq b g p).2.1),eN (Lq b g p).2.2]) []:=by
 have hO:=gR g hl p hp b hr
 have hI:=oM g hl
 by_cases h0:(bH b g p).2.1=0
 rotate_left
 ·have hK:Lq b g p=([], [],1):=if_neg fun h=>h0 h.1
  have hb0:decide ((bH b g p).2.1=0)=false:=decide_eq_false h0
  rw [hK]
  (refine Spec.hd (C:=T.cfg [] []) (rs:= [.t 4, .t 5, .t 6]) (T.aj _ _) Tryz.func24 rfl rfl Tryz.ntmps24 Tryz.results24 (by simp [AObj.isNest]) (by simp [AObj.isNest]) (by kernel_rfl) T.mixed fun X hX hP hC aJ b7=> ?_)
  repeat' (first|refine Rn.p ?_|(with_reducible apply And.intro)|((first|(refine hK _ ?_;clear hK K)|with_reducible intro K hK|refine Rs.p ?_|((with_reducible first|apply oP|apply oQ);exact rfl)|refine aa hX hC hP (hO) rfl rfl rfl (by simp only [go_sem,simprocAttr,hb0]) rfl ?_);try simp only [go_sem,simprocAttr,hb0])|((with_reducible refine oD ?_ ?_);kernel_rfl)|((with_reducible intro h);try simp only [go_sem,simprocAttr,hb0] at h)|omega|intro h)
 obtain ⟨hrun,hR⟩:=kR hr h0
 rw [hR] at hO
 simp only at hO
 cases J3:xp g with
 |false=>
  have hK:Lq b g p=([], [],1):=if_neg fun h=>by rw [J3] at h;cases h.2
  rw [hK]
  rw [J3] at hI
  (refine Spec.hd (C:=T.cfg [] []) (rs:= [.t 4, .t 5, .t 6]) (T.aj _ _) Tryz.func24 rfl rfl Tryz.ntmps24 Tryz.results24 (by simp [AObj.isNest]) (by simp [AObj.isNest]) (by kernel_rfl) T.mixed fun X hX hP hC aJ b7=> ?_)
  repeat' (first|refine Rn.p ?_|(with_reducible apply And.intro)|((first|(refine hK _ ?_;clear hK K)|with_reducible intro K hK|refine Rs.p ?_|((with_reducible first|apply oP|apply oQ);exact rfl)|refine aa hX hC hP (hO) rfl rfl rfl (by simp only [go_sem,simprocAttr]) rfl ?_|refine aa hX hC hP (hI) rfl rfl rfl (by simp only [go_sem,simprocAttr]) rfl ?_);try simp only [go_sem,simprocAttr])|((with_reducible refine oD ?_ ?_);kernel_rfl)|((with_reducible intro h);try simp only [go_sem,simprocAttr] at h)|omega|intro h)
 |true=>
  have hK:Lq b g p=(dS g p false g.n.toNat,dS g p true g.n.toNat,0):=if_pos ⟨h0,J3⟩
  rw [hK]
  rw [J3] at hI
  have Rq:=xF g p hrun false 62 fun row _=>Ch row
  have Rr:=xF g p hrun true 63 fun row hl=>Ci row hl
  generalize dS g p false g.n.toNat=R0 at Rq
  generalize dS g p true g.n.toNat=R1 at Rr
  (refine Spec.hd (C:=T.cfg [] []) (rs:= [.t 4, .t 5, .t 6]) (T.aj _ _) Tryz.func24 rfl rfl Tryz.ntmps24 Tryz.results24 (by simp [AObj.isNest]) (by simp [AObj.isNest]) (by kernel_rfl) T.mixed fun X hX hP hC aJ b7=> ?_)
  repeat' (first|refine Rn.p ?_|(with_reducible apply And.intro)|((first|(refine hK _ ?_;clear hK K)|with_reducible intro K hK|refine Rs.p ?_|((with_reducible first|apply oP|apply oQ);exact rfl)|refine aa hX hC hP (hO) rfl rfl rfl (by simp only [go_sem,simprocAttr]) rfl ?_|refine aa hX hC hP (hI) rfl rfl rfl (by simp only [go_sem,simprocAttr]) rfl ?_|refine aa hX hC hP (Rq) rfl rfl rfl (by simp only [go_sem,simprocAttr]) rfl ?_|refine aa hX hC hP (Rr) rfl rfl rfl (by simp only [go_sem,simprocAttr]) rfl ?_);try simp only [go_sem,simprocAttr])|((with_reducible refine oD ?_ ?_);kernel_rfl)|((with_reducible intro h);try simp only [go_sem,simprocAttr] at h)|omega|intro h)
end Go.Ab
end
section
namespace Go.Ab
open Go.Proofs
attribute [local congr] ACall.congr gd.congr Nx.congr
set_option maxRecDepth 10000
set_option maxHeartbeats 8000000
def l7 (l:List Int) (k:Nat):List Int:=(List.range l.length).map fun p=>if p<k∨l.length - 1<p+k then l.getD (l.length - 1 - p) 0 else l.getD p 0
theorem dn {l:List Int} {k:Nat} :(l7 l k).length=l.length:=by simp [l7]
theorem kZ {l:List Int} {k p:Nat} (h:p<l.length):(l7 l k)[p]? =some (if p<k∨l.length - 1<p+k then l.getD (l.length - 1 - p) 0 else l.getD p 0):=by
 simp [l7,List.getElem?_range h]
theorem vC {l:List Int} {k p:Nat} (h:p<l.length) (d:Int):(l7 l k).getD p d=if p<k∨l.length - 1<p+k then l.getD (l.length - 1 - p) 0 else l.getD p 0:=by
 rw [List.getD_eq_getElem?_getD,kZ h];rfl
theorem Ck {l:List Int} :l7 l 0=l:=by
 refine List.ext_getElem? fun i=> ?_
 by_cases hi:i<l.length
 ·rw [kZ hi,if_neg (by omega),List.getD_eq_getElem?_getD,List.getElem?_eq_getElem hi];rfl
 ·rw [List.getElem?_eq_none (by rw [dn];omega),List.getElem?_eq_none (by omega)]
theorem EX {l:List Int} {k:Nat} (h:l.length≤2*k+1):l7 l k=l.reverse:=by
 refine List.ext_getElem? fun i=> ?_
 by_cases hi:i<l.length
 ·rw [kZ hi,List.getElem?_reverse hi]
  split
  ·rw [List.getD_eq_getElem?_getD,List.getElem?_eq_getElem (by omega)];rfl
  ·have:i=l.length - 1 - i:=by omega
   rw [← this,List.getD_eq_getElem?_getD,List.getElem?_eq_getElem hi];rfl
 ·rw [List.getElem?_eq_none (by rw [dn];omega),List.getElem?_eq_none (by rw [List.length_reverse];omega)]
theorem Cl {l:List Int} {k:Nat} (h:k<l.length - 1 - k):((l7 l k).set k ((l7 l k).getD (l.length - 1 - k) 0)).set (l.length - 1 - k) ((l7 l k).getD k 0)=l7 l (k+1):=by
 refine List.ext_getElem? fun i=> ?_
 rw [List.getElem?_set,List.length_set,dn,List.getElem?_set,dn]
 by_cases hi:i<l.length
 ·rw [kZ hi,kZ hi,vC (by omega),vC (by omega)]
  by_cases h1:l.length - 1 - k=i
  ·rw [if_pos h1,if_pos (by omega),if_neg (by omega),if_pos (by omega)]
   congr 2;omega
  ·rw [if_neg h1]
   by_cases h2:k=i
   ·rw [if_pos h2,if_pos (by omega),if_neg (by omega),if_pos (by omega)]
    congr 2;omega
   ·rw [if_neg h2]
    congr 1
    by_cases h3:i<k∨l.length - 1<i+k
    ·rw [if_pos h3,if_pos (by omega)]
    ·rw [if_neg h3,if_neg (by omega)]
 ·rw [List.getElem?_eq_none (by rw [dn];omega),List.getElem?_eq_none (by rw [dn];omega),if_neg (by omega),if_neg (by omega)]
theorem wk (l:List Int) (hl:l.length≤1000000):Spec Tryz.prog 86 (Args [.ref 10000]) [(10000, .own 3 1 (l.map rI))] (.tup []) [(10000, .own 3 1 (l.reverse.map rI))]:=by
 (refine Spec.hd (C:=T.cfg [] []) (rs:= []) (T.aj _ _) Tryz.func86 rfl rfl Tryz.ntmps86 Tryz.results86 (by simp [AObj.isNest]) (by simp [AObj.isNest]) (by kernel_rfl) T.mixed fun X hX hP hC aJ b7=> ?_)
 repeat' (first|refine Rn.p ?_|(with_reducible apply And.intro)|((first|(refine hK _ ?_;clear hK K)|with_reducible intro K hK|refine Rs.p ?_|((with_reducible first|apply oP|apply oQ);exact rfl));try simp only [go_sem,simprocAttr])|((with_reducible refine oD ?_ ?_);kernel_rfl)|((with_reducible intro h);try simp only [go_sem,simprocAttr] at h)|omega|intro h)
 refine ah (fun k:Nat=>2*k≤l.length+1) (fun k=>⟨[(0, .ref 10000),(2,eN k),(3,eN ((l.length:Int) - 1 - k))], [(10000, .own 3 1 ((l7 l k).map rI))]⟩) (fun k=>l.length+1 - k) 0 (by omega) ?_ ?_
 ·refine Le.of ?_ ?_<;>simp [go_sem,simprocAttr,Ck]
 rintro k hk
 rcases Nat.lt_or_ge (2*k+1) l.length with hlt|hge
 ·have hb:decide ((k:Int)<(l.length:Int) - 1 - (k:Int))=true:=decide_eq_true (by omega)
  have ht:((l.length:Int) - 1 - (k:Int)).toNat=l.length - 1 - k:=by omega
  repeat' (first|refine Rn.p ?_|(with_reducible apply And.intro)|((first|(refine hK _ ?_;clear hK K)|with_reducible intro K hK|refine Rs.p ?_|((with_reducible first|apply oP|apply oQ);exact rfl));try simp only [go_sem,simprocAttr,hb,ht,dn,yd,List.length_cons,List.length_nil,List.drop_succ_cons,List.drop_zero,List.drop_nil])|((with_reducible refine oD ?_ ?_);kernel_rfl)|((with_reducible intro h);try simp only [go_sem,simprocAttr,hb,ht,dn,yd,List.length_cons,List.length_nil,List.drop_succ_cons,List.drop_zero,List.drop_nil] at h)|omega|intro h)
  refine ⟨k+1,by omega, ?_,by omega⟩
  refine Le.of ?_ ?_<;>simp [go_sem,simprocAttr]
  all_goals (first|omega|skip)
  all_goals (rw [← Cl (by omega),List.map_set,List.map_set];simp only [List.getD_eq_getElem?_getD];try rfl)
 ·have hb:decide ((k:Int)<(l.length:Int) - 1 - (k:Int))=false:=decide_eq_false (by omega)
  repeat' (first|refine Rn.p ?_|(with_reducible apply And.intro)|((first|(refine hK _ ?_;clear hK K)|with_reducible intro K hK|refine Rs.p ?_|((with_reducible first|apply oP|apply oQ);exact rfl));try simp only [go_sem,simprocAttr,hb])|((with_reducible refine oD ?_ ?_);kernel_rfl)|((with_reducible intro h);try simp only [go_sem,simprocAttr,hb] at h)|omega|intro h)
  simp only [go_sem,simprocAttr,hb,EX hge]
theorem qf (ps:List Int) (hl:ps.length≤1000000):
 Spec Tryz.prog 71 (Args [.d (sI ps)]) [] (.ref 10000) [(10000, .own 3 1 (ps.map rI))]:=by
 (refine Spec.uf (C:=T.cfg [5,7] []) (rs:= [.t 2]) [(10000,7)] (T.aj _ _) Tryz.func71 rfl rfl Tryz.ntmps71 Tryz.results71 (by simp [AObj.isNest]) (by simp [AObj.isNest]) (by first|(simp [look];done)|(simp [asN];done)|(intro l hl;simp only [asN];repeat (rw [if_neg (fun e=>by subst e;simp [look] at hl)]))) (by first|(simp [look];done)|(simp [asN];done)|(intro l hl;simp only [asN];repeat (rw [if_neg (fun e=>by subst e;simp [look] at hl)]))) (by kernel_rfl) T.mixed fun X hX hP hC aJ b7=> ?_)
 repeat' (first|(show bW _ .ret _ _;(try simp only [go_sem,simprocAttr]);refine dX hX 2 7 (.own 3 1 []) ?_ ?_ (by decide) ⟨3,1,by decide, .inl rfl⟩ ?_;(iterate 2 (focus (simp only [go_sem,simprocAttr];done)));simp only [go_sem,simprocAttr])|refine Rn.p ?_|(with_reducible apply And.intro)|((first|(refine hK _ ?_;clear hK K)|with_reducible intro K hK|refine Rs.p ?_|((with_reducible first|apply oP|apply oQ);exact rfl));try simp only [go_sem,simprocAttr])|((with_reducible refine oD ?_ ?_);kernel_rfl)|((with_reducible intro h);try simp only [go_sem,simprocAttr] at h)|omega|intro h)
 exact h.symm
theorem AZ (p:Pl) (h1:p.ord.length≤1000) (h2:p.outs.length≤1000) (h3:∀l∈p.outs,l.length≤1000):Spec Tryz.prog 41 (Args [ePl p]) [] (ePl (bM p)) []:=by
 have Tl:=gZ p.ord (by omega)
 (refine Spec.hd (C:=T.cfg [] []) (rs:= [.c 2 34]) (T.aj _ _) Tryz.func41 rfl rfl Tryz.ntmps41 Tryz.results41 (by simp [AObj.isNest]) (by simp [AObj.isNest]) (by kernel_rfl) T.mixed fun X hX hP hC aJ b7=> ?_)
 repeat' (first|(show bW _ (.seq (.region 2 _ _) _) _ _;(refine ga hX 3 1 200 (.tip 31 1 []) rfl rfl rfl (by simp only [go_sem,simprocAttr]) (by decide) (by simp [go_sem,simprocAttr]) ⟨31,1,by decide, .inr rfl⟩ ?_;simp only [List.set_cons_zero,List.set_cons_succ,go_sem,simprocAttr]))|refine Rn.p ?_|(with_reducible apply And.intro)|((first|(refine hK _ ?_;clear hK K)|with_reducible intro K hK|refine Rs.p ?_|((with_reducible first|apply oP|apply oQ);exact rfl)|refine aa hX hC hP (Tl) rfl rfl rfl (by simp only [go_sem,simprocAttr]) rfl ?_);try simp only [go_sem,simprocAttr])|((with_reducible refine oD ?_ ?_);kernel_rfl)|((with_reducible intro h);try simp only [go_sem,simprocAttr] at h)|omega|intro h)
 refine ah (fun x:Nat=>x≤p.outs.length) (fun x=>⟨[(2, .ptr 2 0),(3, .ptr 3 0),(11, .d (.sl 1 (vI p.outs))),(12,eN p.outs.length),(13,eN x)], [(2, .box [.nil 3, .nil 31]),(3, .box [.d (sI p.ord), .ref 200]),(200, .tip 31 1 (vI ((p.outs.take x).map List.reverse)))]⟩) (fun x=>p.outs.length - x) 0 (by omega) ?_ ?_
 ·refine Le.of ?_ ?_<;>simp [go_sem,simprocAttr,vI]
 rintro x hx
 rcases Nat.lt_or_ge x p.outs.length with hxl|N5
 ·have hb:decide ((x:Int)<(p.outs.length:Int))=true:=decide_eq_true (by omega)
  have hv:=eo hxl
  have iI:=h3 _ (aE (d:= []) hxl)
  have b9:vI ((p.outs.take (x+1)).map List.reverse)=vI ((p.outs.take x).map List.reverse)++ [[sI (p.outs.getD x []).reverse]]:=by
   rw [lN (d:= []) hxl];simp [vI]
  have htl:((p.outs.take x).map List.reverse).length=x:=by rw [List.length_map,List.length_take];omega
  generalize p.outs.getD x []=l at hv iI b9
  have Ng:=qf l (by omega)
  have Tm:=wk l (by omega)
  repeat' (first|(show bW _ (.seq (.region 7 _ _) _) _ _;(refine cn hX 18 rfl (.inl rfl) ?_;simp only [go_sem,simprocAttr,hb,hv,htl]))|(show bW _ (.region 7 _ _) _ _;(refine cn hX 18 rfl (.inl rfl) ?_;simp only [go_sem,simprocAttr,hb,hv,htl]))|(show bW _ (.region 8 _ _) _ _;(refine c7 hX 3 1 25 200 rfl rfl rfl (by first|exact .inl rfl|exact .inr rfl) (by decide) (by decide) ?_;simp only [List.set_cons_zero,List.set_cons_succ,go_sem,simprocAttr,hb,hv,htl]))|refine Rn.p ?_|(with_reducible apply And.intro)|((first|(refine hK _ ?_;clear hK K)|with_reducible intro K hK|refine Rs.p ?_|((with_reducible first|apply oP|apply oQ);exact rfl)|(refine gh hX hC hP 18 (Ng) rfl rfl rfl ?_ ?_ (by first|exact ⟨_,_,_,rfl,rD⟩|exact ⟨_,_,_,rfl,rH⟩|exact ⟨_,_,_,rfl,rL⟩) rfl (by decide) ?_;(iterate 2 (focus (simp only [go_sem,simprocAttr,hb,hv,htl];done)));simp only [go_sem,simprocAttr,hb,hv,htl])|(refine au hX hC hP [(10000,18)] (Tm) rfl rfl rfl ?_ ?_ ?_ ?_ ?_ ?_ ?_ ?_ ?_ ?_ ?_ ?_ ?_ ?_;(focus (simp only [go_sem,simprocAttr,hb,hv,htl];done));(iterate 12 (focus (simp [go_sem,simprocAttr,hb,hv,htl];done)));try simp only [List.map_cons,List.map_nil]));try simp only [go_sem,simprocAttr,hb,hv,htl])|((with_reducible refine oD ?_ ?_);kernel_rfl)|((with_reducible intro h);try simp only [go_sem,simprocAttr,hb,hv,htl] at h)|omega|intro h)
  refine ⟨x+1,by omega, ?_,by omega⟩
  rw [b9]
  refine Le.of ?_ ?_<;>simp [go_sem,simprocAttr,hb,hv,htl]
 have hb:decide ((x:Int)<(p.outs.length:Int))=false:=decide_eq_false (by omega)
 obtain rfl:x=p.outs.length:=by omega
 rw [List.take_length]
 repeat' (first|refine Rn.p ?_|(with_reducible apply And.intro)|((first|(refine hK _ ?_;clear hK K)|with_reducible intro K hK|refine Rs.p ?_|((with_reducible first|apply oP|apply oQ);exact rfl));try simp only [go_sem,simprocAttr,hb,bM])|((with_reducible refine oD ?_ ?_);kernel_rfl)|((with_reducible intro h);try simp only [go_sem,simprocAttr,hb,bM] at h)|omega|intro h)
end Go.Ab
end
