/- A part of the proof. -/
import Derived.Test.YtchjjbfhlchpfaaGreatL4P17
set_option linter.unusedSimpArgs false
set_option linter.unusedVariables false
section
namespace Go.Ab
open Go.Proofs
set_option maxRecDepth 10000
def fT (l:List It):List It:=l.filter fun t=>decide (0≤t.1)
theorem mY {a b:List It} :fT (a++b)=fT a++fT b:=by simp [fT]
theorem eD {l:List It} {t:It} :t∈fT l↔t∈l∧0≤t.1:=by simp [fT]
theorem sD {x:Int} {l:List It} (h:fS x l):fS x (fT l):=fun t ht=>h t (eD.1 ht).1
def vE (x:Int) (l:List It):Prop:=∀t∈l,t.2.2=x
theorem qF {g:Gr} {x:Int} {o:List Int} (ho:∀i∈o,0≤i):fT (aJ g x o)=o.map (ef g x):=by
 unfold aJ
 split
 ·rename_i h;subst h;rfl
 ·refine List.filter_eq_self.2 fun t ht=> ?_
  obtain ⟨i,hi,rfl⟩:=List.mem_map.1 ht
  exact decide_eq_true (ho i hi)
theorem wU {x:Int} :∀ {X Y c d:List It},vE x X→vE x Y→fS x c→fS x d→X++c=Y++d→X=Y∧c=d
 | [], [],c,d,_,_,_,_,e=>⟨rfl,e⟩
 | [],u::Y,c,d,_,hY,hc,_,e=>by
   simp only [List.nil_append] at e
   exact absurd (hY u (by simp)) (hc u (by rw [e];simp))
 |t::X, [],c,d,hX,_,_,hd,e=>by
  simp only [List.nil_append] at e
  exact absurd (hX t (by simp)) (hd t (by rw [← e];simp))
 |t::X,u::Y,c,d,hX,hY,hc,hd,e=>by
  simp only [List.cons_append,List.cons.injEq] at e
  obtain ⟨e1,e2⟩:=wU (fun s hs=>hX s (by simp [hs])) (fun s hs=>hY s (by simp [hs])) hc hd e.2
  exact ⟨by rw [e.1,e1],e2⟩
theorem Ah {x:Int} :∀ {a b X Y c d:List It},fS x a→fS x b→vE x X→vE x Y→fS x c→fS x d→X≠ []→Y≠ []→a++X++c=b++Y++d→a=b∧X=Y∧c=d
 |t::a, [],X,u::Y,c,d,ha,_,_,hY,_,_,_,_,e=>by
  simp only [List.cons_append,List.nil_append,List.cons.injEq] at e
  exact absurd (by rw [e.1];exact hY u (by simp)) (ha t (by simp))
 | [],t::b,u::X,Y,c,d,_,hb,hX,_,_,_,_,_,e=>by
   simp only [List.cons_append,List.nil_append,List.cons.injEq] at e
   exact absurd (by rw [← e.1];exact hX u (by simp)) (hb t (by simp))
 |t::a,u::b,X,Y,c,d,ha,hb,hX,hY,hc,hd,nX,nY,e=>by
  simp only [List.cons_append,List.cons.injEq] at e
  obtain ⟨e1,e2,e3⟩:=Ah (fun s hs=>ha s (by simp [hs])) (fun s hs=>hb s (by simp [hs])) hX hY hc hd nX nY e.2
  exact ⟨by rw [e.1,e1],e2,e3⟩
 | [], [],X,Y,c,d,_,_,hX,hY,hc,hd,_,_,e=>by
   refine ⟨rfl, ?_⟩
   simp only [List.nil_append] at e
   exact wU hX hY hc hd e
 | [],_::_, [],_,_,_,_,_,_,_,_,_,h,_,_=>absurd rfl h
 |_::_, [],_, [],_,_,_,_,_,_,_,_,_,h,_=>absurd rfl h
theorem Ai {g:Gr} (hm:aM g=true) {f:Fr} (hi:fY g f) {x:Int} (hR:au g f x=true) (hn:aW g x≠0):
 ∃a X c,fT f.row=a++X++c∧fS x a∧fS x c∧vE x X∧X.length=aW g x∧∀o,fT (aA g f x o).2.row=a++fT (aJ g x o)++c:=by
 obtain ⟨A,X,C,hr,hA,hC,hX,cX⟩:=cg hm hi hR hn
 have hx:=(aD hR).1
 have hmem:∀t∈X,t∈f.row:=fun t ht=>by rw [hr];simp [ht]
 have hiff:∀t∈X,(0≤t.1↔t.2.2=x):=fun t ht=>by
  have h1:=(hi.it t (hmem t ht)).head hm
  have h2:=hX.al t ht
  omega
 refine ⟨fT A,fT X,fT C,by rw [hr,mY,mY],sD hA,sD hC,fun t ht=> ?_, ?_,fun o=> ?_⟩
 ·obtain ⟨h1,h2⟩:=eD.1 ht
  exact (hiff t h1).1 h2
 ·rw [← cX,fT, ← List.countP_eq_length_filter]
  refine List.countP_congr fun t ht=> ?_
  simp only [jy,decide_eq_true_eq]
  exact hiff t ht
 ·rw [fZ o hr hA hC hX]
  simp only [mY]
theorem CF {g:Gr} (hm:aM g=true) {f:Fr} (hi:fY g f) {x:Int} (hR:au g f x=true) (hn:aW g x≠0) {a X c:List It} (e:fT f.row=a++X++c) (ha:fS x a) (hc:fS x c) (hX:vE x X) (nX:X≠ []) (o:List Int):
 fT (aA g f x o).2.row=a++fT (aJ g x o)++c:=by
 obtain ⟨b,Y,d,e',hb,hd,hY,lY,hs⟩:=Ai hm hi hR hn
 have nY:Y≠ []:=fun h=>hn (by rw [← lY,h];rfl)
 obtain ⟨e1,_,e3⟩:=Ah hb ha hY hX hd hc nY nX (e'.symm.trans e)
 rw [hs o,e1,e3]
theorem Aj {g:Gr} (hm:aM g=true) {f:Fr} (hi:fY g f) {x:Int} (h0:0≤x) (h1:x<g.n) (hp:x∉f.pl) {a X c:List It} (e:fT f.row=a++X++c) (ha:fS x a) (hc:fS x c) (hX:vE x X) (nX:X≠ []) (hl:X.length=aW g x):au g f x=true:=by
 have hmem:∀j,j<f.row.length→DM g (f.row.getD j (0,0,0)):=fun j hj=>hi.it _ (aG hj)
 have vt:f.row.countP (jy x)=X.length:=by
  have h2:f.row.countP (jy x)=(fT f.row).countP (jy x):=by
   rw [fT,List.countP_filter]
   refine List.countP_congr fun t ht=> ?_
   have:=(hi.it t ht).head hm
   simp only [jy,Bool.and_eq_true,decide_eq_true_eq]
   omega
  have c1:a.countP (jy x)=0:=List.countP_eq_zero.2 fun t ht=>by simp [jy,ha t ht]
  have c2:c.countP (jy x)=0:=List.countP_eq_zero.2 fun t ht=>by simp [jy,hc t ht]
  have c3:X.countP (jy x)=X.length:=List.countP_eq_length.2 fun t ht=>by simp [jy,hX t ht]
  rw [h2,e,List.countP_append,List.countP_append,c1,c2,c3]
  omega
 rw [← kC hm hi,fk,if_neg (by rintro (h|h|h);omega;omega;exact hp h),gI h0 h1,Bool.and_eq_true,decide_eq_true_eq]
 have hN:(aK (fun e=>e.2) g.es g.es.length x).length=aW g x:=rfl
 rw [hN]
 refine ⟨?_, ?_⟩
 ·unfold bh
  rw [ku,lu (Nat.le_refl _),List.take_length,vt,hl]
 ·rw [Bool.or_eq_true];right
  rcases dh (row:=f.row) (x:=x) f.row.length with ⟨hs,hno⟩|⟨p,q,n,hs,hab,oI,hc0,hcl,hpx,Pd,hlo,hhi⟩
  ·have hs':bh f.row x=(-1,0,0):=hs
   rw [hs'];simp [qX]
  ·have hs':bh f.row x=((p:Int),(q:Int),(n:Int)):=hs
   rw [hs']
   simp only [Int.toNat_natCast,qX,Bool.not_eq_true']
   rw [← Bool.not_eq_true,wq oI]
   rintro ⟨j,h2,h3,h4⟩
   simp only [lg,Bool.and_eq_true,decide_eq_true_eq] at h4
   have hja:p<j:=by
    refine Nat.lt_of_le_of_ne h2 fun e=> ?_
    subst e;exact h4.1 hpx
   have hjb:j<q - 1:=by
    refine Nat.lt_of_le_of_ne (by omega) fun e=> ?_
    subst e;exact h4.1 Pd
   have hsub:=((uB (i:=j+1) (j:=q - 1) (uB (i:=p+1) (j:=j) (uB (i:=0) (j:=p) (List.nil_sublist _) (by omega) (by omega)) (by omega) (by omega)) (by omega) (by omega)).trans (List.take_sublist _ f.row)).filter fun t=>decide (0≤t.1)
   have hp1:=(hmem p (by omega)).head hm
   have Qd:=(hmem j (by omega)).head hm
   have hq1:=(hmem (q - 1) (by omega)).head hm
   generalize f.row.getD p (0,0,0)=s1 at hsub hp1 hpx
   generalize f.row.getD j (0,0,0)=s2 at hsub Qd h4
   generalize f.row.getD (q - 1) (0,0,0)=s3 at hsub hq1 Pd
   have hf:([]++ [s1]++ [s2]++ [s3]).filter (fun t=>decide (0≤t.1))= [s1,s2,s3]:=List.filter_eq_self.2 fun t ht=>by
    simp only [List.nil_append,List.cons_append,List.mem_cons,List.not_mem_nil,or_false] at ht
    rcases ht with rfl|rfl|rfl
    ·exact decide_eq_true (hp1.1.2 (by omega))
    ·exact decide_eq_true (Qd.1.2 h4.2)
    ·exact decide_eq_true (hq1.1.2 (by omega))
   rw [hf] at hsub
   have hsub: [s1,s2,s3].Sublist (a++(X++c)):=by rw [← List.append_assoc, ← e];exact hsub
   rw [List.sublist_append_iff] at hsub
   obtain ⟨l1,l',el,k1,k'⟩:=hsub
   rw [List.sublist_append_iff] at k'
   obtain ⟨l2,l3,rfl,k2,k3⟩:=k'
   match l1,el,k1 with
   |t::l1,el,k1=>
    simp only [List.cons_append,List.cons.injEq] at el
    exact ha t (k1.subset (by simp)) (by rw [← el.1];exact hpx)
   | [],el,_=>
     match l2,el,k2 with
     | [],el,_=>
       simp only [List.nil_append] at el
       exact hc s1 (k3.subset (by rw [← el];simp)) hpx
     | [t],el,_=>
       simp only [List.nil_append,List.cons_append,List.cons.injEq] at el
       exact hc s3 (k3.subset (by rw [← el.2];simp)) Pd
     |t::u::l2,el,k2=>
      simp only [List.nil_append,List.cons_append,List.cons.injEq] at el
      exact h4.1 (by rw [el.2.1];exact hX u (k2.subset (by simp)))
end Go.Ab
end
section
namespace Go.Ab
open Go.Proofs
set_option maxRecDepth 10000
def Mt (gone:List Int) (i:Nat):Bool:= !decide ((i:Int)∈gone)
def Kw (gone:List Int) (k:Nat):List Nat:=(List.range k).filter (Mt gone)
def R8 (gone:List Int) (k:Nat):Nat:=(Kw gone k).length
def Pe (gone:List Int) (es:List Edge) (k:Nat):List Edge:=(Kw gone k).map fun i=>es.getD i (0,0)
def R9 (g:Gr) (gone:List Int):Gr:=⟨g.n,Pe gone g.es g.es.length⟩
def Qe (gone:List Int) (i:Int):Int:=if i∈gone then -1 else (R8 gone i.toNat:Int)
def Pf (gone:List Int) (l:List Int):List Int:=(l.filter fun i=>decide (i∉gone)).map (Qe gone)
def Sa (p:Pl) (gone:List Int):Pl:=⟨p.ord,p.outs.map (Pf gone)⟩
variable {g:Gr} {p:Pl} {gone:List Int}
def Sb (gone:List Int) (t:It):It:=(Qe gone t.1,t.2.1,t.2.2)
def Sc (gone:List Int) (l:List It):List It:=(l.filter fun t=>decide (t.1∉gone)).map (Sb gone)
theorem DX (hr:bn g p):aW g (aH p 0)=0:=by
 have hm:=an hr.1
 have hn:=aE hm
 refine Decidable.byContradiction fun hnz=> ?_
 obtain ⟨A,X,C,hrw,_,_,hX,_⟩:=cg hm (pF g).tofY (hr.2.2 0 (by omega)) hnz
 obtain ⟨q,X0,e1,_⟩:=hX.fst
 rw [e1] at hrw
 simp at hrw
end Go.Ab
end
section
namespace Go.Ab
open Go.Proofs
set_option maxRecDepth 10000
theorem CG {g:Gr} (hm:aM g=true) {f:Fr} (hi:fY g f) {x:Int} (hR:au g f x=true) (hn:aW g x≠0) (o:List Int):
 ∃a c,fT f.row=a++fT (aA g f x o).1.1++c∧fS x a∧fS x c∧vE x (fT (aA g f x o).1.1)∧(fT (aA g f x o).1.1).length=aW g x∧fT (aA g f x o).2.row=a++fT (aJ g x o)++c:=by
 obtain ⟨A,X,C,hr,hA,hC,hX,hc⟩:=cg hm hi hR hn
 have hx:=(aD hR).1
 have hmem:∀t∈X,t∈f.row:=fun t ht=>by rw [hr];simp [ht]
 have hiff:∀t∈X,(0≤t.1↔t.2.2=x):=fun t ht=>by
  have h1:=(hi.it t (hmem t ht)).head hm
  have h2:=hX.al t ht
  constructor
  ·intro h;rcases h2 with h2|h2
   ·exact h2
   ·exact absurd h2 (h1.1.1 h)
  ·intro h;exact h1.1.2 (by omega)
 rw [fZ o hr hA hC hX]
 refine ⟨fT A,fT C,by rw [hr,mY,mY],sD hA,sD hC,fun t ht=> ?_, ?_,by simp only [mY]⟩
 ·obtain ⟨h1,h2⟩:=eD.1 ht
  exact (hiff t h1).1 h2
 ·rw [← hc,fT, ← List.countP_eq_length_filter]
  refine List.countP_congr fun t ht=> ?_
  simp only [jy,decide_eq_true_eq]
  exact hiff t ht
def nj (g:Gr) (p:Pl) (x:Int):List Int:=(fT ((eA g p g.n.toNat).getD x.toNat [])).map (·.1)
def pP (g:Gr) (p:Pl) (f:Fr) (x:Int):List Int:=(fT (aA g f x (cq p x)).1.1).map (·.1)
def uS (g:Gr) (p:Pl):Nat→Fr→Prop
 |0,f=>(f.pl.length:Int)=g.n
 |m+1,f=>∃x,au g f x=true∧pP g p f x=nj g p x∧uS g p m (q8 g p f x)
theorem uT {g:Gr} {p:Pl} :∀ {m:Nat} {f f':Fr},f.row=f'.row→f.pl.Perm f'.pl→uS g p m f→uS g p m f'
 |0,f,f',_,hp,h=>by
  have h:(f.pl.length:Int)=g.n:=h
  show (f'.pl.length:Int)=g.n
  rw [← hp.length_eq];exact h
 |m+1,f,f',hr,hp,⟨x,h1,h3,h2⟩=>by
  refine ⟨x,by rw [← qZ hr hp];exact h1, ?_,uT ?_ ?_ h2⟩
  ·simp only [pP,aA,hr] at h3 ⊢;exact h3
  ·simp only [q8,aA,hr]
  ·exact hp.append_right _
theorem wV {g:Gr} (hc:(bE g).1=0) {p:Pl} (hp:aT g p):∀ {m:Nat} {f:Fr},yd g f→(f.pl.length:Int)+(m+1:Nat)=g.n→uS g p (m+1) f→∀ {x:Int},au g f x=true→pP g p f x=nj g p x∧uS g p m (q8 g p f x)
 |m,f,hi,hl,⟨y,rL,M8,hcan⟩,x,hR=>by
  have hm:=an hc
  by_cases hxy:x=y
  ·subst hxy;exact ⟨M8,hcan⟩
  have py:=bW hp (aD rL).1 (aD rL).2.1
  have px:=bW hp (aD hR).1 (aD hR).2.1
  have i2:=gX hm hi rL py
  match m,hl,hcan with
  |0,hl,hcan=>
   exfalso
   have h1:=kE i2.tofY (by show ((f.pl++ [y]).length:Int)=g.n;simp;omega) (x:=x) ⟨(aD hR).1,(aD hR).2.1⟩
   have h2:x∈f.pl++ [y]:=h1
   simp [(aD hR).2.2,hxy] at h2
  |m+1,hl,hcan=>
   obtain ⟨h4,h5,h6,h7,h8⟩:=wu hc hi hxy hR rL px py
   obtain ⟨h9,h3⟩:=wV hc hp i2 (by show (((f.pl++ [y]).length:Nat):Int)+_=_;simp;omega) hcan h5
   refine ⟨?_,y,h4, ?_,uT h6.symm ?_ h3⟩
   ·unfold pP at h9 ⊢;rw [h7];exact h9
   ·unfold pP at M8 ⊢;rw [h8] at M8;exact M8
   show (f.pl++ [y]++ [x]).Perm (f.pl++ [x]++ [y])
   rw [List.append_assoc,List.append_assoc]
   exact List.Perm.append_left _ (List.Perm.swap ..)
theorem CH {g:Gr} (hc:(bE g).1=0) {p:Pl} (hp:aT g p):∀ {m:Nat} {f:Fr},yd g f→uS g p m f→∀ {i:Nat},i<g.es.length→tl g i∈f.pl→hd g i∉f.pl→∃t∈f.row,t.1=(i:Int)
 |0,f,hi,h,i,hil,_,hh=>by
  have hr:=bQ (an hc) hil
  exact absurd (kE hi.tofY h (x:=hd g i) hr) hh
 |m+1,f,hi,⟨x,hR,_,h⟩,i,hil,ht,hh=>by
  have hm:=an hc
  have px:=bW hp (aD hR).1 (aD hR).2.1
  by_cases hx:hd g i=x
  ·obtain ⟨t,h1,h2,_⟩:=uA hm hi hR hil hx
   exact ⟨t,h1,h2⟩
  ·obtain ⟨t,h1,h2⟩:=CH hc hp (gX hm hi hR px) h hil (List.mem_append.2 (.inl ht)) (fun h1=>by
    rcases List.mem_append.1 h1 with h1|h1
    ·exact hh h1
    ·exact hx (by simpa using h1))
   obtain ⟨A,X,C,hr,_,_,_,hs⟩:=fq hm hi.tofY hR
   rw [hs] at h1
   simp only [List.mem_append] at h1
   rcases h1 with (h1|h1)|h1
   ·exact ⟨t,by rw [hr];simp [h1],h2⟩
   ·rcases kD (fun i hi=>px.mem_iff.1 hi) h1 with ⟨h3,_⟩|⟨k,h3,h4,h5,_,h6,_⟩
    ·omega
    ·have:k=i:=by omega
     subst this
     exact absurd (h6 ▸ ht) (aD hR).2.2
   ·exact ⟨t,by rw [hr];simp [h1],h2⟩
def eR (g:Gr) (e:Int):Int:=(g.es.getD e.toNat (0,0)).1
def eH (g:Gr) (e:Int):Int:=(g.es.getD e.toNat (0,0)).2
def He (g:Gr) (x:Int):Prop:=0≤x∧x<g.n
instance {g:Gr} {x:Int} :Decidable (He g x):=inferInstanceAs (Decidable (0≤x∧x<g.n))
def uU (g:Gr) (p:Pl) (k:Nat) (W D:List Int):Prop:=∃f,yd g f∧f.pl=D∧W=(fT f.row).map (·.1)∧uS g p k f∧(D.length:Int)+k=g.n∧aH p 0∈D
def Pg (g:Gr) (p:Pl) (x:Int):Nat:=((AM g.n.toNat p.ord p.ord.length).getD x.toNat 0).toNat
def Ak (g:Gr) (p:Pl):PS:=
 {m:=g.es.length,src:=aH p 0,Me:=aH p (g.n.toNat - 1),tl:=eR g,hd:=eH g,ins:=fun x=>if He g x then nj g p x else [],outs:=fun x=>if He g x then cq p x else [],OH:=Pg g p,Row:=uU g p,k0:=g.n.toNat - 1}
theorem By {g:Gr} {p:Pl} {x:Int} (h:He g x):(Ak g p).ins x=nj g p x:=if_pos h
theorem Il {g:Gr} {p:Pl} {x:Int} (h:¬He g x):(Ak g p).ins x= []:=if_neg h
theorem Im {g:Gr} {p:Pl} {x:Int} (h:He g x):(Ak g p).outs x=cq p x:=if_pos h
theorem bG {f:Edge→Int} {es:List Edge} {x e:Int} :e∈aK f es es.length x↔(0≤e∧e<es.length)∧f (es.getD e.toNat (0,0))=x:=by
 refine ⟨gH,fun ⟨h1,h2⟩=> ?_⟩
 simp only [aK,List.mem_map,List.mem_filter,List.mem_range,decide_eq_true_eq]
 exact ⟨e.toNat,⟨by omega,h2⟩,by simp;omega⟩
section
variable {g:Gr} {p:Pl}
theorem yq (hm:aM g=true) {f:Fr} (hi:fY g f) {t:It} (ht:t∈fT f.row):(0≤t.1∧t.1<g.es.length)∧t.2.1=eR g t.1∧t.2.2=eH g t.1:=by
 obtain ⟨h1,h2⟩:=eD.1 ht
 rcases hi.it t h1 with h3|h3
 ·omega
 ·exact ⟨⟨h3.1,h3.2.1⟩,h3.2.2.1,h3.2.2.2⟩
theorem Ja {f:Fr} (hi:yd g f):((fT f.row).map (·.1)).Nodup:=by
 refine List.pairwise_map.2 ?_
 have:=hi.once.filter (fun t:It=>decide (0≤t.1))
 refine List.Pairwise.imp_of_mem (fun {s t} hs ht h1=>h1 (eD.1 hs).2) this
theorem Io (hm:aM g=true) {f:Fr} (hi:yd g f) {x:Int} (hR:au g f x=true):(pP g p f x).Nodup∧∀e,e∈pP g p f x↔(0≤e∧e<g.es.length)∧eH g e=x:=by
 by_cases hn:aW g x=0
 ·have hno:=gK hm hi.tofY (aD hR).1 hn
  have e0:pP g p f x= []:=by unfold pP;rw [gJ _ hno];rfl
  rw [e0]
  refine ⟨List.nodup_nil,fun e=>⟨fun h=>by (cases h),fun ⟨h1,h2⟩=> ?_⟩⟩
  have:=bG.2 ⟨h1,h2⟩
  have h3:aK (·.2) g.es g.es.length x= []:=List.eq_nil_of_length_eq_zero hn
  rw [h3] at this;cases this
 ·obtain ⟨a,c,e1,ha,hc,hX,hl,_⟩:=CG hm hi.tofY hR hn (cq p x)
  have bV:=Ja hi
  have hmem:∀t∈fT (aA g f x (cq p x)).1.1,t∈fT f.row:=fun t ht=>by rw [e1];simp [ht]
  rw [e1,List.map_append,List.map_append,List.nodup_append] at bV
  have M9:(pP g p f x).Nodup:=(List.nodup_append.1 bV.1).2.1
  have hsub:∀e∈pP g p f x,e∈aK (·.2) g.es g.es.length x:=fun e he=>by
   obtain ⟨t,ht,rfl⟩:=List.mem_map.1 he
   obtain ⟨h1,_,h3⟩:=yq hm hi.tofY (hmem t ht)
   exact bG.2 ⟨h1,by rw [← hX t ht,h3];rfl⟩
  have hlen:(aK (·.2) g.es g.es.length x).length=(pP g p f x).length:=by
   unfold pP;rw [List.length_map,hl];rfl
  exact ⟨M9,fun e=>⟨fun he=>bG.1 (hsub e he),fun he=>yc M9 hsub hlen e (bG.2 he)⟩⟩
theorem Ip (h:bn g p) {k:Nat} (hk:k<g.n.toNat):nj g p (aH p k)=pP g p (fK g p k) (aH p k):=by
 unfold nj
 rw [ye h.2.1 (Nat.le_refl _) hk];rfl
theorem Al (h:bn g p) {x:Int} (hx:He g x):(nj g p x).Nodup∧∀e,e∈nj g p x↔(0≤e∧e<g.es.length)∧eH g e=x:=by
 obtain ⟨k,hk,rfl⟩:=gN h.2.1 hx.1 hx.2
 have hm:=an h.1
 obtain ⟨hi,_,_⟩:=b7 hm h.2.1 (k:=k) (by omega) fun j hj=>h.2.2 j (by omega)
 rw [Ip h hk]
 exact Io hm hi (h.2.2 k hk)
theorem Am (h:bn g p) {x:Int} (hx:He g x):(nj g p x).length=aW g x:=by
 obtain ⟨h1,h2⟩:=Al h hx
 refine Nat.le_antisymm ?_ ?_
 ·exact mR h1 fun e he=>bG.2 ((h2 e).1 he)
 ·exact mR cI fun e he=>(h2 e).2 (bG.1 he)
theorem uU.nd {k:Nat} {W D:List Int} (h:uU g p k W D):W.Nodup:=by
 obtain ⟨f,hi,_,rfl,_⟩:=h;exact Ja hi
theorem uU.mem (h:bn g p) {k:Nat} {W D:List Int} (hr:uU g p k W D) (e:Int):e∈W↔(0≤e∧e<g.es.length)∧eR g e∈D∧eH g e∉D:=by
 have hm:=an h.1
 obtain ⟨f,hi,rfl,rfl,hc,_⟩:=hr
 constructor
 ·intro he
  obtain ⟨t,ht,rfl⟩:=List.mem_map.1 he
  obtain ⟨h1,h2,h3⟩:=yq hm hi.tofY ht
  obtain ⟨h4,h5⟩:=eD.1 ht
  exact ⟨h1,h2 ▸ hi.tail t h4 h5,h3 ▸ hi.head t h4 h5⟩
 ·rintro ⟨h1,h2,h3⟩
  obtain ⟨t,h4,h5⟩:=CH h.1 h.2.1 hi hc (i:=e.toNat) (by omega) h2 h3
  exact List.mem_map.2 ⟨t,eD.2 ⟨h4,by omega⟩,by omega⟩
theorem uU.next (h:bn g p) {k:Nat} {W D:List Int} (hr:uU g p (k+1) W D):∃x A C,W=A++(Ak g p).ins x++C∧(Ak g p).ins x≠ []:=by
 have hm:=an h.1
 obtain ⟨f,hi,rfl,rfl,⟨x,hR,hg,_⟩,_,hs⟩:=hr
 obtain ⟨x0,x1,x2⟩:=aD hR
 have hx:He g x:=⟨x0,x1⟩
 have hn:aW g x≠0:=fun h0=>by
  have:=lB h.1 (x:=x) (y:=aH p 0) hx (hi.qt _ hs) h0 (DX h)
  exact x2 (this ▸ hs)
 obtain ⟨a,c,e1,_,_,_,hl,_⟩:=CG hm hi.tofY hR hn (cq p x)
 refine ⟨x,a.map (·.1),c.map (·.1), ?_, ?_⟩
 ·rw [By hx, ← hg,e1,List.map_append,List.map_append];rfl
 ·rw [By hx]
  intro h0
  have:=Am h hx
  rw [h0] at this
  exact hn this.symm
theorem uU.step (h:bn g p) {k:Nat} {W D A C:List Int} {x:Int} (hr:uU g p k W D) (hW:W=A++(Ak g p).ins x++C) (hI:(Ak g p).ins x≠ []):∃k',k=k'+1∧uU g p k' (A++(Ak g p).outs x++C) (D++ [x]):=by
 have hm:=an h.1
 have hx:He g x:=Decidable.byContradiction fun h0=>hI (Il h0)
 have bV:=hr.nd
 have hmem:=uU.mem h hr
 rw [By hx] at hW hI
 rw [Im hx]
 obtain ⟨i1,i2⟩:=Al h hx
 obtain ⟨e0,u0,JZ⟩:=xX hI
 have Qf:x∉D:=by
  have h1:=(i2 e0).1 (by rw [JZ];simp)
  have h2:=(hmem e0).1 (by rw [hW,JZ];simp)
  rw [h1.2] at h2;exact h2.2.2
 obtain ⟨f,hi,rfl,Sd,hc,hD,hs⟩:=hr
 rw [Sd] at hW bV
 obtain ⟨l1,c,e1,e2,e3⟩:=List.map_eq_append_iff.1 hW
 obtain ⟨a,X,e4,e5,e6⟩:=List.map_eq_append_iff.1 e2
 have hrow:fT f.row=a++X++c:=by rw [e1,e4]
 rw [hrow,List.map_append,List.map_append,e5,e6,e3] at bV
 have hit:∀t∈a++X++c,(0≤t.1∧t.1<g.es.length)∧t.2.1=eR g t.1∧t.2.2=eH g t.1:=fun t ht=>yq hm hi.tofY (by rw [hrow];exact ht)
 have hX:vE x X:=fun t ht=>by
  have h1:t.1∈nj g p x:=by rw [← e6];exact List.mem_map_of_mem ht
  rw [(hit t (by simp [ht])).2.2,((i2 _).1 h1).2]
 have hin:∀t∈a++X++c,t.2.2=x→t.1∈nj g p x:=fun t ht e=>by
  obtain ⟨h1,_,h3⟩:=hit t ht
  exact (i2 _).2 ⟨h1,by rw [← h3,e]⟩
 have ha:fS x a:=fun t ht e=>by
  have h1:=hin t (by simp [ht]) e
  have h2:t.1∈A:=by rw [← e5];exact List.mem_map_of_mem ht
  exact (List.nodup_append.1 (List.nodup_append.1 bV).1).2.2 _ h2 _ h1 rfl
 have Qg:fS x c:=fun t ht e=>by
  have h1:=hin t (by simp [ht]) e
  have h2:t.1∈C:=by rw [← e3];exact List.mem_map_of_mem ht
  exact (List.nodup_append.1 bV).2.2 _ (List.mem_append.2 (.inr h1)) _ h2 rfl
 have ON:X.length=aW g x:=by rw [← Am h hx, ← e6,List.length_map]
 have nX:X≠ []:=fun h0=>hI (by rw [← e6,h0];rfl)
 have hR:=Aj hm hi.tofY hx.1 hx.2 Qf hrow ha Qg hX nX ON
 have hn:aW g x≠0:=fun h0=>nX (List.eq_nil_of_length_eq_zero (ON.trans h0))
 have px:=bW h.2.1 hx.1 hx.2
 cases k with
 |zero=>exact absurd (kE hi.tofY (by omega) hx) Qf
 |succ k=>
  refine ⟨k,rfl,q8 g p f x,gX hm hi hR px,rfl, ?_,(wV h.1 h.2.1 hi (by omega) hc hR).2, ?_,List.mem_append.2 (.inl hs)⟩
  ·have:=CF hm hi.tofY hR hn hrow ha Qg hX nX (cq p x)
   show _=(fT (aA g f x (cq p x)).2.row).map (·.1)
   rw [this,List.map_append,List.map_append,e5,e3,qF (fun i hi=>by
    have:=bG.1 (px.mem_iff.1 hi);exact this.1.1),List.map_map]
   have e7:((fun t:It=>t.1) ∘ ef g x)=id:=rfl
   rw [e7,List.map_id]
  ·show (((f.pl++ [x]).length:Nat):Int)+_=_
   rw [List.length_append,List.length_singleton];omega
end
end Go.Ab
end
section
namespace Go.Ab
open Go.Proofs
set_option maxRecDepth 10000
structure kJ (g:Gr) (p:Pl) (k:Nat) (e:Int):Prop where
 e0:0≤e
 e1:e<g.es.length
 low:eR g e∈p.ord.take k
 top:eH g e∉p.ord.take k
structure Gy (g:Gr) (p:Pl) (L:Nat→Int→Int→Prop):Prop where
 up:∀e:Int,0≤e→e<g.es.length→∀k,k<g.n.toNat→aH p k=eH g e→eR g e∈p.ord.take k
 Se:∀k,k<g.n.toNat→∀a b c:Int,kJ g p k a→kJ g p k b→kJ g p k c→eH g a=aH p k→eH g c=aH p k→L k a b→L k b c→eH g b=aH p k
 keep:∀k,k<g.n.toNat→∀a b:Int,kJ g p k a→kJ g p k b→eH g a≠aH p k→eH g b≠aH p k→L k a b→L (k+1) a b
 left:∀k,k<g.n.toNat→∀a b c:Int,kJ g p k a→kJ g p k b→eH g a≠aH p k→eH g b=aH p k→c∈cq p (aH p k)→L k a b→L (k+1) a c
 right:∀k,k<g.n.toNat→∀a b c:Int,kJ g p k a→kJ g p k b→eH g a≠aH p k→eH g b=aH p k→c∈cq p (aH p k)→L k b a→L (k+1) c a
 outs:∀k,k<g.n.toNat→(cq p (aH p k)).Pairwise (L (k+1))
theorem wW {α:Type} (P:α→Prop) [DecidablePred P]:∀l:List α,∃X v,l=X++v∧(∀t∈X,P t)∧(v= []∨∃b v',v=b::v'∧¬P b)
 | []=>⟨[], [],rfl,by simp, .inl rfl⟩
 |a::l=>by
  by_cases h:P a
  ·obtain ⟨X,v,e,h1,h2⟩:=wW P l
   exact ⟨a::X,v,by simp [e],fun t ht=>(List.mem_cons.1 ht).elim (fun e=>e ▸ h) (h1 t),h2⟩
  ·exact ⟨[],a::l,rfl,by simp, .inr ⟨a,l,rfl,h⟩⟩
theorem wX {α:Type} {P:α→Prop} [DecidablePred P] {R:α→α→Prop} :∀ {l:List α},l.Pairwise R→(∀a b c,a∈l→b∈l→c∈l→P a→P c→R a b→R b c→P b)→(∃a∈l,P a)→
 ∃u X v,l=u++X++v∧(∀t∈u,¬P t)∧(∀t∈X,P t)∧X≠ []∧∀t∈v,¬P t
 | [],_,_,⟨a,ha,_⟩=>by cases ha
 |t::l,hp,hb,hex=>by
  obtain ⟨hp1,hp2⟩:=List.pairwise_cons.1 hp
  by_cases h:P t
  ·obtain ⟨X,v,e,h1,h2⟩:=wW P l
   refine ⟨[],t::X,v,by simp [e],by simp,fun s hs=>(List.mem_cons.1 hs).elim (fun e=>e ▸ h) (h1 s),by simp,fun c hc Qh=> ?_⟩
   rcases h2 with rfl|⟨b,v',rfl,hnb⟩
   ·cases hc
   ·have hb1:b∈l:=by rw [e];simp
    rcases List.mem_cons.1 hc with rfl|rC
    ·exact hnb Qh
    ·have hbc:R b c:=by
      rw [e] at hp2
      have:=(List.pairwise_append.1 hp2).2.1
      exact (List.pairwise_cons.1 this).1 c rC
     exact hnb (hb t b c (by simp) (by simp [hb1]) (by rw [e];simp [rC]) h Qh (hp1 b hb1) hbc)
  ·obtain ⟨a,ha,hPa⟩:=hex
   have Mf:a∈l:=(List.mem_cons.1 ha).elim (fun e=>absurd (e ▸ hPa) h) id
   obtain ⟨u,X,v,e,h1,h2,h3,h4⟩:=wX hp2 (fun a b c ha hb' hc=>hb a b c (by simp [ha]) (by simp [hb']) (by simp [hc])) ⟨a,Mf,hPa⟩
   exact ⟨t::u,X,v,by simp [e],fun s hs=>(List.mem_cons.1 hs).elim (fun e=>e ▸ h) (h1 s),h2,h3,h4⟩
theorem kK {p:Pl} {k:Nat} {y:Int} (h:y∈p.ord.take k):∃j,j<k∧j<p.ord.length∧aH p j=y:=by
 obtain ⟨j,hj,e⟩:=List.mem_iff_getElem.1 h
 simp only [List.length_take] at hj
 refine ⟨j,by omega,by omega, ?_⟩
 rw [aH,List.getD_eq_getElem?_getD,List.getElem?_eq_getElem (by omega),Option.getD_some, ← e,List.getElem_take]
theorem wY {p:Pl} {k j:Nat} (h1:j<k) (h2:j<p.ord.length):aH p j∈p.ord.take k:=by
 rw [aH,List.getD_eq_getElem?_getD,List.getElem?_eq_getElem h2,Option.getD_some]
 exact List.mem_iff_getElem.2 ⟨j,by simp;omega,by simp⟩
theorem wZ {g:Gr} {p:Pl} (hp:aT g p) {k:Nat} (hk:k<g.n.toNat):aH p k∉p.ord.take k:=fun h=>by
 obtain ⟨j,h1,h2,h3⟩:=kK h
 have:=mW hp (i:=j) (j:=k) (by omega) hk h3
 omega
theorem gL {g:Gr} {p:Pl} (hp:aT g p) {k:Nat} (hk:k<g.n.toNat):p.ord.take (k+1)=p.ord.take k++ [aH p k]:=by
 rw [List.take_add_one,List.getElem?_eq_getElem (by rw [aQ hp];exact hk),aH,List.getD_eq_getElem?_getD,List.getElem?_eq_getElem (by rw [aQ hp];exact hk)]
 rfl
section
variable {g:Gr} {p:Pl}
theorem jK (hm:aM g=true) {f:Fr} (hi:yd g f) {k:Nat} (dG:f.pl=p.ord.take k) {t:It} (ht:t∈fT f.row):kJ g p k t.1∧eR g t.1=t.2.1∧eH g t.1=t.2.2:=by
 obtain ⟨h1,h2⟩:=eD.1 ht
 rcases hi.it t h1 with h|⟨_,g2,g3,g4⟩
 ·omega
 ·refine ⟨⟨h2,g2, ?_, ?_⟩,g3.symm,g4.symm⟩
  ·rw [← dG];unfold eR;rw [← g3];exact hi.tail t h1 h2
  ·rw [← dG];unfold eH;rw [← g4];exact hi.head t h1 h2
theorem An (hc:(bE g).1=0) (hp:aT g p) {L:Nat→Int→Int→Prop} (hL:Gy g p L):∀ {k:Nat},k≤g.n.toNat→
 (∀j,j<k→qa g p j=true)∧((fT (fK g p k).row).Pairwise fun s t=>L k s.1 t.1)∧∀e,kJ g p k e→∃t∈(fK g p k).row,t.1=e
 |0,_=>⟨fun j hj=>by omega,by simp [fK,fT],fun e he=>by have:=he.low;simp at this⟩
 |k+1,hk=>by
  have hm:=an hc
  obtain ⟨ih1,ih2,ih3⟩:=An hc hp hL (k:=k) (by omega)
  obtain ⟨hi,dG,_⟩:=b7 hm hp (k:=k) (by omega) ih1
  obtain ⟨x0,x1⟩:=bC hp (k:=k) (by omega)
  have hnew:=wZ hp (k:=k) (by omega)
  have hnext:=gL hp (k:=k) (by omega)
  have hpx:=bW hp x0 x1
  have hout:∀i∈cq p (aH p k),(0≤i∧i<g.es.length)∧eR g i=aH p k:=fun i hi=>bG.1 (hpx.mem_iff.1 hi)
  have C3:=hL.outs k (by omega)
  have Ao:fK g p (k+1)=(aA g (fK g p k) (aH p k) (cq p (aH p k))).2:=rfl
  have hab:=qF (g:=g) (x:=aH p k) (o:=cq p (aH p k)) fun i hi=>(hout i hi).1.1
  have fin:∀a X c:List It,qa g p k=true→fT (fK g p k).row=a++X++c→fS (aH p k) a→fS (aH p k) c→vE (aH p k) X→(X≠ []∨a++c= [])→fT (fK g p (k+1)).row=a++fT (aJ g (aH p k) (cq p (aH p k)))++c→
   (∀j,j<k+1→qa g p j=true)∧((fT (fK g p (k+1)).row).Pairwise fun s t=>L (k+1) s.1 t.1)∧∀e,kJ g p (k+1) e→∃t∈(fK g p (k+1)).row,t.1=e:=by
   intro a X c hR e ha rC hX DY hs
   refine ⟨fun j hj=> ?_, ?_,fun q hq=> ?_⟩
   ·by_cases h:j=k
    ·subst h;exact hR
    ·exact ih1 j (by omega)
   ·have hma:∀t∈a,t∈fT (fK g p k).row:=fun t ht=>by rw [e];simp [ht]
    have Na:∀t∈X,t∈fT (fK g p k).row:=fun t ht=>by rw [e];simp [ht]
    have I7:∀t∈c,t∈fT (fK g p k).row:=fun t ht=>by rw [e];simp [ht]
    have CI:=fun t ht=>jK (p:=p) hm hi dG (t:=t) ht
    rw [e,List.pairwise_append,List.pairwise_append] at ih2
    obtain ⟨⟨pa,pX,Sf⟩,pc,Mu⟩:=ih2
    have hne:∀t,t∈a∨t∈c→eH g t.1≠aH p k:=fun t ht=>by
     rcases ht with ht|ht
     ·rw [(CI t (hma t ht)).2.2];exact ha t ht
     ·rw [(CI t (I7 t ht)).2.2];exact rC t ht
    rw [hs,hab,List.pairwise_append,List.pairwise_append]
    refine ⟨⟨?_, ?_, ?_⟩, ?_, ?_⟩
    ·exact pa.imp_of_mem fun {s t} hs' ht' h=>hL.keep k (by omega) _ _ (CI s (hma s hs')).1 (CI t (hma t ht')).1 (hne s (.inl hs')) (hne t (.inl ht')) h
    ·rw [List.pairwise_map];exact C3
    ·intro s hs' t ht'
     obtain ⟨i,hi',rfl⟩:=List.mem_map.1 ht'
     rcases DY with DY|h0
     ·obtain ⟨y,Y,rfl⟩:∃y Y,X=y::Y:=by
       cases X with
       |nil=>exact absurd rfl DY
       |cons y Y=>exact ⟨y,Y,rfl⟩
      exact hL.left k (by omega) s.1 y.1 i (CI s (hma s hs')).1 (CI y (Na y (by simp))).1 (hne s (.inl hs')) (by rw [(CI y (Na y (by simp))).2.2];exact hX y (by simp)) hi' (Sf s hs' y (by simp))
     ·rw [(List.append_eq_nil_iff.1 h0).1] at hs';cases hs'
    ·exact pc.imp_of_mem fun {s t} hs' ht' h=>hL.keep k (by omega) _ _ (CI s (I7 s hs')).1 (CI t (I7 t ht')).1 (hne s (.inr hs')) (hne t (.inr ht')) h
    ·intro s hs' t ht'
     rcases List.mem_append.1 hs' with hs1|hs1
     ·exact hL.keep k (by omega) _ _ (CI s (hma s hs1)).1 (CI t (I7 t ht')).1 (hne s (.inl hs1)) (hne t (.inr ht')) (Mu s (by simp [hs1]) t ht')
     ·obtain ⟨i,hi',rfl⟩:=List.mem_map.1 hs1
      rcases DY with DY|h0
      ·obtain ⟨y,Y,rfl⟩:∃y Y,X=y::Y:=by
        cases X with
        |nil=>exact absurd rfl DY
        |cons y Y=>exact ⟨y,Y,rfl⟩
       exact hL.right k (by omega) t.1 y.1 i (CI t (I7 t ht')).1 (CI y (Na y (by simp))).1 (hne t (.inr ht')) (by rw [(CI y (Na y (by simp))).2.2];exact hX y (by simp)) hi' (Mu y (by simp) t ht')
      ·rw [(List.append_eq_nil_iff.1 h0).2] at ht';cases ht'
   ·have Cd:∃t∈fT (fK g p (k+1)).row,t.1=q:=by
     have hl:=hq.low
     rw [hnext,List.mem_append,List.mem_singleton] at hl
     have ht:=hq.top
     rw [hnext,List.mem_append,List.mem_singleton] at ht
     rw [hs]
     rcases hl with hl|hl
     ·obtain ⟨t,ht1,ht2⟩:=ih3 q ⟨hq.e0,hq.e1,hl,fun h=>ht (.inl h)⟩
      have hte:t∈fT (fK g p k).row:=eD.2 ⟨ht1,by rw [ht2];exact hq.e0⟩
      have hh:=(jK (p:=p) hm hi dG hte).2.2
      have iz:=hte
      rw [e,List.mem_append,List.mem_append] at iz
      rcases iz with (h1|h1)|h1
      ·exact ⟨t,by simp [h1],ht2⟩
      ·exact absurd (by rw [← ht2,hh];exact hX t h1) fun h=>ht (.inr h)
      ·exact ⟨t,by simp [h1],ht2⟩
     ·refine ⟨ef g (aH p k) q, ?_,rfl⟩
      rw [hab,List.mem_append,List.mem_append]
      exact .inl (.inr (List.mem_map.2 ⟨q,hpx.mem_iff.2 (bG.2 ⟨⟨hq.e0,hq.e1⟩,hl⟩),rfl⟩))
    obtain ⟨t,h1,h2⟩:=Cd
    exact ⟨t,(eD.1 h1).1,h2⟩
  by_cases hn:aW g (aH p k)=0
  ·have hno:=gK hm hi.tofY x0 hn
   have hR:qa g p k=true:=by
    show au g (fK g p k) (aH p k)=true
    unfold au
    rw [if_neg (by rintro (h|h|h);omega;omega;exact hnew (dG ▸ h)),if_pos hn]
   have hrow:(fK g p k).row= []:=by
    rcases hi.src with h|⟨s,hs,hs0⟩
    ·exact h.2
    ·have:=lB hc (hi.qt s hs) ⟨x0,x1⟩ hs0 hn
     exact absurd (by rw [← dG, ← this];exact hs) hnew
   refine fin [] [] [] hR (by rw [hrow];rfl) (fun t ht=>by cases ht) (fun t ht=>by cases ht) (fun t ht=>by cases ht) (.inr rfl) ?_
   rw [Ao,gJ _ hno,hrow]
   simp
  ·have hex:∃e,e∈aK (·.2) g.es g.es.length (aH p k):=by
    cases h:aK (·.2) g.es g.es.length (aH p k) with
    |nil=>exact absurd (by unfold aW;rw [h];rfl) hn
    |cons e l=>exact ⟨e,by simp⟩
   have Mv:∀e,e∈aK (·.2) g.es g.es.length (aH p k)→∃t∈fT (fK g p k).row,t.1=e∧t.2.2=aH p k:=fun e he=>by
    obtain ⟨⟨e0,e1⟩,e2⟩:=bG.1 he
    obtain ⟨t,ht1,ht2⟩:=ih3 e ⟨e0,e1,hL.up e e0 e1 k (by omega) e2.symm,by rw [show eH g e=aH p k from e2];exact hnew⟩
    have hte:t∈fT (fK g p k).row:=eD.2 ⟨ht1,by rw [ht2];exact e0⟩
    exact ⟨t,hte,ht2,by rw [← (jK (p:=p) hm hi dG hte).2.2,ht2];exact e2⟩
   obtain ⟨e,he⟩:=hex
   obtain ⟨t0,Iq,_,Ph⟩:=Mv e he
   obtain ⟨a,X,c,hE,ha,hX,nX,rC⟩:=wX (P:=fun t:It=>t.2.2=aH p k) ih2 (fun a b c ma mb mc ea ec r1 r2=>by
    have ca:=jK (p:=p) hm hi dG ma
    have cb:=jK (p:=p) hm hi dG mb
    have cc:=jK (p:=p) hm hi dG mc
    rw [← cb.2.2]
    exact hL.Se k (by omega) a.1 b.1 c.1 ca.1 cb.1 cc.1 (by rw [ca.2.2];exact ea) (by rw [cc.2.2];exact ec) r1 r2) ⟨t0,Iq,Ph⟩
   have hlen:X.length=aW g (aH p k):=by
    have bV:((fT (fK g p k).row).map (·.1)).Nodup:=by
     rw [List.Nodup,List.pairwise_map]
     exact (hi.once.filter _).imp_of_mem fun {s t} hs ht h=>h (eD.1 hs).2
    have Pj:(X.map (·.1)).Nodup:=by
     rw [hE,List.map_append,List.map_append] at bV
     exact (List.nodup_append.1 (List.nodup_append.1 bV).1).2.1
    have Cu:(X.map (·.1)).Perm (aK (·.2) g.es g.es.length (aH p k)):=by
     refine (List.perm_ext_iff_of_nodup Pj cI).2 fun e=>⟨fun h=> ?_,fun h=> ?_⟩
     ·obtain ⟨t,ht,rfl⟩:=List.mem_map.1 h
      have hte:t∈fT (fK g p k).row:=by rw [hE];simp [ht]
      have ct:=jK (p:=p) hm hi dG hte
      exact bG.2 ⟨⟨ct.1.e0,ct.1.e1⟩,(show eH g t.1=_ by rw [ct.2.2];exact hX t ht)⟩
     ·obtain ⟨t,ht,h1,h2⟩:=Mv e h
      rw [hE,List.mem_append,List.mem_append] at ht
      rcases ht with (h3|h3)|h3
      ·exact absurd h2 (ha t h3)
      ·exact List.mem_map.2 ⟨t,h3,h1⟩
      ·exact absurd h2 (rC t h3)
    have:=Cu.length_eq
    rw [List.length_map] at this
    exact this
   have hR:qa g p k=true:=Aj hm hi.tofY x0 x1 (by rw [dG];exact hnew) hE ha rC hX nX hlen
   exact fin a X c hR hE ha rC hX (.inl nX) (by rw [Ao];exact CF hm hi.tofY hR hn hE ha rC hX nX _)
theorem DZ (hc:(bE g).1=0) (hp:aT g p) {L:Nat→Int→Int→Prop} (hL:Gy g p L):bn g p:=
 ⟨hc,hp,fun k hk=>(An hc hp hL (k:=k+1) (by omega)).1 k (by omega)⟩
end
end Go.Ab
end
section
namespace Go.Ab
open Go.Proofs
set_option maxRecDepth 10000
set_option linter.unusedSectionVars false
def CJ (lt:Int→Int→Bool) (us:List Int):Nat→Int
 |0=> -1
 |k+1=>if (!decide ((k:Int)∈us))&&(decide (CJ lt us k<0)||lt k (CJ lt us k)) then k else CJ lt us k
def Mw (lt:Int→Int→Bool) (n:Nat):Nat→List Int
 |0=> []
 |j+1=>Mw lt n j++ [CJ lt (Mw lt n j) n]
def Sg (lt:Int→Int→Bool) (u v:Int):Prop:=lt u v=true∧lt v u=false
section
variable {lt:Int→Int→Bool} {n:Nat} {ord:List Int} (hp:ord.Perm (ee n)) (hs:ord.Pairwise (Sg lt))
include hp hs
end
def Jb (sw:Int→Int→Bool):Int→List Int→Int × List Int
 |a, []=>(a, [])
 |a,c::r=>if sw a c then ((Jb sw c r).1,a::(Jb sw c r).2) else ((Jb sw a r).1,c::(Jb sw a r).2)
def Qi (sw:Int→Int→Bool):Nat→List Int→List Int
 |0,l=>l
 |_+1, []=> []
 |n+1,a::r=>(Jb sw a r).1::Qi sw n (Jb sw a r).2
section
variable {sw:Int→Int→Bool} {R:Int→Int→Prop} {S:Int→Prop} (htr:∀a b c,S a→S b→S c→R a b→R b c→R a c) (hsw:∀a c,S a→S c→a≠c→if sw a c=true then R c a else R a c)
include htr hsw
end
theorem D2 {R:Int→Int→Prop} {l m:List Int} (hp:l.Perm m) (ha:∀a b,R a b→R b a→False) (h1:l.Pairwise R) (h2:m.Pairwise R):l=m:=by
 induction l generalizing m with
 |nil=>exact hp.symm.eq_nil.symm
 |cons a l ih=>
  cases m with
  |nil=>exact absurd hp.length_eq (by simp)
  |cons b m=>
   obtain ⟨a1,a2⟩:=List.pairwise_cons.1 h1
   obtain ⟨b1,b2⟩:=List.pairwise_cons.1 h2
   have hab:a=b:=by
    refine Decidable.byContradiction fun hne=> ?_
    have ma:a∈b::m:=hp.mem_iff.1 (by simp)
    have mb:b∈a::l:=hp.mem_iff.2 (by simp)
    have ma:a∈m:=(List.mem_cons.1 ma).elim (fun e=>absurd e hne) id
    have mb:b∈l:=(List.mem_cons.1 mb).elim (fun e=>absurd e.symm hne) id
    exact ha a b (a1 b mb) (b1 a ma)
   subst hab
   rw [ih ((List.perm_cons a).1 hp) a2 b2]
def TC (sw:Int→Int→Bool) (a:Int) (done todo:List Int):List Int:=(Jb sw a todo).1::Qi sw (done.length+todo.length) (done++(Jb sw a todo).2)
end Go.Ab
end
section
namespace Go.Ab
open Go.Proofs
set_option maxRecDepth 10000
set_option linter.unusedSectionVars false
theorem gh:∀ {l:List Int} {i:Nat},l.Nodup→i<l.length→l.idxOf (l.getD i 0)=i
 | [],i,_,h=>by simp at h
 |a::l,0,_,_=>by simp
 |a::l,i+1,hn,h=>by
  obtain ⟨h1,h2⟩:=List.nodup_cons.1 hn
  have hi:i<l.length:=by simpa using h
  have e:(a::l).getD (i+1) 0=l.getD i 0:=rfl
  have hm:l.getD i 0∈l:=aG hi
  have hne:(a==l.getD i 0)=false:=by
   rw [beq_eq_false_iff_ne];intro e2;exact h1 (e2 ▸ hm)
  rw [e,List.idxOf_cons,hne,cond_false,gh h2 hi]
theorem uV {l:List Int} {u:Int} (h:u∈l):l.idxOf u<l.length∧l.getD (l.idxOf u) 0=u:=by
 have h1:=List.idxOf_lt_length_iff.2 h
 refine ⟨h1, ?_⟩
 rw [List.getD_eq_getElem?_getD,List.getElem?_eq_getElem h1,Option.getD_some]
 exact List.getElem_idxOf h1
theorem yu {A B:List Int} {u:Int} :(A++B).idxOf u=if u∈A then A.idxOf u else A.length+B.idxOf u:=by
 rw [List.idxOf_append];split<;>omega
section
variable {g:Gr} {p:Pl}
def uW (g:Gr) (p:Pl) (c:Nat):List Int:=(fT (fK g p c).row).map (·.1)
theorem jL (h:bn g p) {c:Nat} (hc:c≤g.n.toNat):(uW g p c).Nodup:=by
 obtain ⟨hi,_,_⟩:=b7 (an h.1) h.2.1 hc fun j hj=>h.2.2 j (by omega)
 rw [uW,List.Nodup,List.pairwise_map]
 exact (hi.once.filter _).imp_of_mem fun {s t} hs ht h=>h (eD.1 hs).2
theorem iX (h:bn g p) {c:Nat} (hc:c<g.n.toNat):∃A X C,uW g p c=A++X++C∧(∀e∈A,eH g e≠aH p c)∧(∀e∈X,eH g e=aH p c)∧(∀e∈C,eH g e≠aH p c)∧uW g p (c+1)=A++cq p (aH p c)++C:=by
 have hm:=an h.1
 obtain ⟨hi,dG,_⟩:=b7 hm h.2.1 (k:=c) (by omega) fun j hj=>h.2.2 j (by omega)
 obtain ⟨x0,x1⟩:=bC h.2.1 hc
 have hR:au g (fK g p c) (aH p c)=true:=h.2.2 c hc
 have hpx:=bW h.2.1 x0 x1
 have hab:=qF (g:=g) (x:=aH p c) (o:=cq p (aH p c)) fun i hi=>(bG.1 (hpx.mem_iff.1 hi)).1.1
 have hmap:(fT (aJ g (aH p c) (cq p (aH p c)))).map (·.1)=cq p (aH p c):=by
  rw [hab,List.map_map]
  have e7:((fun t:It=>t.1) ∘ ef g (aH p c))=id:=rfl
  rw [e7,List.map_id]
 have hd:∀t∈fT (fK g p c).row,eH g t.1=t.2.2:=fun t ht=>(jK (p:=p) hm hi dG ht).2.2
 have Ao:fK g p (c+1)=(aA g (fK g p c) (aH p c) (cq p (aH p c))).2:=rfl
 by_cases hn:aW g (aH p c)=0
 ·have hno:=gK hm hi.tofY x0 hn
  have hrow:(fK g p c).row= []:=by
   rcases hi.src with h|⟨s,hs,hs0⟩
   ·exact h.2
   ·have:=lB h.1 (hi.qt s hs) ⟨x0,x1⟩ hs0 hn
    exact absurd (by rw [← dG, ← this];exact hs) (wZ h.2.1 hc)
  refine ⟨[], [], [],by simp [uW,hrow,fT],by simp,by simp,by simp, ?_⟩
  rw [uW,Ao,gJ _ hno,hrow]
  simpa using hmap
 ·obtain ⟨a,X,b,e,ha,hb,hX,_,hs⟩:=Ai hm hi.tofY hR hn
  refine ⟨a.map (·.1),X.map (·.1),b.map (·.1),by rw [uW,e,List.map_append,List.map_append], ?_, ?_, ?_, ?_⟩
  ·intro q hq
   obtain ⟨t,ht,rfl⟩:=List.mem_map.1 hq
   rw [hd t (by rw [e];simp [ht])];exact ha t ht
  ·intro q hq
   obtain ⟨t,ht,rfl⟩:=List.mem_map.1 hq
   rw [hd t (by rw [e];simp [ht])];exact hX t ht
  ·intro q hq
   obtain ⟨t,ht,rfl⟩:=List.mem_map.1 hq
   rw [hd t (by rw [e];simp [ht])];exact hb t ht
  ·rw [uW,Ao,hs,List.map_append,List.map_append,hmap]
theorem Ap (h:bn g p):∀ {c:Nat},c≤g.n.toNat→∀e,kJ g p c e→e∈uW g p c
 |0,_,e,he=>by have:=he.low;simp at this
 |c+1,hc,e,he=>by
  obtain ⟨A,X,C,e1,hA,hX,hC,e2⟩:=iX h (c:=c) (by omega)
  have hnext:=gL h.2.1 (k:=c) (by omega)
  have hl:=he.low
  have ht:=he.top
  rw [hnext,List.mem_append,List.mem_singleton] at hl ht
  rw [e2]
  rcases hl with hl|hl
  ·have:=Ap h (c:=c) (by omega) e ⟨he.e0,he.e1,hl,fun h=>ht (.inl h)⟩
   rw [e1,List.mem_append,List.mem_append] at this
   rcases this with (h1|h1)|h1
   ·simp [h1]
   ·exact absurd (hX e h1) fun h=>ht (.inr h)
   ·simp [h1]
  ·obtain ⟨x0,x1⟩:=bC h.2.1 (k:=c) (by omega)
   have:e∈cq p (aH p c):=(bW h.2.1 x0 x1).mem_iff.2 (bG.2 ⟨⟨he.e0,he.e1⟩,hl⟩)
   simp [this]
end
def w4 (g:Gr) (bs:List Int) (i:Int):Int:=g.n+(bs.idxOf i:Nat)
def fR (g:Gr) (bs:List Int):List Edge:=
 ((List.range g.es.length).map fun i:Nat=>(tl g i,if (i:Int)∈bs then w4 g bs i else hd g i))++(List.range bs.length).map fun k:Nat=>(g.n+(k:Int),eH g (bs.getD k 0))
def aO (g:Gr) (bs:List Int):Gr:=⟨g.n+bs.length,fR g bs⟩
structure Aq (g:Gr) (bs:List Int):Prop where
 nd:bs.Nodup
 qt:∀i∈bs,0≤i∧i<g.es.length
section
variable {g:Gr} {bs:List Int}
theorem gi:(aO g bs).es.length=g.es.length+bs.length:=by simp [aO,fR]
theorem di {e:Int} (h0:0≤e) (h1:e<g.es.length):eR (aO g bs) e=eR g e∧eH (aO g bs) e=if e∈bs then w4 g bs e else eH g e:=by
 have hl:e.toNat<g.es.length:=by omega
 have:(aO g bs).es.getD e.toNat (0,0)=(tl g e.toNat,if ((e.toNat:Nat):Int)∈bs then w4 g bs ((e.toNat:Nat):Int) else hd g e.toNat):=by
  simp only [aO,fR]
  rw [List.getD_eq_getElem?_getD,List.getElem?_append_left (by simpa using hl),List.getElem?_map,List.getElem?_range hl]
  rfl
 rw [show ((e.toNat:Nat):Int)=e by omega] at this
 exact ⟨by unfold eR;rw [this];rfl,by unfold eH;rw [this];rfl⟩
theorem iF {k:Nat} (h:k<bs.length):eR (aO g bs) ((g.es.length+k:Nat):Int)=g.n+(k:Int)∧eH (aO g bs) ((g.es.length+k:Nat):Int)=eH g (bs.getD k 0):=by
 have:(aO g bs).es.getD (g.es.length+k) (0,0)=(g.n+(k:Int),eH g (bs.getD k 0)):=by
  simp only [aO,fR]
  rw [List.getD_eq_getElem?_getD,List.getElem?_append_right (by simp),List.length_map,List.length_range,Nat.add_sub_cancel_left,List.getElem?_map,List.getElem?_range h]
  rfl
 exact ⟨by unfold eR;rw [Int.toNat_natCast,this],by unfold eH;rw [Int.toNat_natCast,this];rfl⟩
def Bz (g:Gr) (bs:List Int) (e:Int):Int:=if e<g.es.length then e else bs.getD (e - g.es.length).toNat 0
def D3 (g:Gr) (bs:List Int) (u:Int):Int:=if u<g.n then u else eR g (bs.getD (u - g.n).toNat 0)
theorem dK (hb:Aq g bs) {i:Int} (hi:i∈bs):g.n≤w4 g bs i∧w4 g bs i<g.n+bs.length∧D3 g bs (w4 g bs i)=eR g i∧bs.getD (w4 g bs i - g.n).toNat 0=i:=by
 obtain ⟨h1,h2⟩:=uV hi
 have e:(w4 g bs i - g.n).toNat=bs.idxOf i:=by unfold w4;omega
 refine ⟨by unfold w4;omega,by unfold w4;omega, ?_,by rw [e,h2]⟩
 unfold D3
 rw [if_neg (by unfold w4;omega),e,h2]
end
structure Gz (g:Gr) (p:Pl) (bs:List Int) (q:Pl):Prop where
 len:q.outs.length=(g.n+bs.length).toNat
 Jc:∀x:Nat,x<g.n.toNat→q.outs.getD x []=p.outs.getD x []
 GA:∀k:Nat,k<bs.length→q.outs.getD (g.n.toNat+k) []= [((g.es.length+k:Nat):Int)]
 perm:q.ord.Perm (ee (g.n+bs.length).toNat)
 sort:q.ord.Pairwise fun u v=>p.ord.idxOf (D3 g bs u)<p.ord.idxOf (D3 g bs v)∨D3 g bs u=D3 g bs v∧u<v
theorem rM {A B:List Int} {u:Int} (h:u∈A):(A++B).idxOf u=A.idxOf u∧A.idxOf u<A.length:=⟨by rw [yu,if_pos h],List.idxOf_lt_length_iff.2 h⟩
theorem iG {A B:List Int} {u:Int} (hn:(A++B).Nodup) (h:u∈B):(A++B).idxOf u=A.length+B.idxOf u∧B.idxOf u<B.length:=
 ⟨by rw [yu,if_neg fun ha=>(List.nodup_append.1 hn).2.2 u ha u h rfl],List.idxOf_lt_length_iff.2 h⟩
theorem yw {g:Gr} {p:Pl} (h:bn g p) {e:Int} (h0:0≤e) (h1:e<g.es.length):p.ord.idxOf (eR g e)<p.ord.idxOf (eH g e):=by
 have hm:=an h.1
 have bV:=cP h.2.1
 have hl:=aQ h.2.1
 obtain ⟨k,hk,ek⟩:=gN h.2.1 (bQ hm (i:=e.toNat) (by omega)).1 (bQ hm (i:=e.toNat) (by omega)).2
 obtain ⟨hi,dG,_⟩:=b7 hm h.2.1 (k:=k) (by omega) fun j hj=>h.2.2 j (by omega)
 obtain ⟨t,ht,e1,e2,_⟩:=uA hm hi (h.2.2 k hk) (i:=e.toNat) (by omega) ek.symm
 have hin:=hi.tail t ht (by omega)
 rw [dG,e2] at hin
 obtain ⟨j,j1,j2,j3⟩:=kK hin
 have a1:p.ord.idxOf (tl g e.toNat)=j:=by rw [← j3];exact gh bV j2
 have a2:p.ord.idxOf (hd g e.toNat)=k:=by rw [← ek];exact gh bV (by omega)
 show p.ord.idxOf (tl g e.toNat)<p.ord.idxOf (hd g e.toNat)
 omega
def KJ (g:Gr) (p:Pl) (bs:List Int) (u v:Int):Prop:=p.ord.idxOf (D3 g bs u)<p.ord.idxOf (D3 g bs v)∨D3 g bs u=D3 g bs v∧u<v
def gj (g:Gr) (q:Pl) (k:Nat):Nat:=((q.ord.take k).filter fun u=>decide (u<g.n)).length
section
variable {g:Gr} {p:Pl} {bs:List Int} {q:Pl} (h:bn g p) (hb:Aq g bs) (hq:Gz g p bs q)
include h hb hq
theorem GB:(aO g bs).n.toNat=g.n.toNat+bs.length:=by
 have hn:=aE (an h.1)
 show (g.n+(bs.length:Int)).toNat=_
 omega
theorem cW {e:Int} (h0:0≤e) (h1:e<(aO g bs).es.length):(e<g.es.length∧Bz g bs e=e)∨∃k:Nat,k<bs.length∧e=((g.es.length+k:Nat):Int)∧Bz g bs e=bs.getD k 0∧bs.getD k 0∈bs∧eR (aO g bs) e=w4 g bs (bs.getD k 0):=by
 rw [gi] at h1
 by_cases hlt:e<g.es.length
 ·exact .inl ⟨hlt,if_pos hlt⟩
 ·refine .inr ⟨(e - g.es.length).toNat,by omega,by omega,by unfold Bz;rw [if_neg hlt],aG (by omega), ?_⟩
  have hk:(e - g.es.length).toNat<bs.length:=by omega
  have:=(iF (g:=g) hk).1
  rw [show ((g.es.length+(e - g.es.length).toNat:Nat):Int)=e by omega] at this
  rw [this]
  unfold w4
  rw [gh hb.nd hk]
theorem iH {u:Int} (hu:u<g.n):D3 g bs u=u:=if_pos hu
theorem js:aT (aO g bs) q:=by
 have hm:=an h.1
 have hn:=aE hm
 have hN:=GB h hb hq
 refine ⟨by rw [hq.len];rfl,hq.perm,fun x hx=> ?_⟩
 rw [hN] at hx
 by_cases Ck:x<g.n.toNat
 ·rw [hq.Jc x Ck]
  have hp:=h.2.1.2.2 x Ck
  refine (List.perm_ext_iff_of_nodup (hp.nodup_iff.2 cI) cI).2 fun e=> ?_
  rw [hp.mem_iff]
  show e∈aK (·.1) g.es g.es.length (x:Int)↔e∈aK (·.1) (aO g bs).es (aO g bs).es.length (x:Int)
  rw [bG,bG]
  constructor
  ·rintro ⟨⟨h0,h1⟩,h2⟩
   exact ⟨⟨h0,by rw [gi];omega⟩,(di h0 h1).1.trans h2⟩
  ·rintro ⟨⟨h0,h1⟩,h2⟩
   rcases cW h hb hq h0 h1 with ⟨h3,_⟩|⟨k,h3,_,_,h4,h5⟩
   ·exact ⟨⟨h0,h3⟩,(di h0 h3).1.symm.trans h2⟩
   ·have:=(dK hb h4).1
    have h2:eR (aO g bs) e=x:=h2
    omega
 ·obtain ⟨k,rfl⟩:∃k,x=g.n.toNat+k:=⟨x - g.n.toNat,by omega⟩
  have hk:k<bs.length:=by omega
  rw [hq.GA k hk]
  refine (List.perm_ext_iff_of_nodup (by simp) cI).2 fun e=> ?_
  rw [List.mem_singleton]
  show _↔e∈aK (·.1) (aO g bs).es (aO g bs).es.length ((g.n.toNat+k:Nat):Int)
  rw [bG]
  have hnew:=iF (g:=g) hk
  constructor
  ·rintro rfl
   exact ⟨⟨by omega,by rw [gi];omega⟩,by have:eR (aO g bs) ((g.es.length+k:Nat):Int)=((g.n.toNat+k:Nat):Int):=by {rw [hnew.1];omega};exact this⟩
  ·rintro ⟨⟨h0,h1⟩,h2⟩
   have h2:eR (aO g bs) e=((g.n.toNat+k:Nat):Int):=h2
   rcases cW h hb hq h0 h1 with ⟨h3,_⟩|⟨j,h3,h6,_,h4,h5⟩
   ·have:=(di (bs:=bs) h0 h3).1
    have:=bu hm (i:=e.toNat) (by omega)
    have e3:eR g e=tl g e.toNat:=rfl
    omega
   ·unfold w4 at h5
    rw [gh hb.nd h3] at h5
    have:j=k:=by omega
    rw [h6,this]
theorem Jd {e:Int} (h0:0≤e) (h1:e<(aO g bs).es.length):KJ g p bs (eR (aO g bs) e) (eH (aO g bs) e):=by
 have hm:=an h.1
 have tr:=fun (i:Int) (a:0≤i) (b:i<g.es.length)=>show 0≤eR g i∧eR g i<g.n from bu hm (i:=i.toNat) (by omega)
 have hr:=fun (i:Int) (a:0≤i) (b:i<g.es.length)=>show 0≤eH g i∧eH g i<g.n from bQ hm (i:=i.toNat) (by omega)
 rcases cW h hb hq h0 h1 with ⟨h3,_⟩|⟨k,h3,h6,_,h4,h5⟩
 ·obtain ⟨r1,r2⟩:=di (g:=g) (bs:=bs) h0 h3
  rw [r1,r2]
  have t0:eR g e<g.n:=(tr e h0 h3).2
  by_cases hin:e∈bs
  ·rw [if_pos hin]
   obtain ⟨n1,_,n3,_⟩:=dK hb hin
   exact .inr ⟨by rw [n3];exact iH h hb hq t0,by omega⟩
  ·rw [if_neg hin]
   left
   rw [iH h hb hq t0,iH h hb hq (hr e h0 h3).2]
   exact yw h h0 h3
 ·rw [h5]
  obtain ⟨b0,b1⟩:=hb.qt _ h4
  obtain ⟨n1,_,n3,_⟩:=dK hb h4
  have:=(iF (g:=g) h3).2
  rw [← h6] at this
  rw [this]
  left
  rw [n3,iH h hb hq (hr _ b0 b1).2]
  exact yw h b0 b1
theorem Kk {j k:Nat} (hj:j<k) (hk:k<(aO g bs).n.toNat):KJ g p bs (aH q j) (aH q k):=by
 have hl:=aQ (js h hb hq)
 have:=List.pairwise_iff_getElem.1 hq.sort j k (by omega) (by omega) hj
 rw [aH,aH,List.getD_eq_getElem?_getD,List.getD_eq_getElem?_getD,List.getElem?_eq_getElem (by omega),List.getElem?_eq_getElem (by omega)]
 exact this
theorem pQ {u:Int} (h0:0≤u) (h1:u<(aO g bs).n) {k:Nat} (hk:k<(aO g bs).n.toNat) (hR:KJ g p bs u (aH q k)):u∈q.ord.take k:=by
 obtain ⟨j,hj,rfl⟩:=gN (js h hb hq) h0 h1
 refine wY (Decidable.byContradiction fun hn=> ?_) (by rw [aQ (js h hb hq)];exact hj)
 by_cases e:j=k
 ·subst e
  unfold KJ at hR;omega
 ·have h8:=Kk h hb hq (j:=k) (k:=j) (by omega) hj
  unfold KJ at hR h8
  rcases hR with h9|⟨h9,P3⟩
  ·rcases h8 with OL|⟨OL,_⟩
   ·omega
   ·rw [OL] at h9;omega
  ·rw [h9] at h8;omega
theorem w5 {u v:Int} (h0:0≤u) (h1:u<(aO g bs).n) {k:Nat} (hk:k≤(aO g bs).n.toNat) (hv:v∈q.ord.take k) (hR:KJ g p bs u v):u∈q.ord.take k:=by
 obtain ⟨j,j1,j2,rfl⟩:=kK hv
 obtain ⟨i,i1,i2,i3⟩:=kK (pQ h hb hq h0 h1 (k:=j) (by omega) hR)
 rw [← i3]
 exact wY (by omega) i2
theorem BA:(q.ord.filter fun u=>decide (u<g.n))=p.ord:=by
 have hn:=aE (an h.1)
 have hN:=GB h hb hq
 have bV:=cP h.2.1
 have hl:=aQ h.2.1
 refine D2 (R:=fun u v=>p.ord.idxOf u<p.ord.idxOf v) ?_ (fun a b h1 h2=>by omega) ?_ ?_
 ·refine (List.perm_ext_iff_of_nodup ((cP (js h hb hq)).filter _) bV).2 fun u=> ?_
  rw [List.mem_filter,hq.perm.mem_iff,h.2.1.2.1.mem_iff,dg,dg,decide_eq_true_eq]
  have e:(g.n+(bs.length:Int)).toNat=g.n.toNat+bs.length:=hN
  omega
 ·refine (hq.sort.filter _).imp_of_mem fun {u v} hu hv hR=> ?_
  have hu:=of_decide_eq_true (List.mem_filter.1 hu).2
  have hv:=of_decide_eq_true (List.mem_filter.1 hv).2
  rw [iH h hb hq hu,iH h hb hq hv] at hR
  omega
 ·rw [List.pairwise_iff_getElem]
  intro i j hi hj hij
  have a1:=gh bV hi
  have a2:=gh bV hj
  rw [List.getD_eq_getElem?_getD,List.getElem?_eq_getElem hi,Option.getD_some] at a1
  rw [List.getD_eq_getElem?_getD,List.getElem?_eq_getElem hj,Option.getD_some] at a2
  omega
theorem sF (k:Nat):((q.ord.take k).filter fun u=>decide (u<g.n))=p.ord.take (gj g q k):=by
 have hpre:((q.ord.take k).filter fun u=>decide (u<g.n))<+:(q.ord.filter fun u=>decide (u<g.n)):=(List.take_prefix k q.ord).filter _
 rw [BA h hb hq] at hpre
 exact List.prefix_iff_eq_take.1 hpre
theorem jM {u:Int} (hu:u<g.n) (k:Nat):u∈q.ord.take k↔u∈p.ord.take (gj g q k):=by
 rw [← sF h hb hq k,List.mem_filter]
 simp [hu]
theorem CK (k:Nat):gj g q k≤g.n.toNat:=by
 have h1:((q.ord.take k).filter fun u=>decide (u<g.n)).length=(p.ord.take (gj g q k)).length:=by rw [sF h hb hq k]
 have h2:gj g q k=((q.ord.take k).filter fun u=>decide (u<g.n)).length:=rfl
 have hl:=aQ h.2.1
 rw [List.length_take] at h1
 omega
theorem uX {k:Nat} (hk:k<(aO g bs).n.toNat) (hx:g.n≤aH q k):gj g q (k+1)=gj g q k:=by
 unfold gj
 rw [gL (js h hb hq) hk,List.filter_append]
 simp [show ¬aH q k<g.n by omega]
theorem mB {k:Nat} (hk:k<(aO g bs).n.toNat) (hx:aH q k<g.n):gj g q (k+1)=gj g q k+1∧gj g q k<g.n.toNat∧aH p (gj g q k)=aH q k:=by
 have e1:gj g q (k+1)=gj g q k+1:=by
  unfold gj
  rw [gL (js h hb hq) hk,List.filter_append]
  simp [hx]
 have hc:=CK h hb hq (k+1)
 refine ⟨e1,by omega, ?_⟩
 have e2:=sF h hb hq (k+1)
 rw [gL (js h hb hq) hk,List.filter_append,sF h hb hq k,e1,gL h.2.1 (by omega)] at e2
 have:=List.append_cancel_left e2
 simpa [hx] using this.symm
theorem GC {k:Nat} (hk:k≤(aO g bs).n.toNat) {e:Int} (he:kJ (aO g bs) q k e):kJ g p (gj g q k) (Bz g bs e):=by
 have hm:=an h.1
 have hn:=aE hm
 have tr:=fun (i:Int) (a:0≤i) (b:i<g.es.length)=>show 0≤eR g i∧eR g i<g.n from bu hm (i:=i.toNat) (by omega)
 have hr:=fun (i:Int) (a:0≤i) (b:i<g.es.length)=>show 0≤eH g i∧eH g i<g.n from bQ hm (i:=i.toNat) (by omega)
 have hGn:(aO g bs).n=g.n+bs.length:=rfl
 have nc:=he.low
 have vF:=he.top
 rcases cW h hb hq he.e0 he.e1 with ⟨h3,h4⟩|⟨j,h3,h6,h7,h4,h5⟩
 ·obtain ⟨r1,r2⟩:=di (g:=g) (bs:=bs) he.e0 h3
  rw [h4]
  rw [r1] at nc
  rw [r2] at vF
  refine ⟨he.e0,h3,(jM h hb hq (tr e he.e0 h3).2 k).1 nc,fun hc=> ?_⟩
  have hin:=(jM h hb hq (hr e he.e0 h3).2 k).2 hc
  by_cases pY:e∈bs
  ·rw [if_pos pY] at vF
   obtain ⟨n1,n2,n3,_⟩:=dK hb pY
   refine vF (w5 h hb hq (by omega) (by omega) hk hin (.inl ?_))
   rw [n3,iH h hb hq (hr e he.e0 h3).2]
   exact yw h he.e0 h3
  ·rw [if_neg pY] at vF
   exact vF hin
 ·rw [h7]
  obtain ⟨b0,b1⟩:=hb.qt _ h4
  obtain ⟨n1,n2,n3,_⟩:=dK hb h4
  have yx:=(iF (g:=g) h3).2
  rw [← h6] at yx
  rw [yx] at vF
  rw [h5] at nc
  have Iq:=tr _ b0 b1
  refine ⟨b0,b1,(jM h hb hq Iq.2 k).1 (w5 h hb hq Iq.1 (by have:=Iq.2;omega) hk nc (.inr ⟨?_, ?_⟩)),fun hc=>vF ((jM h hb hq (hr _ b0 b1).2 k).2 hc)⟩
  ·rw [n3];exact iH h hb hq Iq.2
  ·have:=Iq.2;omega
theorem eL {k:Nat} (hk:k<(aO g bs).n.toNat) (hx:aH q k<g.n) {e:Int} (he:kJ (aO g bs) q k e):eH g (Bz g bs e)=aH q k↔eH (aO g bs) e=aH q k:=by
 have hm:=an h.1
 have hn:=aE hm
 have hr:=fun (i:Int) (a:0≤i) (b:i<g.es.length)=>show 0≤eH g i∧eH g i<g.n from bQ hm (i:=i.toNat) (by omega)
 have hGn:(aO g bs).n=g.n+bs.length:=rfl
 rcases cW h hb hq he.e0 he.e1 with ⟨h3,h4⟩|⟨j,h3,h6,h7,h4,h5⟩
 ·obtain ⟨r1,r2⟩:=di (g:=g) (bs:=bs) he.e0 h3
  rw [h4,r2]
  by_cases pY:e∈bs
  ·rw [if_pos pY]
   obtain ⟨n1,n2,n3,_⟩:=dK hb pY
   constructor
   ·intro e2
    have vF:=he.top
    rw [r2,if_pos pY] at vF
    refine absurd (pQ h hb hq (by omega) (by omega) hk (.inl ?_)) vF
    rw [n3,iH h hb hq hx, ← e2]
    exact yw h he.e0 h3
   ·intro e2;omega
  ·rw [if_neg pY]
 ·have yx:=(iF (g:=g) h3).2
  rw [← h6] at yx
  rw [h7,yx]
theorem GD:Gy (aO g bs) q fun k a b=>(uW g p (gj g q k)).idxOf (Bz g bs a)<(uW g p (gj g q k)).idxOf (Bz g bs b):=by
 have hm:=an h.1
 have hn:=aE hm
 have hGn:(aO g bs).n=g.n+bs.length:=rfl
 have rN:=js h hb hq
 have mem:=fun (k:Nat) (hk:k≤(aO g bs).n.toNat) (e:Int) (he:kJ (aO g bs) q k e)=>Ap h (CK h hb hq k) _ (GC h hb hq hk he)
 have only:=fun (k:Nat) (hk:k<(aO g bs).n.toNat) (hx:g.n≤aH q k) (e:Int) (he:kJ (aO g bs) q k e) (hd:eH (aO g bs) e=aH q k)=>show e∈bs∧w4 g bs e=aH q k∧Bz g bs e=e by
  rcases cW h hb hq he.e0 he.e1 with ⟨h3,h4⟩|⟨j,h3,h6,h7,h4,h5⟩
  ·have r2:=(di (g:=g) (bs:=bs) he.e0 h3).2
   rw [hd] at r2
   by_cases pY:e∈bs
   ·rw [if_pos pY] at r2
    exact ⟨pY,r2.symm,h4⟩
   ·rw [if_neg pY] at r2
    have h8:eH g e<g.n:=(bQ hm (i:=e.toNat) (by have:=he.e0;omega)).2
    omega
  ·have yx:=(iF (g:=g) h3).2
   rw [← h6,hd] at yx
   obtain ⟨b0,b1⟩:=hb.qt _ h4
   have h8:eH g (bs.getD j 0)<g.n:=(bQ hm (i:=(bs.getD j 0).toNat) (by omega)).2
   omega
 have same:=fun (k:Nat) (hk:k<(aO g bs).n.toNat) (hx:g.n≤aH q k) (e e':Int) (he:kJ (aO g bs) q k e) (he':kJ (aO g bs) q k e') (hd:eH (aO g bs) e=aH q k) (hd':eH (aO g bs) e'=aH q k)=>show e=e' by
  obtain ⟨a1,a2,_⟩:=only k hk hx e he hd
  obtain ⟨b1,b2,_⟩:=only k hk hx e' he' hd'
  have a3:=(dK hb a1).2.2.2
  have b3:=(dK hb b1).2.2.2
  rw [a2] at a3
  rw [b2] at b3
  rw [← a3,b3]
 have Kl:=fun (k:Nat) (hk:k<(aO g bs).n.toNat) (hx:aH q k<g.n)=>show cq q (aH q k)=cq p (aH q k) from hq.Jc _ (by have:=(bC rN hk).1;omega)
 have Nb:=fun (v e:Int) (h0:0≤v) (h1:v<g.n) (he:e∈cq p v)=>show Bz g bs e=e by
  have:=(bG.1 ((bW h.2.1 h0 h1).mem_iff.1 he)).1.2
  exact if_pos this
 have eo:=fun (k:Nat) (hk:k<(aO g bs).n.toNat) (hx:g.n≤aH q k) (c:Int) (hc:c∈cq q (aH q k))=>show Bz g bs c=bs.getD (aH q k - g.n).toNat 0 by
  obtain ⟨x0,x1⟩:=bC rN hk
  have hj:(aH q k - g.n).toNat<bs.length:=by omega
  have:=hq.GA _ hj
  have e:cq q (aH q k)= [((g.es.length+(aH q k - g.n).toNat:Nat):Int)]:=by
   rw [← this];unfold cq;congr 1;omega
  rw [e,List.mem_singleton] at hc
  subst hc
  unfold Bz
  rw [if_neg (by omega)]
  congr 1;omega
 refine ⟨fun e e0 e1 k hk ek=> ?_,fun k hk a b c ha hb' hc ea ec r1 r2=> ?_,fun k hk a b ha hb' na nb r=> ?_,fun k hk a b c ha hb' na eb hc r=> ?_,fun k hk a b c ha hb' na eb hc r=> ?_,fun k hk=> ?_⟩
 ·have tR:=Jd h hb hq e0 e1
  rw [← ek] at tR
  have wT:0≤eR (aO g bs) e∧eR (aO g bs) e<(aO g bs).n:=by
   rcases cW h hb hq e0 e1 with ⟨h3,h4⟩|⟨j,h3,h6,h7,h4,h5⟩
   ·rw [(di (g:=g) (bs:=bs) e0 h3).1]
    have h8:0≤eR g e∧eR g e<g.n:=bu hm (i:=e.toNat) (by omega)
    omega
   ·obtain ⟨n1,n2,_⟩:=dK hb h4
    omega
  exact pQ h hb hq wT.1 wT.2 hk tR
 ·by_cases hx:aH q k<g.n
  ·obtain ⟨c1,c2,c3⟩:=mB h hb hq hk hx
   obtain ⟨A,X,C,e1,hA,hX,hC,_⟩:=iX h c2
   have bV:=jL h (c:=gj g q k) (by omega)
   have ma:=mem k (by omega) a ha
   have mb:=mem k (by omega) b hb'
   have mc:=mem k (by omega) c hc
   have da:=(eL h hb hq hk hx ha).2 ea
   have dc:=(eL h hb hq hk hx hc).2 ec
   refine (eL h hb hq hk hx hb').1 ?_
   rw [c3] at hA hX hC
   rw [e1] at ma mb mc r1 r2 bV
   have OO:Bz g bs a∈X:=by
    rcases List.mem_append.1 ma with h1|h1
    ·rcases List.mem_append.1 h1 with h1|h1
     ·exact absurd da (hA _ h1)
     ·exact h1
    ·exact absurd da (hC _ h1)
   have Cm:Bz g bs c∈X:=by
    rcases List.mem_append.1 mc with h1|h1
    ·rcases List.mem_append.1 h1 with h1|h1
     ·exact absurd dc (hA _ h1)
     ·exact h1
    ·exact absurd dc (hC _ h1)
   rw [List.append_assoc] at r1 r2 mb bV
   have Sh:(X++C).Nodup:=(List.nodup_append.1 bV).2.1
   obtain ⟨i1,_⟩:=iG (A:=A) (B:=X++C) bV (List.mem_append_left C OO)
   obtain ⟨i2,_⟩:=iG (A:=A) (B:=X++C) bV (List.mem_append_left C Cm)
   obtain ⟨i3,i4⟩:=rM (A:=X) (B:=C) Cm
   rcases List.mem_append.1 mb with h1|h1
   ·obtain ⟨i5,i6⟩:=rM (A:=A) (B:=X++C) h1
    omega
   ·rcases List.mem_append.1 h1 with h2|h2
    ·exact hX _ h2
    ·obtain ⟨i5,_⟩:=iG (A:=A) (B:=X++C) bV h1
     obtain ⟨i7,_⟩:=iG (A:=X) (B:=C) Sh h2
     omega
  ·have:=same k hk (by omega) a c ha hc ea ec
   subst this
   omega
 ·by_cases hx:aH q k<g.n
  ·obtain ⟨c1,c2,c3⟩:=mB h hb hq hk hx
   obtain ⟨A,X,C,e1,hA,hX,hC,e2⟩:=iX h c2
   have bV:=jL h (c:=gj g q k) (by omega)
   have fP:=jL h (c:=gj g q k+1) (by omega)
   have ma:=mem k (by omega) a ha
   have mb:=mem k (by omega) b hb'
   have da:=fun e=>na ((eL h hb hq hk hx ha).1 e)
   have db:=fun e=>nb ((eL h hb hq hk hx hb').1 e)
   rw [c1,e2]
   rw [c3] at hA hX hC
   rw [e2] at fP
   rw [e1] at ma mb r bV
   rw [List.append_assoc] at r ma mb bV fP ⊢
   have Nc:(X++C).Nodup:=(List.nodup_append.1 bV).2.1
   have KK:=(List.nodup_append.1 fP).2.1
   have sp:∀u,u∈A++(X++C)→eH g u≠aH q k→u∈A∨u∈C:=fun u hu hne=>by
    rcases List.mem_append.1 hu with h1|h1
    ·exact .inl h1
    ·rcases List.mem_append.1 h1 with h2|h2
     ·exact absurd (hX _ h2) hne
     ·exact .inr h2
   rcases sp _ ma da with h1|h1<;>rcases sp _ mb db with h2|h2
   ·rw [(rM h1).1,(rM h2).1] at r ⊢
    exact r
   ·have i1:=rM (B:=cq p (aH p (gj g q k))++C) h1
    have i2:=iG fP (List.mem_append_right _ h2)
    omega
   ·have i1:=rM (B:=X++C) h2
    have i2:=iG bV (List.mem_append_right X h1)
    omega
   ·have i1:=iG bV (List.mem_append_right X h1)
    have i2:=iG bV (List.mem_append_right X h2)
    have i3:=iG Nc h1
    have i4:=iG Nc h2
    have j1:=iG fP (List.mem_append_right (cq p (aH p (gj g q k))) h1)
    have j2:=iG fP (List.mem_append_right (cq p (aH p (gj g q k))) h2)
    have j3:=iG KK h1
    have j4:=iG KK h2
    omega
  ·rw [uX h hb hq hk (by omega)];exact r
 ·by_cases hx:aH q k<g.n
  ·obtain ⟨c1,c2,c3⟩:=mB h hb hq hk hx
   obtain ⟨A,X,C,e1,hA,hX,hC,e2⟩:=iX h c2
   have bV:=jL h (c:=gj g q k) (by omega)
   have fP:=jL h (c:=gj g q k+1) (by omega)
   have ma:=mem k (by omega) a ha
   have mb:=mem k (by omega) b hb'
   have da:=fun e=>na ((eL h hb hq hk hx ha).1 e)
   have db:=(eL h hb hq hk hx hb').2 eb
   rw [Kl k hk hx] at hc
   rw [Nb _ c (bC rN hk).1 hx hc]
   rw [c1,e2]
   rw [c3] at hA hX hC ⊢
   rw [e2] at fP
   rw [e1] at ma mb r bV
   rw [List.append_assoc] at r ma mb bV fP ⊢
   rw [c3] at fP
   have Nc:(X++C).Nodup:=(List.nodup_append.1 bV).2.1
   have hb2:Bz g bs b∈X:=by
    rcases List.mem_append.1 mb with h1|h1
    ·exact absurd db (hA _ h1)
    ·rcases List.mem_append.1 h1 with h1|h1
     ·exact h1
     ·exact absurd db (hC _ h1)
   have i2:=iG bV (List.mem_append_left C hb2)
   have i3:=rM (B:=C) hb2
   have j2:=iG fP (List.mem_append_left C hc)
   rcases List.mem_append.1 ma with h1|h1
   ·have j1:=rM (B:=cq p (aH q k)++C) h1
    omega
   ·rcases List.mem_append.1 h1 with h2|h2
    ·exact absurd (hX _ h2) da
    ·have i1:=iG bV h1
     have i4:=iG Nc h2
     omega
  ·have hx:g.n≤aH q k:=by omega
   obtain ⟨a1,a2,a3⟩:=only k hk hx b hb' eb
   have a4:=(dK hb a1).2.2.2
   rw [a2] at a4
   rw [uX h hb hq hk hx,eo k hk hx c hc,a4, ← a3]
   exact r
 ·by_cases hx:aH q k<g.n
  ·obtain ⟨c1,c2,c3⟩:=mB h hb hq hk hx
   obtain ⟨A,X,C,e1,hA,hX,hC,e2⟩:=iX h c2
   have bV:=jL h (c:=gj g q k) (by omega)
   have fP:=jL h (c:=gj g q k+1) (by omega)
   have ma:=mem k (by omega) a ha
   have mb:=mem k (by omega) b hb'
   have da:=fun e=>na ((eL h hb hq hk hx ha).1 e)
   have db:=(eL h hb hq hk hx hb').2 eb
   rw [Kl k hk hx] at hc
   rw [Nb _ c (bC rN hk).1 hx hc]
   rw [c1,e2]
   rw [c3] at hA hX hC ⊢
   rw [e2] at fP
   rw [e1] at ma mb r bV
   rw [List.append_assoc] at r ma mb bV fP ⊢
   rw [c3] at fP
   have KK:=(List.nodup_append.1 fP).2.1
   have hb2:Bz g bs b∈X:=by
    rcases List.mem_append.1 mb with h1|h1
    ·exact absurd db (hA _ h1)
    ·rcases List.mem_append.1 h1 with h1|h1
     ·exact h1
     ·exact absurd db (hC _ h1)
   have i2:=iG bV (List.mem_append_left C hb2)
   have j2:=iG fP (List.mem_append_left C hc)
   have j3:=rM (B:=C) hc
   rcases List.mem_append.1 ma with h1|h1
   ·have i1:=rM (B:=X++C) h1
    omega
   ·rcases List.mem_append.1 h1 with h2|h2
    ·exact absurd (hX _ h2) da
    ·have j1:=iG fP (List.mem_append_right (cq p (aH q k)) h2)
     have j4:=iG KK h2
     omega
  ·have hx:g.n≤aH q k:=by omega
   obtain ⟨a1,a2,a3⟩:=only k hk hx b hb' eb
   have a4:=(dK hb a1).2.2.2
   rw [a2] at a4
   rw [uX h hb hq hk hx,eo k hk hx c hc,a4, ← a3]
   exact r
 ·by_cases hx:aH q k<g.n
  ·obtain ⟨c1,c2,c3⟩:=mB h hb hq hk hx
   obtain ⟨A,X,C,_,_,_,_,e2⟩:=iX h c2
   have fP:=jL h (c:=gj g q k+1) (by omega)
   rw [Kl k hk hx,c1,e2]
   rw [e2,List.append_assoc] at fP
   rw [List.append_assoc]
   rw [c3] at fP ⊢
   have KK:=(List.nodup_append.1 fP).2.1
   have Qj:=(List.nodup_append.1 KK).1
   rw [List.pairwise_iff_getElem]
   intro i j hi hj hij
   have m1:(cq p (aH q k))[i]∈cq p (aH q k):=List.getElem_mem hi
   have m2:(cq p (aH q k))[j]∈cq p (aH q k):=List.getElem_mem hj
   rw [Nb _ _ (bC rN hk).1 hx m1,Nb _ _ (bC rN hk).1 hx m2]
   have j1:=iG fP (List.mem_append_left C m1)
   have j2:=iG fP (List.mem_append_left C m2)
   have j3:=rM (B:=C) m1
   have j4:=rM (B:=C) m2
   have a1:=gh Qj hi
   have a2:=gh Qj hj
   rw [List.getD_eq_getElem?_getD,List.getElem?_eq_getElem hi,Option.getD_some] at a1
   rw [List.getD_eq_getElem?_getD,List.getElem?_eq_getElem hj,Option.getD_some] at a2
   omega
  ·have hx:g.n≤aH q k:=by omega
   obtain ⟨x0,x1⟩:=bC rN hk
   have hj:(aH q k - g.n).toNat<bs.length:=by omega
   have:=hq.GA _ hj
   have e:cq q (aH q k)= [((g.es.length+(aH q k - g.n).toNat:Nat):Int)]:=by
    rw [← this];unfold cq;congr 1;omega
   rw [e]
   exact List.pairwise_singleton ..
theorem GF (hG:(bE (aO g bs)).1=0):bn (aO g bs) q:=DZ hG (js h hb hq) (GD h hb hq)
end
end Go.Ab
end
section
namespace Go.Ab
open Go.Proofs
set_option maxRecDepth 10000
set_option linter.unusedSectionVars false
theorem Ir {G:Gr} (hm:aM G=true) (φ:Int→Nat) (up:∀i,i<G.es.length→φ (tl G i)<φ (hd G i)) (tw:∀i k,i<G.es.length→k<G.es.length→i≠k→G.es.getD i (0,0)≠G.es.getD k (0,0)) (s:Int)
 (src:∀y,0≤y→y<G.n→(∀i,i<G.es.length→hd G i≠y)→y=s):(bE G).1=0:=by
 have Gu:Co G=true:=(sy hm).2 ⟨φ,up⟩
 have Gv:¬0≤ji G:=fun hl=>by
  have h1:=fC (fun e:Edge=>decide (e.1=e.2)) G.es
  have h0:decide (0≤bU (fun e:Edge=>decide (e.1=e.2)) G.es)=true:=decide_eq_true hl
  rw [h0] at h1
  obtain ⟨e,he,h2⟩:=List.any_eq_true.1 h1.symm
  obtain ⟨i,hi,rfl⟩:=List.mem_iff_getElem.1 he
  have h3:tl G i=hd G i:=by simpa [tl,hd,List.getD_eq_getElem?_getD,List.getElem?_eq_getElem hi] using h2
  have:=up i hi
  rw [h3] at this
  omega
 have FW:¬0≤dR G:=fun ht=>by
  obtain ⟨i,k,hi,hk,hik,e⟩:=(iU _).1 ht
  exact tw i k hi hk hik e
 have Gw:¬1<(bI (·.2) G).length:=fun hb=>by
  have hs:∀y∈bI (·.2) G,y=s:=fun y hy=>by
   obtain ⟨⟨y0,y1⟩,y2⟩:=mV.1 hy
   refine src y y0 y1 fun i hi e=> ?_
   have:=mU (g:=G) (e:=(i:Int)) (by omega) (by omega)
   rw [Int.toNat_natCast,show (G.es.getD i (0,0)).2=y from e] at this
   omega
  have:=yp ej hs
  omega
 unfold bE fJ
 rw [if_neg (by simp [hm]),if_neg Gv,if_neg FW,if_neg (by rw [ym hm Gu];simp),if_neg Gw]
theorem BB {g:Gr} (h:(bE g).1=0) {i k:Nat} (hi:i<g.es.length) (hk:k<g.es.length) (e:g.es.getD i (0,0)=g.es.getD k (0,0)):i=k:=by
 refine Decidable.byContradiction fun hik=> ?_
 have hgt:¬0≤dR g:=by
  unfold bE fJ at h
  intro h2
  split at h
  ·cases h
  split at h
  ·cases h
  cases h
 exact hgt ((iU g).2 ⟨i,k,hi,hk,hik,e⟩)
section
variable {g:Gr} {p:Pl} {bs:List Int} {q:Pl} (h:bn g p) (hb:Aq g bs) (hq:Gz g p bs q) (hs1:g.n+bs.length≤64) (C2:g.es.length+bs.length≤128)
include h hb hq hs1 C2
theorem Is:aM (aO g bs)=true:=by
 have hm:=an h.1
 have hn:=aE hm
 have hGn:(aO g bs).n=g.n+bs.length:=rfl
 simp only [aM,Bool.and_eq_true,decide_eq_true_eq,Bool.not_eq_true',List.any_eq_false]
 refine ⟨⟨⟨by omega,by omega⟩,by rw [gi];omega⟩,fun e he=> ?_⟩
 simp only [nP,tM,Bool.or_eq_true,decide_eq_true_eq,not_or]
 obtain ⟨i,hi,rfl⟩:=List.mem_iff_getElem.1 he
 have e0:(aO g bs).es.getD i (0,0)=(aO g bs).es[i]:=by rw [List.getD_eq_getElem?_getD,List.getElem?_eq_getElem hi];rfl
 have et:((aO g bs).es[i]).1=eR (aO g bs) (i:Int):=by unfold eR;rw [Int.toNat_natCast,e0]
 have eh:((aO g bs).es[i]).2=eH (aO g bs) (i:Int):=by unfold eH;rw [Int.toNat_natCast,e0]
 rw [et,eh]
 rcases cW h hb hq (e:=(i:Int)) (by omega) (by omega) with ⟨h3,h4⟩|⟨j,h3,h6,h7,h4,h5⟩
 ·obtain ⟨r1,r2⟩:=di (g:=g) (bs:=bs) (e:=(i:Int)) (by omega) h3
  have t0:0≤eR g i∧eR g i<g.n:=bu hm (i:=i) (by omega)
  have d0:0≤eH g i∧eH g i<g.n:=bQ hm (i:=i) (by omega)
  rw [r1,r2]
  by_cases pY:(i:Int)∈bs
  ·rw [if_pos pY]
   obtain ⟨n1,n2,_⟩:=dK hb pY
   omega
  ·rw [if_neg pY];omega
 ·obtain ⟨b0,b1⟩:=hb.qt _ h4
  obtain ⟨n1,n2,_⟩:=dK hb h4
  have d0:0≤eH g (bs.getD j 0)∧eH g (bs.getD j 0)<g.n:=bQ hm (i:=(bs.getD j 0).toNat) (by omega)
  have yx:=(iF (g:=g) h3).2
  rw [← h6] at yx
  rw [h5,yx]
  omega
theorem Km {i k:Int} (KC:0≤i) (hi1:i<(aO g bs).es.length) (AJ:0≤k) (yK:k<(aO g bs).es.length) (e1:eR (aO g bs) i=eR (aO g bs) k) (e2:eH (aO g bs) i=eH (aO g bs) k):i=k:=by
 have hm:=an h.1
 have tr:=fun (i:Int) (a:0≤i) (b:i<g.es.length)=>show 0≤eR g i∧eR g i<g.n from bu hm (i:=i.toNat) (by omega)
 have hr:=fun (i:Int) (a:0≤i) (b:i<g.es.length)=>show 0≤eH g i∧eH g i<g.n from bQ hm (i:=i.toNat) (by omega)
 rcases cW h hb hq KC hi1 with ⟨h3,h4⟩|⟨j,h3,h6,h7,h4,h5⟩
 ·obtain ⟨r1,r2⟩:=di (g:=g) (bs:=bs) KC h3
  have t0:=tr i KC h3
  rcases cW h hb hq AJ yK with ⟨g3,g4⟩|⟨j',g3,g6,g7,g4,g5⟩
  ·obtain ⟨s1,s2⟩:=di (g:=g) (bs:=bs) AJ g3
   rw [r1,s1] at e1
   rw [r2,s2] at e2
   by_cases KL:i∈bs
   ·by_cases c9:k∈bs
    ·rw [if_pos KL,if_pos c9] at e2
     have a1:=(dK hb KL).2.2.2
     have a2:=(dK hb c9).2.2.2
     rw [e2] at a1
     rw [← a1,a2]
    ·rw [if_pos KL,if_neg c9] at e2
     have:=(dK hb KL).1
     have:=hr k AJ g3
     omega
   ·by_cases c9:k∈bs
    ·rw [if_neg KL,if_pos c9] at e2
     have:=(dK hb c9).1
     have:=hr i KC h3
     omega
    ·rw [if_neg KL,if_neg c9] at e2
     have:=BB h.1 (i:=i.toNat) (k:=k.toNat) (by omega) (by omega) (Prod.ext e1 e2)
     omega
  ·have:=(dK hb g4).1
   omega
 ·rcases cW h hb hq AJ yK with ⟨g3,g4⟩|⟨j',g3,g6,g7,g4,g5⟩
  ·have:=(dK hb h4).1
   have:=(di (g:=g) (bs:=bs) AJ g3).1
   have:=tr k AJ g3
   omega
  ·rw [h5,g5] at e1
   have a1:=gh hb.nd h3
   have a2:=gh hb.nd g3
   unfold w4 at e1
   have:j=j':=by omega
   rw [h6,g6,this]
theorem Ar:(bE (aO g bs)).1=0:=by
 have hm:=an h.1
 have hn:=aE hm
 have wT:=Is h hb hq hs1 C2
 have hGn:(aO g bs).n=g.n+bs.length:=rfl
 have rN:=js h hb hq
 have Mx:=cP rN
 have BZ:=aQ rN
 refine Ir wT (fun v=>q.ord.idxOf v) (fun i hi=> ?_) (fun i k hi hk hik e=>hik ?_) (aH p 0) (fun y y0 y1 hy=> ?_)
 ·have hR:=Jd h hb hq (e:=(i:Int)) (by omega) (by omega)
  have e1:eR (aO g bs) (i:Int)=tl (aO g bs) i:=rfl
  have e2:eH (aO g bs) (i:Int)=hd (aO g bs) i:=rfl
  rw [e1,e2] at hR
  obtain ⟨t0,t1⟩:=bu wT hi
  obtain ⟨d0,d1⟩:=bQ wT hi
  obtain ⟨k,hk,ek⟩:=gN rN d0 d1
  rw [← ek] at hR
  obtain ⟨j,j1,j2,j3⟩:=kK (pQ h hb hq t0 t1 hk hR)
  have a1:q.ord.idxOf (tl (aO g bs) i)=j:=by rw [← j3];exact gh Mx j2
  have a2:q.ord.idxOf (hd (aO g bs) i)=k:=by rw [← ek];exact gh Mx (by omega)
  omega
 ·have e1:eR (aO g bs) (i:Int)=eR (aO g bs) (k:Int):=by unfold eR;simp only [Int.toNat_natCast];rw [e]
  have e2:eH (aO g bs) (i:Int)=eH (aO g bs) (k:Int):=by unfold eH;simp only [Int.toNat_natCast];rw [e]
  have:=Km h hb hq hs1 C2 (i:=(i:Int)) (k:=(k:Int)) (by omega) (by omega) (by omega) (by omega) e1 e2
  omega
 ·have J2:y<g.n:=by
   refine Decidable.byContradiction fun J2=> ?_
   have hj:(y - g.n).toNat<bs.length:=by omega
   have hin:bs.getD (y - g.n).toNat 0∈bs:=aG hj
   obtain ⟨b0,b1⟩:=hb.qt _ hin
   have r2:=(di (g:=g) (bs:=bs) b0 b1).2
   rw [if_pos hin] at r2
   unfold w4 at r2
   rw [gh hb.nd hj] at r2
   refine hy (bs.getD (y - g.n).toNat 0).toNat (by rw [gi];omega) ?_
   have:hd (aO g bs) (bs.getD (y - g.n).toNat 0).toNat=eH (aO g bs) (bs.getD (y - g.n).toNat 0):=rfl
   rw [this,r2];omega
  have h0:=bC h.2.1 (k:=0) (by omega)
  have hz:aW g y=0:=by
   refine Decidable.byContradiction fun hnz=> ?_
   obtain ⟨e,he⟩:∃e,e∈aK (·.2) g.es g.es.length y:=by
    cases hc:aK (·.2) g.es g.es.length y with
    |nil=>exact absurd (by unfold aW;rw [hc];rfl) hnz
    |cons e l=>exact ⟨e,by simp⟩
   obtain ⟨⟨e0,e1⟩,e2⟩:=bG.1 he
   have e2:eH g e=y:=e2
   have r2:=(di (g:=g) (bs:=bs) e0 e1).2
   by_cases pY:e∈bs
   ·obtain ⟨i1,i2⟩:=uV pY
    have yx:=(iF (g:=g) i1).2
    rw [i2,e2] at yx
    exact hy (g.es.length+bs.idxOf e) (by rw [gi];omega) yx
   ·rw [if_neg pY,e2] at r2
    exact hy e.toNat (by rw [gi];omega) r2
  refine lB h.1 ⟨y0,J2⟩ h0 hz ?_
  refine Decidable.byContradiction fun hnz=> ?_
  obtain ⟨A,X,C,hrw,_,_,hX,_⟩:=cg hm (pF g).tofY (h.2.2 0 (by omega)) hnz
  obtain ⟨q,X0,e1,_⟩:=hX.fst
  rw [e1] at hrw
  simp at hrw
theorem CL:bn (aO g bs) q:=GF h hb hq (Ar h hb hq hs1 C2)
theorem Kn (hI:ni g=true):ni (aO g bs)=true:=by
 have hm:=an h.1
 have hn:=aE hm
 have hGn:(aO g bs).n=g.n+bs.length:=rfl
 have hN:=GB h hb hq
 have rN:=js h hb hq
 unfold ni at hI ⊢
 rw [Bool.and_eq_true,decide_eq_true_eq,decide_eq_true_eq] at hI
 rw [decide_eq_true (Ar h hb hq hs1 C2),Bool.true_and,decide_eq_true_eq]
 have key:∀y,y∈bI (·.1) (aO g bs)↔y∈bI (·.1) g:=fun y=>by
  rw [iW,iW]
  constructor
  ·rintro ⟨⟨y0,y1⟩,y2⟩
   by_cases J2:y<g.n
   ·refine ⟨⟨y0,J2⟩,List.eq_nil_iff_forall_not_mem.2 fun e he=> ?_⟩
    obtain ⟨⟨e0,e1⟩,e2⟩:=bG.1 he
    have:e∈aK (·.1) (aO g bs).es (aO g bs).es.length y:=bG.2 ⟨⟨e0,by rw [gi];omega⟩,((di (g:=g) (bs:=bs) e0 e1).1.trans e2)⟩
    rw [y2] at this;cases this
   ·exfalso
    have hj:(y - g.n).toNat<bs.length:=by omega
    have M9:=(iF (g:=g) hj).1
    have:((g.es.length+(y - g.n).toNat:Nat):Int)∈aK (·.1) (aO g bs).es (aO g bs).es.length y:=bG.2 ⟨⟨by omega,by rw [gi];omega⟩,by have:eR (aO g bs) ((g.es.length+(y - g.n).toNat:Nat):Int)=y:=by {rw [M9];omega};exact this⟩
    rw [y2] at this;cases this
  ·rintro ⟨⟨y0,y1⟩,y2⟩
   refine ⟨⟨y0,by omega⟩,List.eq_nil_iff_forall_not_mem.2 fun e he=> ?_⟩
   obtain ⟨⟨e0,e1⟩,e2⟩:=bG.1 he
   have e2:eR (aO g bs) e=y:=e2
   rcases cW h hb hq e0 e1 with ⟨h3,h4⟩|⟨j,h3,h6,h7,h4,h5⟩
   ·have:e∈aK (·.1) g.es g.es.length y:=bG.2 ⟨⟨e0,h3⟩,((di (g:=g) (bs:=bs) e0 h3).1.symm.trans e2)⟩
    rw [y2] at this;cases this
   ·have:=(dK hb h4).1
    omega
 have hp:(bI (·.1) (aO g bs)).Perm (bI (·.1) g):=(List.perm_ext_iff_of_nodup ej ej).2 key
 rw [hp.length_eq]
 exact hI.2
end
end Go.Ab
end
section
namespace Go.Ab
open Go.Proofs
set_option maxRecDepth 10000
set_option linter.unusedSectionVars false
def jz (g:Gr) (bs:List Int) (k:Nat) (v:Int):List Int:=((List.range k).filter fun j=>eR g (bs.getD j 0)=v).map fun j:Nat=>g.n+(j:Int)
def dm (g:Gr) (bs:List Int) (k:Nat) (ord:List Int):List Int:=ord.flatMap fun v=>v::jz g bs k v
def eo (g:Gr) (k:Nat):List (List Int):=(List.range k).map fun j:Nat=> [((g.es.length+j:Nat):Int)]
def oo (g:Gr) (p:Pl) (bs:List Int):Pl:=⟨dm g bs bs.length p.ord,p.outs++eo g bs.length⟩
theorem uY {g:Gr} {bs:List Int} {k:Nat} (v:Int):jz g bs (k+1) v=jz g bs k v++if eR g (bs.getD k 0)=v then [g.n+(k:Int)] else []:=by
 unfold jz
 rw [List.range_succ,List.filter_append,List.map_append]
 congr 1
 by_cases h:eR g (bs.getD k 0)=v
 ·rw [if_pos h,List.filter_cons,if_pos (decide_eq_true h)];rfl
 ·rw [if_neg h,List.filter_cons,if_neg (by rw [decide_eq_false h];decide)];rfl
theorem gO {g:Gr} {bs:List Int} {k:Nat} {v u:Int} :u∈jz g bs k v↔∃j:Nat,j<k∧eR g (bs.getD j 0)=v∧u=g.n+(j:Int):=by
 simp only [jz,List.mem_map,List.mem_filter,List.mem_range,decide_eq_true_eq]
 constructor
 ·rintro ⟨j,⟨h1,h2⟩,rfl⟩;exact ⟨j,h1,h2,rfl⟩
 ·rintro ⟨j,h1,h2,rfl⟩;exact ⟨j,⟨h1,h2⟩,rfl⟩
theorem uZ {g:Gr} {bs:List Int} {k:Nat} {a b:List Int} :dm g bs k (a++b)=dm g bs k a++dm g bs k b:=by simp [dm]
theorem gM {g:Gr} {bs:List Int} {k:Nat} {v:Int} {b:List Int} :dm g bs k (v::b)=v::(jz g bs k v++dm g bs k b):=by simp [dm]
theorem w6 {g:Gr} {bs:List Int} {a:List Int} :dm g bs 0 a=a:=by
 induction a with
 |nil=>rfl
 |cons v a ih=>rw [gM,ih];rfl
theorem u5 {g:Gr} {bs:List Int} {k:Nat} {a:List Int} (h:eR g (bs.getD k 0)∉a):dm g bs (k+1) a=dm g bs k a:=by
 induction a with
 |nil=>rfl
 |cons v a ih=>
  rw [gM,gM,ih fun e=>h (List.mem_cons.2 (.inr e)),uY,if_neg fun e=>h (List.mem_cons.2 (.inl e)),List.append_nil]
theorem As {g:Gr} {bs:List Int} {k:Nat} {a:List Int} {u:Int} :u∈dm g bs k a↔∃v∈a,u=v∨u∈jz g bs k v:=by simp [dm]
theorem w8 {g:Gr} {bs:List Int} {k:Nat} {ord:List Int} (bV:ord.Nodup) (hr:∀u∈ord,u<g.n) (ht:eR g (bs.getD k 0)∈ord):
 ∃A B,dm g bs k ord=A++eR g (bs.getD k 0)::(jz g bs k (eR g (bs.getD k 0))++B)∧dm g bs (k+1) ord=A++eR g (bs.getD k 0)::(jz g bs k (eR g (bs.getD k 0))++(g.n+(k:Int))::B)∧eR g (bs.getD k 0)∉A∧∀u r,B=u::r→u<g.n:=by
 obtain ⟨o1,o2,e⟩:=List.append_of_mem ht
 have fP:=bV
 rw [e,List.nodup_append] at fP
 obtain ⟨_,n2,n3⟩:=fP
 obtain ⟨n4,_⟩:=List.nodup_cons.1 n2
 have n5:eR g (bs.getD k 0)∉o1:=fun h=>n3 _ h _ (by simp) rfl
 refine ⟨dm g bs k o1,dm g bs k o2, ?_, ?_,fun h=> ?_,fun u r hB=> ?_⟩
 ·rw [congrArg (dm g bs k) e,uZ,gM]
 ·rw [congrArg (dm g bs (k+1)) e,uZ,gM,u5 n5,u5 n4,uY,if_pos rfl];simp
 ·obtain ⟨v,hv,h1|h1⟩:=As.1 h
  ·exact n5 (h1 ▸ hv)
  ·obtain ⟨j,_,_,h2⟩:=gO.1 h1
   have:=hr _ ht
   omega
 ·cases o2 with
  |nil=>simp [dm] at hB
  |cons w o2=>
   rw [gM] at hB
   cases hB
   exact hr _ (by rw [e];simp)
theorem u6 {bs:List Int} {k j:Nat} (h:j<k):(bs.take k).getD j 0=bs.getD j 0:=by
 rw [List.getD_eq_getElem?_getD,List.getD_eq_getElem?_getD,List.getElem?_take_of_lt h]
theorem sG {bs:List Int} {k:Nat} (h:k<bs.length):bs.take (k+1)=bs.take k++ [bs.getD k 0]:=by
 rw [List.take_add_one,List.getElem?_eq_getElem h,List.getD_eq_getElem?_getD,List.getElem?_eq_getElem h];rfl
theorem w9 {g:Gr} {bs:List Int} (hb:Aq g bs) {k:Nat} (hk:k<bs.length) {i:Nat} (hi:bs.getD k 0=i):
 i<g.es.length∧(fR g (bs.take k)).getD i (0,0)=(tl g i,hd g i)∧fR g (bs.take (k+1))=(fR g (bs.take k)++ [(g.n+(k:Int),hd g i)]).set i (tl g i,g.n+(k:Int)):=by
 have hil:i<g.es.length:=by have:=hb.qt _ (aG (d:=0) hk);omega
 have hlt:(bs.take k).length=k:=by simp;omega
 have D4:(bs.take (k+1)).length=k+1:=by simp;omega
 have hni:(i:Int)∉bs.take k:=fun hm=>by
  have bV:=hb.nd
  rw [← List.take_append_drop (k+1) bs,sG hk,hi] at bV
  have:=(List.nodup_append.1 (List.nodup_append.1 bV).1).2.2 _ hm _ (List.mem_singleton.2 rfl)
  exact this rfl
 refine ⟨hil, ?_, ?_⟩
 ·unfold fR
  rw [List.getD_eq_getElem?_getD,List.getElem?_append_left (by simpa using hil),List.getElem?_map,List.getElem?_range hil,Option.map_some,Option.getD_some,if_neg hni]
 ·unfold fR
  rw [hlt,D4,List.append_assoc,List.set_append_left _ _ (by simpa using hil),List.range_succ (n:=k),List.map_append,List.map_cons,List.map_nil]
  have yx:eH g ((bs.take (k+1)).getD k 0)=hd g i:=by rw [u6 (by omega),hi];rfl
  rw [yx]
  congr 1
  ·refine List.ext_getElem? fun j=> ?_
   rw [List.getElem?_set]
   by_cases hj:j<g.es.length
   ·rw [List.getElem?_map,List.getElem?_range hj,List.getElem?_map,List.getElem?_range hj]
    simp only [Option.map_some,List.length_map,List.length_range]
    by_cases e:i=j
    ·subst e
     have hin:(i:Int)∈bs.take (k+1):=by rw [sG hk,hi];simp
     rw [if_pos rfl,if_pos hj,if_pos hin]
     unfold w4
     rw [sG hk,hi,yu,if_neg hni,hlt]
     simp
    ·rw [if_neg e,sG hk,hi]
     by_cases hm:(j:Int)∈bs.take k
     ·rw [if_pos hm,if_pos (by simp [hm])]
      unfold w4
      rw [yu,if_pos hm]
     ·rw [if_neg hm,if_neg (by simp [hm];omega)]
   ·rw [if_neg (by omega),List.getElem?_eq_none (by simpa using hj),List.getElem?_eq_none (by simpa using hj)]
  ·congr 1
   refine List.map_congr_left fun j hj=> ?_
   rw [List.mem_range] at hj
   rw [u6 hj,u6 (by omega)]
theorem xb {g:Gr} :fR g []=g.es:=by
 unfold fR
 simp only [List.length_nil,List.range_zero,List.map_nil,List.append_nil,List.not_mem_nil,if_false]
 refine List.ext_getElem? fun j=> ?_
 by_cases hj:j<g.es.length
 ·rw [List.getElem?_map,List.getElem?_range hj,Option.map_some,List.getElem?_eq_getElem hj]
  simp only [tl,hd,List.getD_eq_getElem?_getD,List.getElem?_eq_getElem hj,Option.getD_some]
 ·rw [List.getElem?_eq_none (by simpa using hj),List.getElem?_eq_none (by omega)]
section
variable {g:Gr} {p:Pl} {bs:List Int} (h:bn g p) (hb:Aq g bs)
include h hb
theorem Iu:(dm g bs bs.length p.ord).Nodup∧∀u,u∈dm g bs bs.length p.ord↔0≤u∧u<g.n+bs.length:=by
 have hm:=an h.1
 have hn:=aE hm
 have bV:=cP h.2.1
 have hr:∀u∈p.ord,0≤u∧u<g.n:=fun u hu=>by
  have:=h.2.1.2.1.mem_iff.1 hu
  simp only [ee,List.mem_map,List.mem_range] at this
  obtain ⟨k,hk,e⟩:=this
  have e:(k:Int)=u:=e
  omega
 have hown:∀v,(jz g bs bs.length v).Nodup:=fun v=>by
  unfold jz
  refine List.Pairwise.map _ (fun a b hab=> ?_) ((List.nodup_range).filter _)
  intro e;apply hab;omega
 constructor
 ·unfold dm
  rw [List.Nodup,List.pairwise_flatMap]
  refine ⟨fun v hv=>List.nodup_cons.2 ⟨fun hh=> ?_,hown v⟩, ?_⟩
  ·obtain ⟨j,_,_,e⟩:=gO.1 hh
   have:=(hr v hv).2
   omega
  ·refine List.Pairwise.imp_of_mem (fun {a b} ha hb' hne=> ?_) bV
   intro u hu u' vk Si
   subst Si
   rcases List.mem_cons.1 hu with rfl|hu
   ·rcases List.mem_cons.1 vk with rfl|vk
    ·exact hne rfl
    ·obtain ⟨j,_,_,e⟩:=gO.1 vk
     have:=(hr u ha).2
     omega
   ·obtain ⟨j,_,j2,e⟩:=gO.1 hu
    rcases List.mem_cons.1 vk with rfl|vk
    ·have:=(hr u hb').2
     omega
    ·obtain ⟨l,_,l2,e'⟩:=gO.1 vk
     obtain rfl:j=l:=by omega
     exact hne (j2.symm.trans l2)
 ·intro u
  rw [As]
  constructor
  ·rintro ⟨v,hv,rfl|hu⟩
   ·have:=hr u hv;omega
   ·obtain ⟨j,j1,_,e⟩:=gO.1 hu
    omega
  ·rintro ⟨h0,h1⟩
   by_cases hlt:u<g.n
   ·obtain ⟨l,hl,e⟩:=gN h.2.1 h0 hlt
    exact ⟨u,by rw [← e,aH,List.getD_eq_getElem?_getD,List.getElem?_eq_getElem (by rw [aQ h.2.1];exact hl)];exact List.getElem_mem _, .inl rfl⟩
   ·have hk:(u - g.n).toNat<bs.length:=by omega
    have vl:=hb.qt _ (aG (d:=0) hk)
    have ht:=bu hm (i:=(bs.getD (u - g.n).toNat 0).toNat) (by omega)
    obtain ⟨l,hl,e⟩:=gN h.2.1 ht.1 ht.2
    refine ⟨eR g (bs.getD (u - g.n).toNat 0), ?_, .inr (gO.2 ⟨(u - g.n).toNat,hk,rfl,by omega⟩)⟩
    show tl g (bs.getD (u - g.n).toNat 0).toNat∈p.ord
    rw [← e,aH,List.getD_eq_getElem?_getD,List.getElem?_eq_getElem (by rw [aQ h.2.1];exact hl)];exact List.getElem_mem _
theorem yy:Gz g p bs (oo g p bs):=by
 have hm:=an h.1
 have hn:=aE hm
 have dG:=h.2.1.1
 have bV:=cP h.2.1
 obtain ⟨n1,n2⟩:=Iu h hb
 refine ⟨?_,fun x hx=> ?_,fun k hk=> ?_, ?_, ?_⟩
 ·show (p.outs++eo g bs.length).length=_
  rw [List.length_append,dG,eo,List.length_map,List.length_range];omega
 ·show (p.outs++eo g bs.length).getD x []=_
  rw [List.getD_eq_getElem?_getD,List.getElem?_append_left (by omega), ← List.getD_eq_getElem?_getD]
 ·show (p.outs++eo g bs.length).getD (g.n.toNat+k) []=_
  rw [List.getD_eq_getElem?_getD,List.getElem?_append_right (by omega),dG,Nat.add_sub_cancel_left,eo,List.getElem?_map,List.getElem?_range hk];rfl
 ·refine (List.perm_ext_iff_of_nodup n1 ?_).2 fun u=> ?_
  ·unfold ee
   exact List.Pairwise.map _ (fun a b hab=>by intro e;apply hab;exact Int.ofNat.inj e) List.nodup_range
  ·show u∈dm g bs bs.length p.ord↔_
   rw [n2]
   simp only [ee,List.mem_map,List.mem_range]
   constructor
   ·rintro ⟨h0,h1⟩;exact ⟨u.toNat,by omega,by show ((u.toNat:Nat):Int)=u;omega⟩
   ·rintro ⟨k,hk,e⟩
    have e:(k:Int)=u:=e
    omega
 ·have hr:∀u∈p.ord,u<g.n:=fun u hu=>by
   have:=h.2.1.2.1.mem_iff.1 hu
   simp only [ee,List.mem_map,List.mem_range] at this
   obtain ⟨k,hk,e⟩:=this
   have e:(k:Int)=u:=e
   omega
  have eM:∀v∈p.ord,∀u∈v::jz g bs bs.length v,D3 g bs u=v:=fun v hv u hu=>by
   rcases List.mem_cons.1 hu with rfl|hu
   ·exact if_pos (hr u hv)
   ·obtain ⟨j,j1,j2,rfl⟩:=gO.1 hu
    unfold D3
    rw [if_neg (by omega),show (g.n+(j:Int) - g.n).toNat=j by omega]
    exact j2
  show (dm g bs bs.length p.ord).Pairwise _
  unfold dm
  rw [List.pairwise_flatMap]
  refine ⟨fun v hv=> ?_, ?_⟩
  ·refine List.Pairwise.imp_of_mem (R:=fun a b=>a<b) (fun {a b} ha hb' hab=> .inr ⟨(eM v hv a ha).trans (eM v hv b hb').symm,hab⟩) (List.pairwise_cons.2 ⟨fun u hu=> ?_, ?_⟩)
   ·obtain ⟨j,_,_,rfl⟩:=gO.1 hu
    have:=hr v hv
    omega
   ·unfold jz
    refine List.Pairwise.map _ (fun a b hab=> ?_) (List.pairwise_lt_range.filter _)
    omega
  ·refine List.Pairwise.imp_of_mem (R:=fun a b=>p.ord.idxOf a<p.ord.idxOf b) (fun {a b} ha hb' hab=> ?_) ?_
   ·intro u hu v hv
    rw [eM a ha u hu,eM b hb' v hv]
    exact .inl hab
   ·rw [List.pairwise_iff_getElem]
    intro i j hi hj hij
    have e1:=gh bV hi
    have e2:=gh bV hj
    rw [List.getD_eq_getElem?_getD,List.getElem?_eq_getElem hi,Option.getD_some] at e1
    rw [List.getD_eq_getElem?_getD,List.getElem?_eq_getElem hj,Option.getD_some] at e2
    omega
end
end Go.Ab
end
section
namespace Go.Ab
open Go.Proofs Go.RowKit
attribute [local congr] ACall.congr gd.congr Nx.congr
set_option maxRecDepth 10000
theorem Spec.of_same {P:Program} {f:Nat} {A:Env→World→List Value→Prop} {m:List (Nat × AObj)} {res:AV} (hc:xH P f)
 (h:∀E w vals,Good m E w→A E w vals→Calls P f vals.toArray w fun e w'=>∃v,e= .returned v∧w'.os=w.os∧w'.tape=w.tape∧w'.output=w.output∧w.heap.size≤w'.heap.size∧(∀b,b<w.heap.size→w'.heap[b]? =w.heap[b]?)∧cr w' E res v):Spec P f A m res m:=by
 refine ⟨hc,fun E w vals hg hA=>(h E w vals hg hA).mono ?_⟩
 rintro e w' ⟨v,rfl,h1,h2,h3,h4,h5,h6⟩
 have hst:aN w E.z w' E.z:=fun b=>⟨Nat.le_refl _,fun o ho=>by
  by_cases hb:b<w.heap.size
  ·simp only [World.cell?,h5 b hb]
  ·have:=hg.fresh b (by omega);omega⟩
 refine ⟨v,E,rfl,⟨h1,h2,h3,h4,hst,fun b hb _=>⟨h5 b hb,rfl⟩,fun _ _=>⟨rfl,rfl⟩⟩,⟨hg.low,hg.inj,fun l o hl=> ?_,fun b hb=>hg.fresh b (by omega)⟩,fun l o b hl hro hb=> .inr ⟨l,o,hl,hro,hb⟩,h6⟩
 have h0:=hg.gP l o hl
 have:=bz.keep (k:= []) (E':=E) hst (fun _ _=>⟨rfl,rfl⟩) (fun l x hx=>by cases hx) rfl (fun _ _=>rfl) (fun b hb=>⟨h5 b (h0.lt hb),rfl⟩) h0
 rwa [AObj.kO] at this
theorem yz {ak:List (List Int × Int)} {es:Array MapEntry} (h:iZ 0 ak es) {y:MapEntry} :y∈es.toList↔∃i p,ak[i]? =some p∧y=⟨kV 0 p.1, .int .i64 p.2,i⟩:=by
 constructor
 ·intro hy
  obtain ⟨i,hi,e⟩:=List.mem_iff_getElem.1 hy
  have hi':i<es.size:=by simpa using hi
  have hp:=List.getElem?_eq_getElem (l:=ak) (i:=i) (by rw [← h.size];exact hi')
  refine ⟨i,_,hp, ?_⟩
  have:=h.EA i _ hp
  rw [Array.getElem?_eq_getElem hi'] at this
  rw [← e]
  simpa using Option.some.inj this
 ·rintro ⟨i,p,hp,rfl⟩
  have:=h.EA i p hp
  obtain ⟨hi,e⟩:=Array.getElem?_eq_some_iff.1 this
  rw [← e]
  simp
theorem GG {ak:List (List Int × Int)} {es:Array MapEntry} (h:iZ 0 ak es):es.toList.map (·.born)=List.range es.size:=by
 refine List.ext_getElem? fun i=> ?_
 rw [List.getElem?_map,Array.getElem?_toList]
 by_cases hi:i<es.size
 ·have hp:=List.getElem?_eq_getElem (l:=ak) (i:=i) (by rw [← h.size];exact hi)
  rw [h.EA i _ hp,List.getElem?_range hi]
  rfl
 ·rw [Array.getElem?_eq_none (by omega),List.getElem?_eq_none (by simpa using hi)]
  rfl
def iI (n:Int) (es:List Edge) (ord:List Int) (outs:List (List Int)) (ak:List (List Int × Int)):List (Nat × AObj):=
 [(10000, .box [eN n, .ref 10001, .ref 10002, .ref 10003, .mref 10004]),(10001, .own 73 2 (es.map rE)),(10002, .own 3 1 (ord.map rI)),(10003, .own 31 1 (vI outs)),(10004, .mp 0 ak)]
def u7 (es:List Edge) (ak:List (List Int × Int)) (x:Int) (e:Nat):Bool:=ak.any fun p=>eW (fun i=>(es.getD i (0,0)).1) x e (p.1.getD 0 0).toNat p.2
theorem D5 (n:Int) (es:List Edge) (ord:List Int) (outs:List (List Int)) (ak:List (List Int × Int)) (x:Int) (e:Nat) (he:e<es.length) (hne:es.length≤1000) (hE:∀p∈ak,0≤p.1.getD 0 0∧p.1.getD 0 0<es.length):
 Spec Tryz.prog 167 (Args [.ptr 10000 0,eN x,eN e]) (iI n es ord outs ak) (eB (u7 es ak x e)) (iI n es ord outs ak):=by
 refine Spec.of_same ⟨Tryz.f167,_,Tryz.func167,by kernel_rfl,rfl⟩ fun E w vals hg hA=> ?_
 obtain ⟨v,vs,rfl,h0,h3⟩:=hA
 obtain ⟨v2,Rr,rfl,h1,h4⟩:=h3
 obtain ⟨v3,Rt,rfl,h2,h5⟩:=h4
 simp only [AVrs] at h5
 subst h5
 have h1:=nQ h1
 have h2:=nQ h2
 subst h1 h2
 obtain ⟨B,hB,rfl⟩:=h0
 obtain ⟨B',cs,ty,g1,g2,g3,g4,g5⟩:=hg.gP 10000 (.box [eN n, .ref 10001, .ref 10002, .ref 10003, .mref 10004]) rfl
 obtain rfl:B'=B:=by rw [g1] at hB;exact Option.some.inj hB
 obtain ⟨_,_,o1⟩:=hg.gP 10001 (.own 73 2 (es.map rE)) rfl
 obtain ⟨bm,me,m1,m2,m3,m4⟩:=hg.gP 10004 (.mp 0 ak) rfl
 obtain ⟨u0,r0,rfl,_,g4⟩:=g4
 obtain ⟨u1,r1,rfl,c1,g4⟩:=g4
 obtain ⟨u2,r2,rfl,_,g4⟩:=g4
 obtain ⟨u3,r3,rfl,_,g4⟩:=g4
 obtain ⟨u4,r4,rfl,c4,g4⟩:=g4
 obtain ⟨rfl,_⟩:=c1
 obtain ⟨Pk,c5,rfl⟩:=c4
 obtain rfl:Pk=bm:=by rw [m1] at c5;exact (Option.some.inj c5).symm
 obtain ⟨be,cur,ce,p1,p2,p3,p4,p5,p6,p7,p8⟩:∃b cur cap,E.ρ 10001=some b∧w.heap[b]? =some (.cells cur 73 (0,0))∧E.σ 10001= .slice (some ⟨b,0,none⟩) (es.map rE).length cap∧(es.map rE).length≤cap∧cap*2=cur.size∧cap≤maxLen∧
  E.z b=0∧∀(i j:Nat) (r:List D) (y:D),(es.map rE)[i]? =some r→r[j]? =some y→∃v,cur[i*2+j]? =some v∧Rd w E.z v y:=by
  rcases o1 with ⟨_,h,_⟩|h
  ·rw [List.map_eq_nil_iff] at h
   subst h
   simp at he
  ·exact h
 rw [List.length_map] at p3 p4
 have Sj:B'<w.heap.size:=(Array.getElem?_eq_some_iff.1 g2).1
 have oI:be<w.heap.size:=(Array.getElem?_eq_some_iff.1 p2).1
 have key:=Bb B' Pk be es.length ce me (fun i=>(es.getD i (0,0)).1) x e w Sj oI ?_ ?_ m2 (fun i hi=> ?_) he hne ⟨fun y hy=> ?_, ?_⟩ (fun y hy=> ?_)
 ·refine key.mono ?_
  rintro en w' ⟨rfl,w1,seen,⟨xV,M3⟩,rfl⟩
  refine ⟨_,rfl,xV.2.1,M3,xV.2.2, ?_,fun b hb=> ?_, ?_⟩
  ·have:=nS w1 (.mapIter (some Pk) me.size seen me.size)
   rw [xV.1] at this
   exact this
  ·rw [mQ _ _ (by rw [xV.1];exact hb),xV.1]
  ·have:(me.toList.any fun y=>eW (fun i=>(es.getD i (0,0)).1) x e (I3 y.key) (I4 y.val))=u7 es ak x e:=by
    rw [Bool.eq_iff_iff,u7,List.any_eq_true,List.any_eq_true]
    constructor
    ·rintro ⟨y,hy,hm⟩
     obtain ⟨i,p,hp,rfl⟩:=(yz m4).1 hy
     exact ⟨p,List.mem_of_getElem? hp,hm⟩
    ·rintro ⟨p,hp,hm⟩
     obtain ⟨i,hi⟩:=List.mem_iff_getElem?.1 hp
     exact ⟨_,(yz m4).2 ⟨i,p,hi,rfl⟩,hm⟩
   rw [this]
   exact .sc _ rfl
 ·simp [World.cell?,g2,p3]
 ·simp [World.cell?,g2]
 ·obtain ⟨v,q1,q2⟩:=p8 i 0 (rE es[i]) (.sc (.int .i64 es[i].1)) (by simp [List.getElem?_eq_getElem hi]) rfl
  rw [nQ q2] at q1
  simp only [World.cell?,p2,Option.isSome_none,Bool.false_eq_true,if_false]
  rw [List.getD_eq_getElem?_getD,List.getElem?_eq_getElem hi]
  exact q1
 ·obtain ⟨i,p,hp,rfl⟩:=(yz m4).1 hy
  have:=(List.getElem?_eq_some_iff.1 hp).1
  have:=m4.size
  show i<me.size
  omega
 ·rw [GG m4];exact List.nodup_range
 ·obtain ⟨i,p,hp,rfl⟩:=(yz m4).1 hy
  obtain ⟨h1,h2⟩:=hE p (List.mem_of_getElem? hp)
  refine ⟨(p.1.getD 0 0).toNat,p.2, ?_,rfl,by omega⟩
  show Value.int .i64 (p.1.getD 0 0)=_
  rw [Int.toNat_of_nonneg h1]
end Go.Ab
end
section
namespace Go.Ab
open Go.Proofs
attribute [local congr] ACall.congr gd.congr Nx.congr
set_option maxRecDepth 20000
set_option maxHeartbeats 8000000
def GH (n:Int) (es:List Edge) (ord:List Int) (outs:List (List Int)) (ak:List (List Int × Int)):List (Nat × AObj):=
 [(10000, .box [eN n, .ref 10011, .ref 10012, .ref 10013, .mref 10004]),(10011, .own 73 2 (es.map rE)),(10012, .own 3 1 (ord.map rI)),(10013, .own 31 1 (vI outs)),(10004, .mp 0 ak)]
theorem GI {ak:List (List Int × Int)} {k:List Int} {v:Int} (h:∀p∈ak,k≠p.1):xo ak k v=ak++ [(k,v)]:=by
 have hf:cw ak k=none:=by
  rw [cw,List.findIdx?_eq_none_iff]
  intro p hp
  exact decide_eq_false (h p hp)
 unfold xo fc jO
 rw [hf]
 simp only [rz]
 refine List.ext_getElem? fun i=> ?_
 rw [List.getElem?_modify]
 rcases Nat.lt_trichotomy i ak.length with h1|h1|h1
 ·rw [List.getElem?_append_left h1,List.getElem?_append_left h1]
  simp [show ¬ak.length=i by omega]
 ·subst h1;simp
 ·rw [List.getElem?_eq_none (by simp;omega),List.getElem?_eq_none (by simp;omega)];rfl
theorem BC {a b:List (List Int)} :vI (a++b)=vI a++vI b:=by simp [vI]
theorem Iv {A B:List Int} {t:Int} (h:t∉A):eV (A++t::B) t=A.length:=by
 refine c7 (d:=0) (by simp) (fun j hj=>decide_eq_false fun e=>h ?_) (decide_eq_true ?_)
 ·rw [e,List.getD_eq_getElem?_getD,List.getElem?_append_left hj,List.getElem?_eq_getElem hj];exact List.getElem_mem _
 ·rw [List.getD_eq_getElem?_getD,List.getElem?_append_right (by omega)];simp
theorem Ko {A O B:List Int} {t:Int} {j:Nat} (hj:j<O.length):(A++t::(O++B)).getD (A.length+1+j) 0=O.getD j 0:=by
 rw [List.getD_eq_getElem?_getD,List.getElem?_append_right (by omega),show A.length+1+j - A.length=j+1 by omega,List.getElem?_cons_succ,List.getElem?_append_left hj, ← List.getD_eq_getElem?_getD]
theorem Iw {A O B:List Int} {t u:Int} :(A++t::(O++u::B)).getD (A.length+1+O.length) 0=u:=by
 rw [List.getD_eq_getElem?_getD,List.getElem?_append_right (by omega),show A.length+1+O.length - A.length=O.length+1 by omega,List.getElem?_cons_succ,List.getElem?_append_right (by omega)]
 simp
theorem Iy {A O B:List Int} {t x:Int} :rJ (A++t::(O++B)) (A.length+1+O.length) x=A++t::(O++x::B):=by
 unfold rJ
 rw [show A++t::(O++B)=(A++t::O)++B by simp,List.take_left' (by simp;omega),List.drop_left' (by simp;omega)]
 simp
theorem mZ {es:List Edge} {a b:Int} :List.map rE es++ [[D.sc (.int .i64 a),D.sc (.int .i64 b)]]=List.map rE (es++ [(a,b)]):=by simp [rE]
theorem yA {es:List Edge} {e:Nat} {a b:Int} (h:es.getD e (0,0)=(a,b)):(List.map rE es).getD e [D.sc (.int .i64 0),D.sc (.int .i64 0)]= [D.sc (.int .i64 a),D.sc (.int .i64 b)]:=by
 rw [show [D.sc (.int .i64 0),D.sc (.int .i64 0)]=rE (0,0) from rfl,List.getD_eq_getElem?_getD,List.getElem?_map]
 rw [List.getD_eq_getElem?_getD] at h
 cases hq:es[e]? with
 |none=>rw [hq] at h;cases h;rfl
 |some q=>rw [hq] at h;cases h;rfl
theorem qG {es:List Edge} {e:Nat} {a b:Int} :(List.map rE es).set e [D.sc (.int .i64 a),D.sc (.int .i64 b)]=List.map rE (es.set e (a,b)):=by
 rw [List.map_set];rfl
theorem D6 (n:Int) (es:List Edge) (outs:List (List Int)) (ak:List (List Int × Int)) (e:Nat) (A O B:List Int) (t:Int) (hn:0≤n∧n<1000) (he:e<es.length) (hne:es.length<1000) (rD:outs.length<1000) (TD:(A++t::(O++B)).length<1000)
 (hE:∀p∈ak,0≤p.1.getD 0 0∧p.1.getD 0 0<es.length) (hnew:∀p∈ak, [(e:Int)]≠p.1) (ht:(es.getD e (0,0)).1=t) (Sk:t∉A)
 (hO:∀u∈O,u7 ((es++ [(n,(es.getD e (0,0)).2)]).set e (t,n)) (ak++ [([(e:Int)],n)]) u e=true) (hB:∀u r,B=u::r→u7 ((es++ [(n,(es.getD e (0,0)).2)]).set e (t,n)) (ak++ [([(e:Int)],n)]) u e=false):
 Spec Tryz.prog 118 (Args [.ptr 10000 0,eN e]) (iI n es (A++t::(O++B)) outs ak) (.tup []) (GH (n+1) ((es++ [(n,(es.getD e (0,0)).2)]).set e (t,n)) (A++t::(O++n::B)) (outs++ [[(es.length:Int)]]) (ak++ [([(e:Int)],n)])):=by
 have hi:=aU (A++t::(O++B)) t (by omega)
 rw [Iv Sk] at hi
 have KM:=GI (v:=n) hnew
 obtain ⟨hd,Bx⟩:∃hd,(es.getD e (0,0)).2=hd:=⟨_,rfl⟩
 rw [Bx] at hO hB ⊢
 have IS:(List.map rE es).getD e [D.sc (.int .i64 0),D.sc (.int .i64 0)]= [D.sc (.int .i64 t),D.sc (.int .i64 hd)]:=yA (Prod.ext ht Bx)
 have iq:(List.map rE (es++ [(n,hd)])).getD e [D.sc (.int .i64 0),D.sc (.int .i64 0)]= [D.sc (.int .i64 t),D.sc (.int .i64 hd)]:=yA (by
  rw [List.getD_eq_getElem?_getD,List.getElem?_append_left he, ← List.getD_eq_getElem?_getD];exact Prod.ext ht Bx)
 have qR:(List.map rE ((es++ [(n,hd)]).set e (t,n))).getD e [D.sc (.int .i64 0),D.sc (.int .i64 0)]= [D.sc (.int .i64 t),D.sc (.int .i64 n)]:=yA (by
  rw [List.getD_eq_getElem?_getD,List.getElem?_set_self (by simp;omega)];rfl)
 have FN:((es++ [(n,hd)]).set e (t,n)).length=es.length+1:=by simp
 have Nd:∀p∈ak++ [([(e:Int)],n)],0≤p.1.getD 0 0∧p.1.getD 0 0<((es++ [(n,hd)]).set e (t,n)).length:=fun p hp=>by
  rw [FN]
  rcases List.mem_append.1 hp with h|h
  ·have:=hE p h;omega
  ·rw [List.mem_singleton] at h
   subst h
   simp only [List.getD_cons_zero]
   omega
 have l5:=fun (outs:List (List Int)) (u:Int)=>D5 (n+1) ((es++ [(n,hd)]).set e (t,n)) (A++t::(O++B)) outs (ak++ [([(e:Int)],n)]) u e (by rw [FN];omega) (by rw [FN];omega) Nd
 have hins:=zB (A++t::(O++B)) (A.length+1+O.length) n (by simp;omega) (by omega)
 rw [Iy] at hins
 have hlen:(A++t::(O++B)).length=A.length+1+O.length+B.length:=by simp;omega
 generalize KN:(es++ [(n,hd)]).set e (t,n)=E2 at hO hB qR FN Nd l5 ⊢
 have hv:vI outs++ [[D.sl 1 [[D.sc (.int .i64 (es.length:Int))]]]]=vI (outs++ [[(es.length:Int)]]):=by simp [vI,sI,rI]
 generalize Ie:A++t::(O++n::B)=Sl at hins ⊢
 unfold iI GH
 (refine Spec.si (C:=T.cfg [51,73,125,126,72] []) (rs:= []) [(10011,51),(10013,73),(10012,126)] (T.ah _ _) Tryz.func118 rfl rfl Tryz.ntmps118 Tryz.results118 (by simp [AObj.isNest]) (by simp [AObj.isNest]) (by first|(simp [look];done)|(simp [asN];done)|(intro l hl;simp only [asN];repeat (rw [if_neg (fun e=>by subst e;simp [look] at hl)]))) (by first|(simp [look];done)|(simp [asN];done)|(intro l hl;simp only [asN];repeat (rw [if_neg (fun e=>by subst e;simp [look] at hl)]))) (by kernel_rfl) T.mixed fun X hX hP hC aC bL=> ?_)
 repeat' (first|refine Rn.p ?_|(with_reducible apply And.intro)|((first|(refine hK _ ?_;clear hK K)|with_reducible intro K hK|refine Rs.p ?_|((with_reducible first|apply oP|apply oQ);exact rfl)|(refine ai hX hC hP (hi) rfl rfl rfl ?_ ?_ ?_ ?_;iterate 3 (focus (simp only [go_sem,simprocAttr,KM,mZ,qG,IS,iq,qR,KN,hv,List.length_append,List.length_cons,List.length_nil];done)))|(refine aj hX hC hP [(10000,10000),(10001,51),(10002,10002),(10003,73),(10004,10004)] (l5 _ _) rfl rfl rfl ?_ ?_ ?_ ?_ ?_ ?_ ?_ ?_ ?_ ?_ ?_ ?_ ?_ ?_;(focus (simp only [go_sem,simprocAttr,KM,mZ,qG,IS,iq,qR,KN,hv,List.length_append,List.length_cons,List.length_nil];done));(iterate 12 (focus (simp [go_sem,simprocAttr,KM,mZ,qG,IS,iq,qR,KN,hv,List.length_append,List.length_cons,List.length_nil];done)));try simp only [List.map_cons,List.map_nil]));try simp only [go_sem,simprocAttr,KM,mZ,qG,IS,iq,qR,KN,hv,List.length_append,List.length_cons,List.length_nil])|((with_reducible refine oD ?_ ?_);kernel_rfl)|((with_reducible intro h);try simp only [go_sem,simprocAttr,KM,mZ,qG,IS,iq,qR,KN,hv,List.length_append,List.length_cons,List.length_nil] at h)|omega|intro h)
 refine ag (fun j:Nat=>j≤O.length) (fun j=>⟨[(0, .ptr 10000 0),(1,eN e),(4,eN n),(6,eN ((A.length+1+j:Nat):Int))], [(10000, .box [eN (n+1), .ref 51, .ref 10002, .ref 73, .mref 10004]),(51, .own 73 2 (E2.map rE)),(10002, .own 3 1 ((A++t::(O++B)).map rI)),(73, .own 31 1 (vI (outs++ [[(es.length:Int)]]))),(10004, .mp 0 (ak++ [([(e:Int)],n)]))]⟩) (fun j=>O.length - j) 0 (by omega) ?_ ?_
 ·refine Le.of ?_ ?_<;>simp [go_sem,simprocAttr,KM,mZ,qG,IS,iq,qR,KN,hv,List.length_append,List.length_cons,List.length_nil]
 rintro j hj
 obtain ⟨L,hL⟩:∃L,L=A++t::(O++B):=⟨_,rfl⟩
 rcases Nat.lt_or_ge j O.length with hlt|hge
 ·have hb:decide (((A.length+1+j:Nat):Int)<(L.length:Int))=true:=decide_eq_true (by rw [hL];omega)
  have pZ:L.getD (A.length+1+j) 0=O.getD j 0:=by rw [hL];exact Ko hlt
  have hm:=hO _ (aG (d:=0) hlt)
  have hm2:=l5 (outs++ [[(es.length:Int)]]) (O.getD j 0)
  rw [hm] at hm2
  rw [← hL] at hm2 ⊢
  have hjl:A.length+1+j<L.length:=by rw [hL];omega
  repeat' (first|refine Rn.p ?_|(with_reducible apply And.intro)|((first|(refine hK _ ?_;clear hK K)|with_reducible intro K hK|refine Rs.p ?_|((with_reducible first|apply oP|apply oQ);exact rfl)|(refine aj hX hC hP [(10000,10000),(10001,51),(10002,10002),(10003,73),(10004,10004)] (hm2) rfl rfl rfl ?_ ?_ ?_ ?_ ?_ ?_ ?_ ?_ ?_ ?_ ?_ ?_ ?_ ?_;(focus (simp only [go_sem,simprocAttr,iI,hb,pZ];done));(iterate 12 (focus (simp [go_sem,simprocAttr,iI,hb,pZ];done)));try simp only [List.map_cons,List.map_nil]));try simp only [go_sem,simprocAttr,iI,hb,pZ])|((with_reducible refine oD ?_ ?_);kernel_rfl)|((with_reducible intro h);try simp only [go_sem,simprocAttr,iI,hb,pZ] at h)|omega|intro h)
  refine ⟨j+1,by omega, ?_,by omega⟩
  refine Le.of ?_ ?_<;>simp [go_sem,simprocAttr,iI,hb,pZ]
  omega
 ·obtain rfl:j=O.length:=by omega
  have hm2:=l5 (outs++ [[(es.length:Int)]])
  rw [← hL] at hm2 hins ⊢
  cases My:B with
  |nil=>
   have hb:decide (((A.length+1+O.length:Nat):Int)<(L.length:Int))=false:=decide_eq_false (by rw [hL,hlen,My];simp)
   repeat' (first|refine Rn.p ?_|(with_reducible apply And.intro)|((first|(refine hK _ ?_;clear hK K)|with_reducible intro K hK|refine Rs.p ?_|((with_reducible first|apply oP|apply oQ);exact rfl)|(refine aj hX hC hP [(10000,10002),(10002,125),(10001,126)] (hins) rfl rfl rfl ?_ ?_ ?_ ?_ ?_ ?_ ?_ ?_ ?_ ?_ ?_ ?_ ?_ ?_;(focus (simp only [go_sem,simprocAttr,iI,rI,hb];done));(iterate 12 (focus (simp [go_sem,simprocAttr,iI,rI,hb];done)));try simp only [List.map_cons,List.map_nil]));try simp only [go_sem,simprocAttr,iI,rI,hb])|((with_reducible refine oD ?_ ?_);kernel_rfl)|((with_reducible intro h);try simp only [go_sem,simprocAttr,iI,rI,hb] at h)|omega|intro h)
   all_goals rfl
  |cons u r=>
   have hb:decide (((A.length+1+O.length:Nat):Int)<(L.length:Int))=true:=decide_eq_true (by rw [hL,hlen,My];simp;omega)
   have pZ:L.getD (A.length+1+O.length) 0=u:=by rw [hL,My];exact Iw
   have M4:=hm2 u
   rw [hB u r My] at M4
   have hjl:A.length+1+O.length<L.length:=by rw [hL,hlen,My];simp
   repeat' (first|refine Rn.p ?_|(with_reducible apply And.intro)|((first|(refine hK _ ?_;clear hK K)|with_reducible intro K hK|refine Rs.p ?_|((with_reducible first|apply oP|apply oQ);exact rfl)|(refine aj hX hC hP [(10000,10002),(10002,125),(10001,126)] (hins) rfl rfl rfl ?_ ?_ ?_ ?_ ?_ ?_ ?_ ?_ ?_ ?_ ?_ ?_ ?_ ?_;(focus (simp only [go_sem,simprocAttr,iI,rI,hb,pZ];done));(iterate 12 (focus (simp [go_sem,simprocAttr,iI,rI,hb,pZ];done)));try simp only [List.map_cons,List.map_nil])|(refine aj hX hC hP [(10000,10000),(10001,51),(10002,10002),(10003,73),(10004,10004)] (M4) rfl rfl rfl ?_ ?_ ?_ ?_ ?_ ?_ ?_ ?_ ?_ ?_ ?_ ?_ ?_ ?_;(focus (simp only [go_sem,simprocAttr,iI,rI,hb,pZ];done));(iterate 12 (focus (simp [go_sem,simprocAttr,iI,rI,hb,pZ];done)));try simp only [List.map_cons,List.map_nil]));try simp only [go_sem,simprocAttr,iI,rI,hb,pZ])|((with_reducible refine oD ?_ ?_);kernel_rfl)|((with_reducible intro h);try simp only [go_sem,simprocAttr,iI,rI,hb,pZ] at h)|omega|intro h)
   all_goals rfl
end Go.Ab
end
section
namespace Go.Ab
open Go.Proofs
set_option maxRecDepth 10000
def D7 (q:Nat→Bool):Nat→Nat
 |0=>0
 |n+1=>D7 q n ||| (if q n then 2 ^ n else 0)
theorem lD {q:Nat→Bool} {y:Nat} :∀ {n:Nat},(D7 q n).testBit y=(decide (y<n)&&q y)
 |0=>by simp [D7]
 |n+1=>by
  rw [D7,Nat.testBit_or,lD]
  by_cases h:y=n
  ·subst h
   cases hq:q y<;>simp [Nat.testBit_two_pow_self]
  ·have h2:(if q n then 2 ^ n else 0).testBit y=false:=by
    split
    ·rw [Nat.testBit_two_pow];exact decide_eq_false fun e=>h e.symm
    ·simp
   rw [h2,Bool.or_false]
   congr 1
   rw [decide_eq_decide];omega
theorem Iz {q:Nat→Bool} {n:Nat} :D7 q n<2 ^ n:=by
 refine Nat.lt_pow_two_of_testBit _ fun i hi=> ?_
 rw [lD,decide_eq_false (by omega)];rfl
inductive qc (g:Gr) (both:Bool) (c:Nat→Bool) (x:Nat):Nat→Prop
 |refl:qc g both c x x
 |fwd {i:Nat} :i<g.es.length→c i=true→qc g both c x (tl g i).toNat→qc g both c x (hd g i).toNat
 |Je {i:Nat} :i<g.es.length→c i=true→both=true→qc g both c x (hd g i).toNat→qc g both c x (tl g i).toNat
theorem qc.trans {g:Gr} {both:Bool} {c:Nat→Bool} {x y z:Nat} (h1:qc g both c x y) (h2:qc g both c y z):qc g both c x z:=by
 induction h2 with
 |refl=>exact h1
 |fwd a b _ ih=>exact .fwd a b ih
 |Je a b d _ ih=>exact .Je a b d ih
open Classical in
noncomputable def Nf (g:Gr) (both:Bool) (c:Nat→Bool) (x:Nat):Nat:=D7 (fun y=>decide (qc g both c x y)) g.n.toNat
noncomputable def BD (g:Gr) (both:Bool) (c:Nat→Bool):List Nat:=(List.range g.n.toNat).map (Nf g both c)
theorem sH {g:Gr} {both:Bool} {c:Nat→Bool} :(BD g both c).length=g.n.toNat:=by simp [BD]
theorem BF {g:Gr} {both:Bool} {c:Nat→Bool} {x:Nat} (h:x<g.n.toNat):(BD g both c).getD x 0=Nf g both c x:=by
 simp [BD,List.getD_eq_getElem?_getD,List.getElem?_range h]
open Classical in
theorem CM {g:Gr} {both:Bool} {c:Nat→Bool} {x y:Nat} :(Nf g both c x).testBit y=true↔y<g.n.toNat∧qc g both c x y:=by
 unfold Nf
 rw [lD]
 simp
def bR (g:Gr) (both:Bool) (c:Nat→Bool) (a:List Nat):Nat→List Nat × Bool
 |0=>(a,false)
 |k+1=>
  let s:=bR g both c a k
  if c k=true then
   let t:=s.1.getD (tl g k).toNat 0 ||| s.1.getD (hd g k).toNat 0
   let h:=if both=true then t else s.1.getD (hd g k).toNat 0
   ((s.1.set (tl g k).toNat t).set (hd g k).toNat h,s.2||(decide (t≠s.1.getD (tl g k).toNat 0)||decide (h≠s.1.getD (hd g k).toNat 0)))
  else s
theorem qH {g:Gr} {both:Bool} {c:Nat→Bool} {a:List Nat} :∀ {k:Nat},(bR g both c a k).1.length=a.length
 |0=>rfl
 |k+1=>by
  simp only [bR]
  split
  ·simp [qH]
  ·exact qH
theorem m9 {l:List Nat} {i j:Nat} {a:Nat} (hi:i<l.length):(l.set i a).getD j 0=if j=i then a else l.getD j 0:=by
 rw [List.getD_eq_getElem?_getD,List.getElem?_set]
 by_cases h:i=j
 ·subst h;rw [if_pos rfl,if_pos hi,if_pos rfl];rfl
 ·rw [if_neg h,if_neg (Ne.symm h), ← List.getD_eq_getElem?_getD]
structure Ez (g:Gr) (both:Bool) (c:Nat→Bool) (a:List Nat):Prop where
 len:a.length=g.n.toNat
 own:∀x,x<g.n.toNat→(a.getD x 0).testBit x=true
 snd:∀x y,x<g.n.toNat→(a.getD x 0).testBit y=true→y<g.n.toNat∧qc g both c x y
theorem Ez.lt {g:Gr} {both:Bool} {c:Nat→Bool} {a:List Nat} (h:Ez g both c a) (hn:g.n.toNat≤64) (x:Nat):a.getD x 0<18446744073709551616:=by
 by_cases hx:x<g.n.toNat
 ·have:a.getD x 0<2 ^ 64:=Nat.lt_pow_two_of_testBit _ fun i hi=>by
   cases hb:(a.getD x 0).testBit i with
   |false=>rfl
   |true=>have:=(h.snd x i hx hb).1;omega
  simpa using this
 ·rw [List.getD_eq_getElem?_getD,List.getElem?_eq_none (by rw [h.len];omega)];simp
theorem grow_step {g:Gr} (hm:aM g=true) {both:Bool} {c:Nat→Bool} {a:List Nat} (h:Ez g both c a) {i:Nat} (hi:i<g.es.length) (hc:c i=true):
 Ez g both c ((a.set (tl g i).toNat (a.getD (tl g i).toNat 0 ||| a.getD (hd g i).toNat 0)).set (hd g i).toNat (if both=true then a.getD (tl g i).toNat 0 ||| a.getD (hd g i).toNat 0 else a.getD (hd g i).toNat 0))∧
 ∀x y,(a.getD x 0).testBit y=true→(((a.set (tl g i).toNat (a.getD (tl g i).toNat 0 ||| a.getD (hd g i).toNat 0)).set (hd g i).toNat (if both=true then a.getD (tl g i).toNat 0 ||| a.getD (hd g i).toNat 0 else a.getD (hd g i).toNat 0)).getD x 0).testBit y=true:=by
 obtain ⟨ht,hh⟩:=cE hm hi
 have ht:0≤tl g i∧tl g i<g.n:=ht
 have hh:0≤hd g i∧hd g i<g.n:=hh
 have hl:=h.len
 have sS:∀x,((a.set (tl g i).toNat (a.getD (tl g i).toNat 0 ||| a.getD (hd g i).toNat 0)).set (hd g i).toNat (if both=true then a.getD (tl g i).toNat 0 ||| a.getD (hd g i).toNat 0 else a.getD (hd g i).toNat 0)).getD x 0=
  if x=(hd g i).toNat then (if both=true then a.getD (tl g i).toNat 0 ||| a.getD (hd g i).toNat 0 else a.getD (hd g i).toNat 0) else if x=(tl g i).toNat then a.getD (tl g i).toNat 0 ||| a.getD (hd g i).toNat 0 else a.getD x 0:=fun x=>by
  rw [m9 (by rw [List.length_set];omega),m9 (by omega)]
 have mono:∀x y,(a.getD x 0).testBit y=true→(((a.set (tl g i).toNat (a.getD (tl g i).toNat 0 ||| a.getD (hd g i).toNat 0)).set (hd g i).toNat (if both=true then a.getD (tl g i).toNat 0 ||| a.getD (hd g i).toNat 0 else a.getD (hd g i).toNat 0)).getD x 0).testBit y=true:=fun x y hb=>by
  rw [sS]
  split
  ·rename_i e;subst e
   split
   ·rw [Nat.testBit_or,hb,Bool.or_true]
   ·exact hb
  ·split
   ·rename_i e;subst e
    rw [Nat.testBit_or,hb,Bool.true_or]
   ·exact hb
 refine ⟨⟨by simp [hl],fun x hx=>mono x x (h.own x hx),fun x y hx hb=> ?_⟩,mono⟩
 have e1:qc g both c (tl g i).toNat (hd g i).toNat:= .fwd hi hc .refl
 rw [sS] at hb
 split at hb
 ·rename_i e;subst e
  split at hb
  ·rename_i Pm
   rw [Nat.testBit_or,Bool.or_eq_true] at hb
   rcases hb with hb|hb
   ·obtain ⟨g1,g2⟩:=h.snd _ _ (by omega) hb
    exact ⟨g1,(qc.Je hi hc Pm .refl).trans g2⟩
   ·exact h.snd _ _ hx hb
  ·exact h.snd _ _ hx hb
 ·split at hb
  ·rename_i e;subst e
   rw [Nat.testBit_or,Bool.or_eq_true] at hb
   rcases hb with hb|hb
   ·exact h.snd _ _ hx hb
   ·obtain ⟨g1,g2⟩:=h.snd _ _ (by omega) hb
    exact ⟨g1,e1.trans g2⟩
  ·exact h.snd _ _ hx hb
theorem iY {g:Gr} (hm:aM g=true) {both:Bool} {c:Nat→Bool} {a:List Nat} (h:Ez g both c a):∀ {k:Nat},k≤g.es.length→Ez g both c (bR g both c a k).1∧∀x y,(a.getD x 0).testBit y=true→((bR g both c a k).1.getD x 0).testBit y=true
 |0,_=>⟨h,fun x y hb=>hb⟩
 |k+1,hk=>by
  obtain ⟨i1,i2⟩:=iY hm h (k:=k) (by omega)
  simp only [bR]
  by_cases hc:c k=true
  ·rw [if_pos hc]
   obtain ⟨j1,j2⟩:=grow_step hm i1 (i:=k) (by omega) hc
   exact ⟨j1,fun x y hb=>j2 x y (i2 x y hb)⟩
  ·rw [if_neg hc];exact ⟨i1,i2⟩
def u9 (a:List Nat):Nat:=a.foldr (· + ·) 0
theorem CN:∀ {a b:List Nat},a.length=b.length→(∀x,a.getD x 0≤b.getD x 0)→a≠b→u9 a<u9 b
 | [], [],_,_,hne=>absurd rfl hne
 |x::a,y::b,hl,h,hne=>by
  have h0:=h 0
  have hr:∀i,a.getD i 0≤b.getD i 0:=fun i=>by simpa using h (i+1)
  simp only [List.getD_cons_zero] at h0
  show x+u9 a<y+u9 b
  by_cases hab:a=b
  ·subst hab
   have:x≠y:=fun e=>hne (by rw [e])
   omega
  ·have:=CN (a:=a) (b:=b) (by simpa using hl) hr hab
   omega
theorem Au {m:Nat} :∀ {a:List Nat},(∀x,a.getD x 0<m)→u9 a≤a.length*m
 | [],_=>by simp [u9]
 |x::a,h=>by
  have h0:=h 0
  have:=Au (a:=a) fun i=>by simpa using h (i+1)
  simp only [List.getD_cons_zero] at h0
  show x+u9 a≤(a.length+1)*m
  rw [Nat.add_mul];omega
theorem oq {a b:Nat} (h:∀y,a.testBit y=true→b.testBit y=true):a≤b:=by
 have:a ||| b=b:=Nat.eq_of_testBit_eq fun y=>by
  rw [Nat.testBit_or]
  cases ha:a.testBit y with
  |false=>simp
  |true=>rw [h y ha];rfl
 rw [← this];exact Nat.left_le_or
theorem jt {g:Gr} {both:Bool} {c:Nat→Bool} {a:List Nat} :∀ {k:Nat},(bR g both c a k).2=false→(bR g both c a k).1=a∧∀i,i<k→c i=true→(a.getD (tl g i).toNat 0 ||| a.getD (hd g i).toNat 0=a.getD (tl g i).toNat 0)∧(both=true→a.getD (tl g i).toNat 0=a.getD (hd g i).toNat 0)
 |0,_=>⟨rfl,fun i hi=>by omega⟩
 |k+1,h=>by
  simp only [bR] at h ⊢
  by_cases hc:c k=true
  ·rw [if_pos hc] at h ⊢
   simp only [Bool.or_eq_false_iff,decide_eq_false_iff_not,Decidable.not_not] at h
   obtain ⟨h1,h2,h3⟩:=h
   obtain ⟨i1,i2⟩:=jt h1
   rw [i1] at h2 h3
   simp only [i1]
   have cD:∀ {l:List Nat} {i v:Nat},v=l.getD i 0→l.set i v=l:=fun {l i v} e=>by
    refine List.ext_getElem? fun j=> ?_
    rw [List.getElem?_set]
    split
    ·rename_i hj;subst hj
     split
     ·rename_i hl;rw [e,List.getD_eq_getElem?_getD,List.getElem?_eq_getElem hl];rfl
     ·rename_i hl;rw [List.getElem?_eq_none (by omega)]
    ·rfl
   refine ⟨by rw [cD h2,cD h3],fun i hi Ng=> ?_⟩
   by_cases hik:i=k
   ·subst hik
    refine ⟨h2,fun hb=> ?_⟩
    rw [if_pos hb] at h3
    rw [← h2,h3]
   ·exact i2 i (by omega) Ng
  ·rw [if_neg hc] at h ⊢
   obtain ⟨i1,i2⟩:=jt h
   refine ⟨i1,fun i hi Ng=> ?_⟩
   by_cases hik:i=k
   ·subst hik;exact absurd Ng hc
   ·exact i2 i (by omega) Ng
theorem BG {g:Gr} (hm:aM g=true) {both:Bool} {c:Nat→Bool} {a:List Nat} (h:Ez g both c a) (hne:(bR g both c a g.es.length).2=true):u9 a<u9 (bR g both c a g.es.length).1:=by
 obtain ⟨_,i2⟩:=iY hm h (Nat.le_refl g.es.length)
 refine CN qH.symm (fun x=>oq (i2 x)) fun e=> ?_
 have key:∀k,k≤g.es.length→(bR g both c a k).2=false:=by
  intro k
  induction k with
  |zero=>intro _;rfl
  |succ k ih=>
   intro hk
   have ih:=ih (by omega)
   have Qk:=(jt ih).1
   simp only [bR]
   by_cases hc:c k=true
   ·rw [if_pos hc]
    simp only [Bool.or_eq_false_iff,decide_eq_false_iff_not,Decidable.not_not,ih,Qk,true_and]
    obtain ⟨j1,j2⟩:=iY hm h (k:=k) (by omega)
    have later:∀d,k+1+d≤g.es.length→∀x y,((bR g both c a (k+1)).1.getD x 0).testBit y=true→((bR g both c a (k+1+d)).1.getD x 0).testBit y=true:=by
     intro d
     induction d with
     |zero=>intro _ x y hb;exact hb
     |succ d Sm=>
      intro hd x y hb
      have hb:=Sm (by omega) x y hb
      show ((bR g both c a (k+1+d+1)).1.getD x 0).testBit y=true
      simp only [bR] at hb ⊢
      split
      ·rename_i Cm
       exact (grow_step hm (iY hm h (k:=k+1+d) (by omega)).1 (i:=k+1+d) (by omega) Cm).2 x y hb
      ·exact hb
    have oL:=later (g.es.length - (k+1)) (by omega)
    rw [show k+1+(g.es.length - (k+1))=g.es.length by omega, ← e] at oL
    have yK:(bR g both c a (k+1)).1=(a.set (tl g k).toNat (a.getD (tl g k).toNat 0 ||| a.getD (hd g k).toNat 0)).set (hd g k).toNat (if both=true then a.getD (tl g k).toNat 0 ||| a.getD (hd g k).toNat 0 else a.getD (hd g k).toNat 0):=by
     simp only [bR];rw [if_pos hc,Qk]
    obtain ⟨ht,hh⟩:=cE hm (k:=k) (by omega)
    have ht:0≤tl g k∧tl g k<g.n:=ht
    have hh:0≤hd g k∧hd g k<g.n:=hh
    have hl:=h.len
    have sS:∀x,(bR g both c a (k+1)).1.getD x 0=if x=(hd g k).toNat then (if both=true then a.getD (tl g k).toNat 0 ||| a.getD (hd g k).toNat 0 else a.getD (hd g k).toNat 0) else if x=(tl g k).toNat then a.getD (tl g k).toNat 0 ||| a.getD (hd g k).toNat 0 else a.getD x 0:=fun x=>by
     rw [yK,m9 (by rw [List.length_set];omega),m9 (by omega)]
    have g1:(if both=true then a.getD (tl g k).toNat 0 ||| a.getD (hd g k).toNat 0 else a.getD (hd g k).toNat 0)=a.getD (hd g k).toNat 0:=by
     have:=oq (oL (hd g k).toNat)
     rw [sS,if_pos rfl] at this
     split at this
     ·rename_i hb
      rw [if_pos hb]
      exact Nat.le_antisymm this Nat.right_le_or
     ·rename_i hb;rw [if_neg hb]
    refine ⟨?_,g1⟩
    by_cases heq:(tl g k).toNat=(hd g k).toNat
    ·rw [heq,Nat.or_self]
    ·have:=oq (oL (tl g k).toNat)
     rw [sS,if_neg heq,if_pos rfl] at this
     exact Nat.le_antisymm this Nat.left_le_or
   ·rw [if_neg hc];exact ih
 rw [key _ (Nat.le_refl _)] at hne
 cases hne
theorem D8 {g:Gr} (hm:aM g=true) {both:Bool} {c:Nat→Bool} {a:List Nat} (h:Ez g both c a) (hne:(bR g both c a g.es.length).2=false):a=BD g both c:=by
 obtain ⟨_,hcl⟩:=jt hne
 have comp:∀x y,x<g.n.toNat→qc g both c x y→∀w,w<g.n.toNat→qc g both c w x→True:=fun _ _ _ _ _ _ _=>trivial
 have key:∀ {x y:Nat},qc g both c x y→∀z,(a.getD y 0).testBit z=true→(a.getD x 0).testBit z=true:=by
  intro x y hR
  induction hR with
  |refl=>exact fun z hz=>hz
  | @fwd i hi hc _ ih=>
    intro z hz
    refine ih z ?_
    rw [← (hcl i hi hc).1,Nat.testBit_or,hz,Bool.or_true]
  | @Je i hi hc hb _ ih=>
    intro z hz
    refine ih z ?_
    rw [← (hcl i hi hc).2 hb];exact hz
 refine List.ext_getElem? fun x=> ?_
 by_cases hx:x<g.n.toNat
 ·have e:a.getD x 0=(BD g both c).getD x 0:=by
   rw [BF hx]
   refine Nat.eq_of_testBit_eq fun y=> ?_
   rw [Bool.eq_iff_iff,CM]
   refine ⟨h.snd x y hx,fun ⟨h1,h2⟩=>key h2 y (h.own y h1)⟩
  rw [List.getD_eq_getElem?_getD,List.getD_eq_getElem?_getD,List.getElem?_eq_getElem (by rw [h.len];exact hx),List.getElem?_eq_getElem (by rw [sH];exact hx)] at e
  rw [List.getElem?_eq_getElem (by rw [h.len];exact hx),List.getElem?_eq_getElem (by rw [sH];exact hx)]
  simpa using e
 ·rw [List.getElem?_eq_none (by rw [h.len];omega),List.getElem?_eq_none (by rw [sH];omega)]
end Go.Ab
end
section
namespace Go.Ab
open Go.Proofs
attribute [local congr] ACall.congr gd.congr Nx.congr
set_option maxRecDepth 20000
set_option maxHeartbeats 8000000
def rU (n:Nat):List D:= [.sc (.int .u64 (n:Int))]
def eU (n:Nat):AV:= .d (.sc (.int .u64 (n:Int)))
def sU (l:List Nat):D:= .sl 1 (l.map rU)
theorem getD_rU (ps:List Nat) (i:Nat):(ps.map rU).getD i [.sc (.int .u64 0)]= [.sc (.int .u64 ((ps.getD i 0:Nat):Int))]:=by
 rw [List.getD_eq_getElem?_getD,List.getElem?_map,List.getD_eq_getElem?_getD]
 cases ps[i]? <;>rfl
theorem jT (l:List Nat) (k:Nat) (v:Nat):(l.map rU).set k [.sc (.int .u64 (v:Int))]=(l.set k v).map rU:=by
 rw [List.map_set];rfl
attribute [go_sem] eU sU getD_rU InU
theorem IA {s x:Nat} :decide ((((s >>> x &&& 1:Nat)):Int)=1)=s.testBit x:=by
 rw [Bool.eq_iff_iff,decide_eq_true_eq,Nat.testBit,Nat.and_comm]
 have:1 &&& s >>> x=0∨1 &&& s >>> x=1:=by
  rw [Nat.and_comm,Nat.and_one_is_mod];omega
 rcases this with h|h<;>rw [h]<;>simp
theorem D9 (s:Nat) (hs:s<18446744073709551616) (x:Int):Spec Tryz.prog 26 (Args [eU s,eN x]) [] (eB (decide (0≤x)&&decide (x<64)&&s.testBit x.toNat)) []:=by
 by_cases h0:0≤x
 rotate_left
 ·have hb0:decide (0≤x)=false:=decide_eq_false h0
  (refine Spec.hd (C:=T.cfg [] []) (rs:= [.t 4]) (T.ah _ _) Tryz.func26 rfl rfl Tryz.ntmps26 Tryz.results26 (by simp [AObj.isNest]) (by simp [AObj.isNest]) (by kernel_rfl) T.mixed fun X hX hP hC aC bL=> ?_)
  repeat' (first|refine Rn.p ?_|(with_reducible apply And.intro)|((first|(refine hK _ ?_;clear hK K)|with_reducible intro K hK|refine Rs.p ?_|((with_reducible first|apply oP|apply oQ);exact rfl));try simp only [go_sem,simprocAttr,hb0])|((with_reducible refine oD ?_ ?_);kernel_rfl)|((with_reducible intro h);try simp only [go_sem,simprocAttr,hb0] at h)|omega|intro h)
 have hb0:decide (0≤x)=true:=decide_eq_true h0
 by_cases h1:x<64
 rotate_left
 ·have hb1:decide (x<64)=false:=decide_eq_false h1
  (refine Spec.hd (C:=T.cfg [] []) (rs:= [.t 4]) (T.ah _ _) Tryz.func26 rfl rfl Tryz.ntmps26 Tryz.results26 (by simp [AObj.isNest]) (by simp [AObj.isNest]) (by kernel_rfl) T.mixed fun X hX hP hC aC bL=> ?_)
  repeat' (first|refine Rn.p ?_|(with_reducible apply And.intro)|((first|(refine hK _ ?_;clear hK K)|with_reducible intro K hK|refine Rs.p ?_|((with_reducible first|apply oP|apply oQ);exact rfl));try simp only [go_sem,simprocAttr,hb0,hb1])|((with_reducible refine oD ?_ ?_);kernel_rfl)|((with_reducible intro h);try simp only [go_sem,simprocAttr,hb0,hb1] at h)|omega|intro h)
 have hb1:decide (x<64)=true:=decide_eq_true h1
 obtain ⟨i,rfl⟩:∃i:Nat,x=i:=⟨x.toNat,by omega⟩
 have hlt:s >>> i<18446744073709551616:=Nat.lt_of_le_of_lt (Nat.shiftRight_le s i) hs
 have ha:=IA (s:=s) (x:=i)
 generalize hq:s >>> i=q at hlt ha
 (refine Spec.hd (C:=T.cfg [] []) (rs:= [.t 4]) (T.ah _ _) Tryz.func26 rfl rfl Tryz.ntmps26 Tryz.results26 (by simp [AObj.isNest]) (by simp [AObj.isNest]) (by kernel_rfl) T.mixed fun X hX hP hC aC bL=> ?_)
 repeat' (first|refine Rn.p ?_|(with_reducible apply And.intro)|((first|(refine hK _ ?_;clear hK K)|with_reducible intro K hK|refine Rs.p ?_|((with_reducible first|apply oP|apply oQ);exact rfl));try simp only [go_sem,simprocAttr,hb0,hb1,hq,ha])|((with_reducible refine oD ?_ ?_);kernel_rfl)|((with_reducible intro h);try simp only [go_sem,simprocAttr,hb0,hb1,hq,ha] at h)|omega|intro h)
theorem GJ (x:Nat) (hx:x<64):Spec Tryz.prog 114 (Args [.d (.sl 1 [[.sc (.int .i64 (x:Int))]])]) [] (eU (2 ^ x)) []:=by
 have hsh:1 <<< x % 18446744073709551616=2 ^ x:=by
  rw [Nat.shiftLeft_eq,Nat.one_mul,Nat.mod_eq_of_lt]
  exact Nat.lt_of_lt_of_le (Nat.pow_lt_pow_right (by decide) hx) (by decide)
 have hlt:2 ^ x<18446744073709551616:=Nat.lt_of_lt_of_le (Nat.pow_lt_pow_right (by decide) hx) (by decide)
 have hb1:decide (0≤(x:Int))=true:=decide_eq_true (by omega)
 have hb2:decide ((x:Int)<64)=true:=decide_eq_true (by omega)
 (refine Spec.hd (C:=T.cfg [] []) (rs:= [.t 2]) (T.ah _ _) Tryz.func114 rfl rfl Tryz.ntmps114 Tryz.results114 (by simp [AObj.isNest]) (by simp [AObj.isNest]) (by kernel_rfl) T.mixed fun X hX hP hC aC bL=> ?_)
 repeat' (first|refine Rn.p ?_|(with_reducible apply And.intro)|((first|(refine hK _ ?_;clear hK K)|with_reducible intro K hK|refine Rs.p ?_|((with_reducible first|apply oP|apply oQ);exact rfl));try simp only [go_sem,simprocAttr])|((with_reducible refine oD ?_ ?_);kernel_rfl)|((with_reducible intro h);try simp only [go_sem,simprocAttr] at h)|omega|intro h)
 refine ag (fun k:Nat=>k≤1) (fun k=>⟨[(2,eU (if k=0 then 0 else 2 ^ x)),(5, .d (.sl 1 [[.sc (.int .i64 (x:Int))]])),(6,eN 1),(7,eN k)], []⟩) (fun k=>1 - k) 0 (by omega) ?_ ?_
 ·refine Le.of ?_ ?_<;>simp [go_sem,simprocAttr]
 rintro k hk
 match k,hk with
 |0,_=>
  repeat' (first|refine Rn.p ?_|(with_reducible apply And.intro)|((first|(refine hK _ ?_;clear hK K)|with_reducible intro K hK|refine Rs.p ?_|((with_reducible first|apply oP|apply oQ);exact rfl));try simp only [go_sem,simprocAttr,hsh,hb1,hb2,Nat.zero_or])|((with_reducible refine oD ?_ ?_);kernel_rfl)|((with_reducible intro h);try simp only [go_sem,simprocAttr,hsh,hb1,hb2,Nat.zero_or] at h)|omega|intro h)
  all_goals (refine ⟨1,by omega, ?_,by omega⟩)
  all_goals (refine Le.of ?_ ?_<;>simp [go_sem,simprocAttr,hsh,hb1,hb2,Nat.zero_or])
 |1,_=>
  repeat' (first|refine Rn.p ?_|(with_reducible apply And.intro)|((first|(refine hK _ ?_;clear hK K)|with_reducible intro K hK|refine Rs.p ?_|((with_reducible first|apply oP|apply oQ);exact rfl));try simp only [go_sem,simprocAttr])|((with_reducible refine oD ?_ ?_);kernel_rfl)|((with_reducible intro h);try simp only [go_sem,simprocAttr] at h)|omega|intro h)
end Go.Ab
end
section
namespace Go.Ab
open Go.Proofs
attribute [local congr] ACall.congr gd.congr Nx.congr
set_option maxRecDepth 20000
set_option maxHeartbeats 8000000
def qI (k:Nat):List Nat:=(List.range k).map fun x=>2 ^ x
theorem Ea {k:Nat} :qI (k+1)=qI k++ [2 ^ k]:=by simp [qI,List.range_succ]
theorem va {k:Nat} :(qI k).length=k:=by simp [qI]
def jN (g:Gr):List Nat:=if aM g=true then qI g.n.toNat else []
theorem BH (g:Gr) (hl:g.es.length≤9223372036854775807):Spec Tryz.prog 64 (Args [eG g]) [] (.ref 10000) [(10000, .own 49 1 ((jN g).map rU))]:=by
 have hM:=fW g hl
 cases hm:aM g with
 |false=>
  rw [hm] at hM
  have he:jN g= []:=by unfold jN;rw [hm];rfl
  rw [he]
  (refine Spec.si (C:=T.cfg [200,17] []) (rs:= [.t 2]) [(10000,200)] (T.ah _ _) Tryz.func64 rfl rfl Tryz.ntmps64 Tryz.results64 (by simp [AObj.isNest]) (by simp [AObj.isNest]) (by first|(simp [look];done)|(simp [asN];done)|(intro l hl;simp only [asN];repeat (rw [if_neg (fun e=>by subst e;simp [look] at hl)]))) (by first|(simp [look];done)|(simp [asN];done)|(intro l hl;simp only [asN];repeat (rw [if_neg (fun e=>by subst e;simp [look] at hl)]))) (by kernel_rfl) T.mixed fun X hX hP hC aC bL=> ?_)
  repeat' (first|(show bS _ .ret _ _;(try simp only [go_sem,simprocAttr]);refine dQ hX 2 200 (.own 49 1 []) ?_ ?_ (by decide) ⟨49,1,by decide, .inl rfl⟩ ?_;(iterate 2 (focus (simp only [go_sem,simprocAttr];done)));simp only [go_sem,simprocAttr])|refine Rn.p ?_|(with_reducible apply And.intro)|((first|(refine hK _ ?_;clear hK K)|with_reducible intro K hK|refine Rs.p ?_|((with_reducible first|apply oP|apply oQ);exact rfl)|refine aa hX hC hP (hM) rfl rfl rfl (by simp only [go_sem,simprocAttr]) rfl ?_);try simp only [go_sem,simprocAttr])|((with_reducible refine oD ?_ ?_);kernel_rfl)|((with_reducible intro h);try simp only [go_sem,simprocAttr] at h)|omega|intro h)
 |true=>
  rw [hm] at hM
  have hn:=aE hm
  have he:jN g=qI g.n.toNat:=by unfold jN;rw [if_pos hm]
  rw [he]
  (refine Spec.si (C:=T.cfg [200,17] []) (rs:= [.t 2]) [(10000,200)] (T.ah _ _) Tryz.func64 rfl rfl Tryz.ntmps64 Tryz.results64 (by simp [AObj.isNest]) (by simp [AObj.isNest]) (by first|(simp [look];done)|(simp [asN];done)|(intro l hl;simp only [asN];repeat (rw [if_neg (fun e=>by subst e;simp [look] at hl)]))) (by first|(simp [look];done)|(simp [asN];done)|(intro l hl;simp only [asN];repeat (rw [if_neg (fun e=>by subst e;simp [look] at hl)]))) (by kernel_rfl) T.mixed fun X hX hP hC aC bL=> ?_)
  repeat' (first|(show bS _ (.seq (.region 3 _ _) _) _ _;(refine dQ hX 2 200 (.own 49 1 []) ?_ ?_ (by decide) ⟨49,1,by decide, .inl rfl⟩ ?_;(iterate 2 (focus (simp only [go_sem,simprocAttr];done)));simp only [go_sem,simprocAttr]))|refine Rn.p ?_|(with_reducible apply And.intro)|((first|(refine hK _ ?_;clear hK K)|with_reducible intro K hK|refine Rs.p ?_|((with_reducible first|apply oP|apply oQ);exact rfl)|refine aa hX hC hP (hM) rfl rfl rfl (by simp only [go_sem,simprocAttr]) rfl ?_);try simp only [go_sem,simprocAttr])|((with_reducible refine oD ?_ ?_);kernel_rfl)|((with_reducible intro h);try simp only [go_sem,simprocAttr] at h)|omega|intro h)
  refine ag (fun k:Nat=>k≤g.n.toNat) (fun k=>⟨[(2, .ref 200),(8,eN g.n),(9,eN k)], [(200, .own 49 1 ((qI k).map rU))]⟩) (fun k=>g.n.toNat - k) 0 (by omega) ?_ ?_
  ·refine Le.of ?_ ?_<;>simp [go_sem,simprocAttr,qI]
  rintro k hk
  rcases Nat.lt_or_ge k g.n.toNat with hlt|hge
  ·have hb:decide ((k:Int)<g.n)=true:=decide_eq_true (by omega)
   have rD:=va (k:=k)
   have bN:=Ea (k:=k)
   have Sn:=GJ k (by omega)
   generalize qI k=O1 at rD bN
   repeat' (first|(show bS _ (.region 7 _ _) _ _;(refine jQ hX 2 17 200 (by simp only [go_sem,simprocAttr,hb,rD]) rfl (by first|exact .inl rfl|exact .inr rfl) (by decide) ?_;simp only [go_sem,simprocAttr,hb,rD]))|refine Rn.p ?_|(with_reducible apply And.intro)|((first|(refine hK _ ?_;clear hK K)|with_reducible intro K hK|refine Rs.p ?_|((with_reducible first|apply oP|apply oQ);exact rfl)|(refine cM hX hC hP (Sn) rfl rfl rfl ?_ ?_ rfl ?_;iterate 2 (focus (simp only [go_sem,simprocAttr,hb,rD];done))));try simp only [go_sem,simprocAttr,hb,rD])|((with_reducible refine oD ?_ ?_);kernel_rfl)|((with_reducible intro h);try simp only [go_sem,simprocAttr,hb,rD] at h)|omega|intro h)
   refine ⟨k+1,by omega, ?_,by omega⟩
   rw [bN]
   refine Le.of ?_ ?_<;>simp [go_sem,simprocAttr,hb,rD,rU]
  ·have hb:decide ((k:Int)<g.n)=false:=decide_eq_false (by omega)
   obtain rfl:k=g.n.toNat:=by omega
   repeat' (first|refine Rn.p ?_|(with_reducible apply And.intro)|((first|(refine hK _ ?_;clear hK K)|with_reducible intro K hK|refine Rs.p ?_|((with_reducible first|apply oP|apply oQ);exact rfl));try simp only [go_sem,simprocAttr,hb])|((with_reducible refine oD ?_ ?_);kernel_rfl)|((with_reducible intro h);try simp only [go_sem,simprocAttr,hb] at h)|omega|intro h)
theorem Ql {a b:Nat} :(!decide ((a:Int)=(b:Int)))=decide (a≠b):=by
 by_cases h:a=b
 ·simp [h]
 ·simp [h];omega
theorem IB {g:Gr} (hn:g.n.toNat≤64) (both:Bool) (c:Nat→Bool):∃M:Nat,∀b:List Nat,Ez g both c b→u9 b≤M:=
 ⟨_,fun b hb=>by have:=Au (a:=b) fun x=>hb.lt hn x;rw [hb.len] at this;exact this⟩
theorem uq {l:List Nat} :∀r∈l.map rU,∀x∈r,∃v,x=D.sc v:=by
 intro r hr x hx
 obtain ⟨y,_,rfl⟩:=List.mem_map.1 hr
 simp only [rU,List.mem_singleton] at hx
 exact ⟨_,hx⟩
theorem Eb {g:Gr} (hm:aM g=true) {both:Bool} {c:Nat→Bool} :Ez g both c (jN g):=by
 have he:jN g=qI g.n.toNat:=by unfold jN;rw [if_pos hm]
 have pZ:∀x,x<g.n.toNat→(qI g.n.toNat).getD x 0=2 ^ x:=fun x hx=>by simp [qI,List.getD_eq_getElem?_getD,List.getElem?_range hx]
 rw [he]
 refine ⟨va,fun x hx=>by rw [pZ x hx,Nat.testBit_two_pow_self],fun x y hx hb=> ?_⟩
 rw [pZ x hx,Nat.testBit_two_pow] at hb
 have:x=y:=of_decide_eq_true hb
 subst this
 exact ⟨hx, .refl⟩
noncomputable def TE (g:Gr):List Nat:=if aM g=true then BD g false (fun _=>true) else []
end Go.Ab
end
section
namespace Go.Ab
open Go.Proofs
attribute [local congr] ACall.congr gd.congr Nx.congr
set_option maxRecDepth 20000
set_option maxHeartbeats 8000000
theorem BI (g:Gr) (hm:aM g=true) (both:Bool) (c:Nat→Bool) (F:Nat) (i0:Int) (hF:∀i:Nat,i<g.es.length→Spec Tryz.prog F (Args [eN i, .ptr 10001 0]) [(10001, .rob [eN i0])] (eB (c i)) [(10001, .rob [eN i0])]) (a0:List Nat) (h0:Ez g both c a0):
 Spec Tryz.prog 65 (Args [eG g, .ref 10000,eB both, .fn F [] [.ptr 10001 0]]) [(10000, .own 49 1 (a0.map rU)),(10001, .box [eN i0])] (.tup []) [(10000, .own 49 1 ((BD g both c).map rU)),(10001, .box [eN i0])]:=by
 have hn:=aE hm
 obtain ⟨M,hM⟩:=IB (g:=g) (by omega) both c
 (refine Spec.hd (C:=T.cfg [] []) (rs:= []) (T.ah _ _) Tryz.func65 rfl rfl Tryz.ntmps65 Tryz.results65 (by simp [AObj.isNest]) (by simp [AObj.isNest]) (by kernel_rfl) T.mixed fun X hX hP hC aC bL=> ?_)
 repeat' (first|refine Rn.p ?_|(with_reducible apply And.intro)|((first|(refine hK _ ?_;clear hK K)|with_reducible intro K hK|refine Rs.p ?_|((with_reducible first|apply oP|apply oQ);exact rfl));try simp only [go_sem,simprocAttr])|((with_reducible refine oD ?_ ?_);kernel_rfl)|((with_reducible intro h);try simp only [go_sem,simprocAttr] at h)|omega|intro h)
 refine ag (fun s:List Nat × Bool=>Ez g both c s.1∧(s.2=false→s.1=BD g both c)) (fun s=>⟨[(1, .ref 10000),(2,eB both),(3, .fn F [] [.ptr 10001 0]),(4, .ptr 4 0),(8,eB s.2)], [(10000, .own 49 1 (s.1.map rU)),(10001, .box [eN i0]),(4, .box [eN g.n, .d (sE g.es)])]⟩) (fun s=>2*(M - u9 s.1)+(if s.2=true then 1 else 0)) (a0,true) ⟨h0,by simp⟩ ?_ ?_
 ·refine Le.of ?_ ?_<;>simp [go_sem,simprocAttr]
 rintro ⟨a,more⟩ ⟨hG,oL⟩
 simp only at hG oL ⊢
 cases more with
 |false=>
  have:=oL rfl
  subst this
  repeat' (first|refine Rn.p ?_|(with_reducible apply And.intro)|((first|(refine hK _ ?_;clear hK K)|with_reducible intro K hK|refine Rs.p ?_|((with_reducible first|apply oP|apply oQ);exact rfl));try simp only [go_sem,simprocAttr])|((with_reducible refine oD ?_ ?_);kernel_rfl)|((with_reducible intro h);try simp only [go_sem,simprocAttr] at h)|omega|intro h)
 |true=>
 repeat' (first|refine Rn.p ?_|(with_reducible apply And.intro)|((first|(refine hK _ ?_;clear hK K)|with_reducible intro K hK|refine Rs.p ?_|((with_reducible first|apply oP|apply oQ);exact rfl));try simp only [go_sem,simprocAttr])|((with_reducible refine oD ?_ ?_);kernel_rfl)|((with_reducible intro h);try simp only [go_sem,simprocAttr] at h)|omega|intro h)
 refine ag (fun k:Nat=>k≤g.es.length) (fun k=>⟨[(1, .ref 10000),(2,eB both),(3, .fn F [] [.ptr 10001 0]),(4, .ptr 4 0),(8,eB (bR g both c a k).2),(15, .d (sE g.es)),(16,eN g.es.length),(17,eN k)], [(10000, .own 49 1 ((bR g both c a k).1.map rU)),(10001, .box [eN i0]),(4, .box [eN g.n, .d (sE g.es)])]⟩) (fun k=>g.es.length - k) 0 (by omega) ?_ ?_
 ·refine Le.of ?_ ?_<;>simp [go_sem,simprocAttr,bR]
 rintro k hk
 rcases Nat.lt_or_ge k g.es.length with hlt|hge
 rotate_left
 ·have hb:decide ((k:Int)<(g.es.length:Int))=false:=decide_eq_false (by omega)
  obtain rfl:k=g.es.length:=by omega
  obtain ⟨i1,_⟩:=iY hm hG (Nat.le_refl g.es.length)
  have Mz:=BG hm hG
  have Jf:=jt (g:=g) (both:=both) (c:=c) (a:=a) (k:=g.es.length)
  have hdone:=D8 hm hG
  have B5:=hM _ i1
  generalize bR g both c a g.es.length=R at*
  repeat' (first|refine Rn.p ?_|(with_reducible apply And.intro)|((first|(refine hK _ ?_;clear hK K)|with_reducible intro K hK|refine Rs.p ?_|((with_reducible first|apply oP|apply oQ);exact rfl));try simp only [go_sem,simprocAttr,hb])|((with_reducible refine oD ?_ ?_);kernel_rfl)|((with_reducible intro h);try simp only [go_sem,simprocAttr,hb] at h)|omega|intro h)
  refine ⟨(R.1,R.2),⟨i1,fun hf=> ?_⟩, ?_, ?_⟩
  ·rw [(Jf hf).1];exact hdone hf
  ·refine Le.of ?_ ?_<;>simp [go_sem,simprocAttr,hb]
  ·cases Nh:R.2 with
   |true=>have:=Mz Nh;simp;omega
   |false=>rw [(Jf Nh).1];simp
 have hb:decide ((k:Int)<(g.es.length:Int))=true:=decide_eq_true (by omega)
 obtain ⟨Ni,_⟩:=iY hm hG (k:=k) (by omega)
 obtain ⟨ht,hh⟩:=cE hm hlt
 have MA:=hF k hlt
 have ou:=Ni.len
 have D4:=Ni.lt (by omega)
 obtain ⟨x,hx⟩:∃x:Nat,(g.es.getD k (0,0)).1=x:=⟨(g.es.getD k (0,0)).1.toNat,by omega⟩
 obtain ⟨y,hy⟩:∃y:Nat,(g.es.getD k (0,0)).2=y:=⟨(g.es.getD k (0,0)).2.toNat,by omega⟩
 have htl:(tl g k).toNat=x:=by show ((g.es.getD k (0,0)).1).toNat=x;rw [hx];rfl
 have Bx:(hd g k).toNat=y:=by show ((g.es.getD k (0,0)).2).toNat=y;rw [hy];rfl
 have bN:bR g both c a (k+1)=if c k=true then ((((bR g both c a k).1.set x ((bR g both c a k).1.getD x 0 ||| (bR g both c a k).1.getD y 0)).set y (if both=true then (bR g both c a k).1.getD x 0 ||| (bR g both c a k).1.getD y 0 else (bR g both c a k).1.getD y 0)),(bR g both c a k).2||(decide ((bR g both c a k).1.getD x 0 ||| (bR g both c a k).1.getD y 0≠(bR g both c a k).1.getD x 0)||decide ((if both=true then (bR g both c a k).1.getD x 0 ||| (bR g both c a k).1.getD y 0 else (bR g both c a k).1.getD y 0)≠(bR g both c a k).1.getD y 0))) else bR g both c a k:=by
  simp only [bR,htl,Bx]
 generalize bR g both c a k=R at Ni ou D4 bN
 obtain ⟨A,m1⟩:=R
 simp only at Ni ou D4 bN ⊢
 have Sq:=D4 x
 have Sr:=D4 y
 cases hc:c k with
 |false=>
  rw [hc] at MA bN
  repeat' (first|refine Rn.p ?_|(with_reducible apply And.intro)|((first|(refine hK _ ?_;clear hK K)|with_reducible intro K hK|refine Rs.p ?_|((with_reducible first|apply oP|apply oQ);exact rfl)|(refine aI hX hC hP [(10001,10001)] (MA) rfl rfl rfl ?_ ?_ ?_ ?_ ?_ ?_ rfl rfl ?_ ?_;(focus (simp only [go_sem,simprocAttr,hb,hx,hy];done));(iterate 6 (focus (simp [go_sem,simprocAttr,hb,hx,hy];done)));try simp only [List.map_cons,List.map_nil]));try simp only [go_sem,simprocAttr,hb,hx,hy])|((with_reducible refine oD ?_ ?_);kernel_rfl)|((with_reducible intro h);try simp only [go_sem,simprocAttr,hb,hx,hy] at h)|omega|intro h)
  refine ⟨k+1,by omega, ?_,by omega⟩
  rw [bN]
  refine Le.of ?_ ?_<;>simp [go_sem,simprocAttr,hb,hx,hy]
 |true=>
  rw [hc] at MA bN
  rw [if_pos rfl] at bN
  have n1:=Ql (a:=A.getD x 0 ||| A.getD y 0) (b:=A.getD x 0)
  have n2:=Ql (a:=if both=true then A.getD x 0 ||| A.getD y 0 else A.getD y 0) (b:=A.getD y 0)
  have Pn:A.getD x 0 ||| A.getD y 0<18446744073709551616:=Nat.or_lt_two_pow (n:=64) Sq Sr
  have FN:(A.set x (A.getD x 0 ||| A.getD y 0)).length=A.length:=List.length_set ..
  generalize AZ:A.getD x 0 ||| A.getD y 0=t at n1 n2 bN Pn FN
  generalize GK:decide (t≠A.getD x 0)=d1 at n1 bN
  cases both with
  |true=>
   rw [if_pos rfl] at n2 bN
   generalize yx:decide (t≠A.getD y 0)=d2 at n2 bN
   clear GK yx
   cases m1<;>cases d1<;>cases d2<;>simp only [Bool.or_false,Bool.or_true,Bool.false_or,Bool.true_or] at bN
   all_goals (repeat' (first|refine Rn.p ?_|(with_reducible apply And.intro)|((first|(refine hK _ ?_;clear hK K)|with_reducible intro K hK|refine Rs.p ?_|((with_reducible first|apply oP|apply oQ);exact rfl)|(refine aI hX hC hP [(10001,10001)] (MA) rfl rfl rfl ?_ ?_ ?_ ?_ ?_ ?_ rfl rfl ?_ ?_;(focus (simp only [go_sem,simprocAttr,hb,hx,hy,AZ,n1,n2,ou,jT,List.length_set];done));(iterate 6 (focus (simp [go_sem,simprocAttr,hb,hx,hy,AZ,n1,n2,ou,jT,List.length_set];done)));try simp only [List.map_cons,List.map_nil]));try simp only [go_sem,simprocAttr,hb,hx,hy,AZ,n1,n2,ou,jT,List.length_set])|((with_reducible refine oD ?_ ?_);kernel_rfl)|((with_reducible intro h);try simp only [go_sem,simprocAttr,hb,hx,hy,AZ,n1,n2,ou,jT,List.length_set] at h)|omega|intro h))
   all_goals (refine ⟨k+1,by omega, ?_,by omega⟩)
   all_goals (rw [bN])
   all_goals (refine Le.of ?_ ?_<;>simp [go_sem,simprocAttr,hb,hx,hy,AZ,n1,n2,ou,jT,List.length_set])
  |false=>
   rw [if_neg (by simp)] at n2 bN
   have yx:decide (A.getD y 0≠A.getD y 0)=false:=decide_eq_false fun h=>h rfl
   rw [yx] at n2 bN
   clear GK
   cases m1<;>cases d1<;>simp only [Bool.or_false,Bool.or_true,Bool.false_or,Bool.true_or] at bN
   all_goals (repeat' (first|refine Rn.p ?_|(with_reducible apply And.intro)|((first|(refine hK _ ?_;clear hK K)|with_reducible intro K hK|refine Rs.p ?_|((with_reducible first|apply oP|apply oQ);exact rfl)|(refine aI hX hC hP [(10001,10001)] (MA) rfl rfl rfl ?_ ?_ ?_ ?_ ?_ ?_ rfl rfl ?_ ?_;(focus (simp only [go_sem,simprocAttr,hb,hx,hy,AZ,n1,n2,ou,jT,List.length_set];done));(iterate 6 (focus (simp [go_sem,simprocAttr,hb,hx,hy,AZ,n1,n2,ou,jT,List.length_set];done)));try simp only [List.map_cons,List.map_nil]));try simp only [go_sem,simprocAttr,hb,hx,hy,AZ,n1,n2,ou,jT,List.length_set])|((with_reducible refine oD ?_ ?_);kernel_rfl)|((with_reducible intro h);try simp only [go_sem,simprocAttr,hb,hx,hy,AZ,n1,n2,ou,jT,List.length_set] at h)|omega|intro h))
   all_goals (refine ⟨k+1,by omega, ?_,by omega⟩)
   all_goals (rw [bN])
   all_goals (refine Le.of ?_ ?_<;>simp [go_sem,simprocAttr,hb,hx,hy,AZ,n1,n2,ou,jT,List.length_set])
theorem GL (i k:Int):Spec Tryz.prog 87 (Args [eN k, .ptr 10001 0]) [(10001, .rob [eN i])] (eB (!decide (k=i))) [(10001, .rob [eN i])]:=by
 (refine Spec.hd (C:=T.cfg [] []) (rs:= [.t 3]) (T.ah _ _) Tryz.func87 rfl rfl Tryz.ntmps87 Tryz.results87 (by simp [AObj.isNest]) (by simp [AObj.isNest]) (by kernel_rfl) T.mixed fun X hX hP hC aC bL=> ?_)
 repeat' (first|refine Rn.p ?_|(with_reducible apply And.intro)|((first|(refine hK _ ?_;clear hK K)|with_reducible intro K hK|refine Rs.p ?_|((with_reducible first|apply oP|apply oQ);exact rfl));try simp only [go_sem,simprocAttr])|((with_reducible refine oD ?_ ?_);kernel_rfl)|((with_reducible intro h);try simp only [go_sem,simprocAttr] at h)|omega|intro h)
def yB (i:Nat) (k:Nat):Bool:= !decide ((k:Int)=(i:Int))
noncomputable def Ec (g:Gr) (i:Nat):Bool:=((BD g false (yB i)).getD (tl g i).toNat 0).testBit (hd g i).toNat
noncomputable def yC (g:Gr) (k:Nat):List Int:=((List.range k).filter fun i=>Ec g i).map fun i:Nat=>(i:Int)
noncomputable def fz (g:Gr):List Int:=if aM g=true then yC g g.es.length else []
theorem mC {g:Gr} {k:Nat} :yC g (k+1)=if Ec g k=true then yC g k++ [(k:Int)] else yC g k:=by
 unfold yC
 rw [List.range_succ,List.filter_append,List.map_append]
 cases h:Ec g k with
 |true=>rw [if_pos rfl,List.filter_cons,if_pos h];rfl
 |false=>rw [if_neg (by simp),List.filter_cons,if_neg (by rw [h];decide)];simp
theorem sJ {g:Gr} {k:Nat} :(yC g k).length≤k:=by
 unfold yC
 rw [List.length_map]
 exact Nat.le_trans (List.length_filter_le _ _) (by simp)
theorem CO (g:Gr) (hl:g.es.length≤9223372036854775807):Spec Tryz.prog 42 (Args [eG g]) [] (.d (sI (fz g))) []:=by
 have hE:=BH g hl
 (refine Spec.hd (C:=T.cfg [200,34,33] []) (rs:= [.t 2]) (T.ah _ _) Tryz.func42 rfl rfl Tryz.ntmps42 Tryz.results42 (by simp [AObj.isNest]) (by simp [AObj.isNest]) (by kernel_rfl) T.mixed fun X hX hP hC aC bL=> ?_)
 repeat' (first|(show bS _ (.seq (.region 1 _ _) _) _ _;(refine dQ hX 2 200 (.own 3 1 []) ?_ ?_ (by decide) ⟨3,1,by decide, .inl rfl⟩ ?_;(iterate 2 (focus (simp only [go_sem,simprocAttr];done)));simp only [go_sem,simprocAttr]))|refine Rn.p ?_|(with_reducible apply And.intro)|((first|(refine hK _ ?_;clear hK K)|with_reducible intro K hK|refine Rs.p ?_|((with_reducible first|apply oP|apply oQ);exact rfl));try simp only [go_sem,simprocAttr])|((with_reducible refine oD ?_ ?_);kernel_rfl)|((with_reducible intro h);try simp only [go_sem,simprocAttr] at h)|omega|intro h)
 have hm0:aM g=false→fz g= []:=fun h=>by unfold fz;rw [h];rfl
 cases hm:aM g with
 |false=>
  have hU:jN g= []:=by unfold jN;rw [hm];rfl
  rw [hU] at hE
  rw [hm0 hm]
  cases AK:g.es with
  |nil=>
   refine ag (fun k:Nat=>k=0) (fun _=>⟨[(1, .ptr 1 0),(2, .ref 200),(7, .d (sE [])),(8,eN 0),(9,eN 0)], [(1, .box [eN g.n, .d (sE [])]),(200, .own 3 1 [])]⟩) (fun _=>0) 0 rfl ?_ ?_
   ·refine Le.of ?_ ?_<;>simp [go_sem,simprocAttr,AK]
   rintro k rfl
   repeat' (first|refine Rn.p ?_|(with_reducible apply And.intro)|((first|(refine hK _ ?_;clear hK K)|with_reducible intro K hK|refine Rs.p ?_|((with_reducible first|apply oP|apply oQ);exact rfl));try simp only [go_sem,simprocAttr])|((with_reducible refine oD ?_ ?_);kernel_rfl)|((with_reducible intro h);try simp only [go_sem,simprocAttr] at h)|omega|intro h)
  |cons q r=>
   have hq:g.es.length=r.length+1:=by rw [AK];rfl
   have hb:decide ((0:Int)<((r.length+1:Nat):Int))=true:=decide_eq_true (by omega)
   refine ag (fun k:Nat=>k=0) (fun _=>⟨[(1, .ptr 1 0),(2, .ref 200),(7, .d (sE g.es)),(8,eN ((r.length+1:Nat):Int)),(9,eN 0)], [(1, .box [eN g.n, .d (sE g.es)]),(200, .own 3 1 [])]⟩) (fun _=>0) 0 rfl ?_ ?_
   ·refine Le.of ?_ ?_<;>simp [go_sem,simprocAttr,AK]
   rintro k rfl
   repeat' (first|refine Rn.p ?_|(with_reducible apply And.intro)|((first|(refine hK _ ?_;clear hK K)|with_reducible intro K hK|refine Rs.p ?_|((with_reducible first|apply oP|apply oQ);exact rfl)|(refine iA hX hC hP 15 (hE) rfl rfl rfl ?_ ?_ (by first|exact ⟨_,_,_,rfl,uk⟩|exact ⟨_,_,_,rfl,um⟩|exact ⟨_,_,_,rfl,uq⟩) rfl (by decide) ?_;(iterate 2 (focus (simp only [go_sem,simprocAttr,hb];done)));simp only [go_sem,simprocAttr,hb]));try simp only [go_sem,simprocAttr,hb])|((with_reducible refine oD ?_ ?_);kernel_rfl)|((with_reducible intro h);try simp only [go_sem,simprocAttr,hb] at h)|omega|intro h)
 |true=>
  have hn:=aE hm
  have he:(jN g).length=g.n.toNat:=by unfold jN;rw [if_pos hm];exact va
  have hb0:decide ((g.n.toNat:Int)=0)=false:=decide_eq_false (by omega)
  have hT:fz g=yC g g.es.length:=if_pos hm
  rw [hT]
  have hG:=fun i:Nat=>BI g hm false (yB i) 87 (i:Int) (fun k _=>GL (i:Int) (k:Int)) (jN g) (Eb hm)
  generalize jN g=U at hE he hG
  refine ag (fun k:Nat=>k≤g.es.length) (fun k=>⟨[(1, .ptr 1 0),(2, .ref 200),(7, .d (sE g.es)),(8,eN g.es.length),(9,eN k)], [(1, .box [eN g.n, .d (sE g.es)]),(200, .own 3 1 ((yC g k).map rI))]⟩) (fun k=>g.es.length - k) 0 (by omega) ?_ ?_
  ·refine Le.of ?_ ?_<;>simp [go_sem,simprocAttr,yC]
  rintro k hk
  rcases Nat.lt_or_ge k g.es.length with hlt|hge
  rotate_left
  ·have hb:decide ((k:Int)<(g.es.length:Int))=false:=decide_eq_false (by omega)
   obtain rfl:k=g.es.length:=by omega
   repeat' (first|refine Rn.p ?_|(with_reducible apply And.intro)|((first|(refine hK _ ?_;clear hK K)|with_reducible intro K hK|refine Rs.p ?_|((with_reducible first|apply oP|apply oQ);exact rfl));try simp only [go_sem,simprocAttr,hb])|((with_reducible refine oD ?_ ?_);kernel_rfl)|((with_reducible intro h);try simp only [go_sem,simprocAttr,hb] at h)|omega|intro h)
  have hb:decide ((k:Int)<(g.es.length:Int))=true:=decide_eq_true (by omega)
  have Po:=hG k
  have bN:=mC (g:=g) (k:=k)
  have sq:=sJ (g:=g) (k:=k)
  obtain ⟨ht,hh⟩:=cE hm hlt
  obtain ⟨x,hx⟩:∃x:Nat,(g.es.getD k (0,0)).1=x:=⟨(g.es.getD k (0,0)).1.toNat,by omega⟩
  obtain ⟨y,hy⟩:∃y:Nat,(g.es.getD k (0,0)).2=y:=⟨(g.es.getD k (0,0)).2.toNat,by omega⟩
  rw [hx] at ht
  rw [hy] at hh
  have KY:Ec g k=((BD g false (yB k)).getD x 0).testBit y:=by
   unfold Ec
   rw [show (tl g k).toNat=x by show ((g.es.getD k (0,0)).1).toNat=x;rw [hx];rfl,show (hd g k).toNat=y by show ((g.es.getD k (0,0)).2).toNat=y;rw [hy];rfl]
  have hrl:(BD g false (yB k)).length=g.n.toNat:=sH
  have hH:=D9 ((BD g false (yB k)).getD x 0) (by
   rw [BF (by omega)]
   exact Nat.lt_of_lt_of_le Iz (Nat.pow_le_pow_right (by decide) (show g.n.toNat≤64 by omega))) (y:Int)
  rw [show (decide ((0:Int)≤(y:Int))&&decide ((y:Int)<64)&&((BD g false (yB k)).getD x 0).testBit ((y:Int)).toNat)=Ec g k by
   rw [KY,decide_eq_true (show (0:Int)≤(y:Int) by omega),decide_eq_true (show (y:Int)<64 by omega)];rfl] at hH
  generalize BD g false (yB k)=R at Po hrl hH
  generalize yC g k=O at bN sq
  cases hB:Ec g k with
  |true=>
   rw [hB] at hH
   rw [hB,if_pos rfl] at bN
   repeat' (first|(show bS _ (.region 10 _ _) _ _;(refine jQ hX 2 34 200 (by simp only [go_sem,simprocAttr,hb,hb0,he,hx,hy,hrl]) rfl (by first|exact .inl rfl|exact .inr rfl) (by decide) ?_;simp only [go_sem,simprocAttr,hb,hb0,he,hx,hy,hrl]))|refine Rn.p ?_|(with_reducible apply And.intro)|((first|(refine hK _ ?_;clear hK K)|with_reducible intro K hK|refine Rs.p ?_|((with_reducible first|apply oP|apply oQ);exact rfl)|(refine iA hX hC hP 15 (hE) rfl rfl rfl ?_ ?_ (by first|exact ⟨_,_,_,rfl,uk⟩|exact ⟨_,_,_,rfl,um⟩|exact ⟨_,_,_,rfl,uq⟩) rfl (by decide) ?_;(iterate 2 (focus (simp only [go_sem,simprocAttr,hb,hb0,he,hx,hy,hrl];done)));simp only [go_sem,simprocAttr,hb,hb0,he,hx,hy,hrl])|(refine aj hX hC hP [(10000,15),(10001,3)] (Po) rfl rfl rfl ?_ ?_ ?_ ?_ ?_ ?_ ?_ ?_ ?_ ?_ ?_ ?_ ?_ ?_;(focus (simp only [go_sem,simprocAttr,hb,hb0,he,hx,hy,hrl];done));(iterate 12 (focus (simp [go_sem,simprocAttr,hb,hb0,he,hx,hy,hrl];done)));try simp only [List.map_cons,List.map_nil])|refine aa hX hC hP (hH) rfl rfl rfl (by simp only [go_sem,simprocAttr,hb,hb0,he,hx,hy,hrl]) rfl ?_);try simp only [go_sem,simprocAttr,hb,hb0,he,hx,hy,hrl])|((with_reducible refine oD ?_ ?_);kernel_rfl)|((with_reducible intro h);try simp only [go_sem,simprocAttr,hb,hb0,he,hx,hy,hrl] at h)|omega|intro h)
   refine ⟨k+1,by omega, ?_,by omega⟩
   rw [bN]
   refine Le.of ?_ ?_<;>simp [go_sem,simprocAttr,hb,hb0,he,hx,hy,hrl,rI]
  |false=>
   rw [hB] at hH
   rw [hB,if_neg (by simp)] at bN
   repeat' (first|refine Rn.p ?_|(with_reducible apply And.intro)|((first|(refine hK _ ?_;clear hK K)|with_reducible intro K hK|refine Rs.p ?_|((with_reducible first|apply oP|apply oQ);exact rfl)|(refine iA hX hC hP 15 (hE) rfl rfl rfl ?_ ?_ (by first|exact ⟨_,_,_,rfl,uk⟩|exact ⟨_,_,_,rfl,um⟩|exact ⟨_,_,_,rfl,uq⟩) rfl (by decide) ?_;(iterate 2 (focus (simp only [go_sem,simprocAttr,hb,hb0,he,hx,hy,hrl];done)));simp only [go_sem,simprocAttr,hb,hb0,he,hx,hy,hrl])|(refine aj hX hC hP [(10000,15),(10001,3)] (Po) rfl rfl rfl ?_ ?_ ?_ ?_ ?_ ?_ ?_ ?_ ?_ ?_ ?_ ?_ ?_ ?_;(focus (simp only [go_sem,simprocAttr,hb,hb0,he,hx,hy,hrl];done));(iterate 12 (focus (simp [go_sem,simprocAttr,hb,hb0,he,hx,hy,hrl];done)));try simp only [List.map_cons,List.map_nil])|refine aa hX hC hP (hH) rfl rfl rfl (by simp only [go_sem,simprocAttr,hb,hb0,he,hx,hy,hrl]) rfl ?_);try simp only [go_sem,simprocAttr,hb,hb0,he,hx,hy,hrl])|((with_reducible refine oD ?_ ?_);kernel_rfl)|((with_reducible intro h);try simp only [go_sem,simprocAttr,hb,hb0,he,hx,hy,hrl] at h)|omega|intro h)
   refine ⟨k+1,by omega, ?_,by omega⟩
   rw [bN]
   refine Le.of ?_ ?_<;>simp [go_sem,simprocAttr,hb,hb0,he,hx,hy,hrl]
end Go.Ab
end
section
namespace Go.Ab
open Go.Proofs
attribute [local congr] ACall.congr gd.congr Nx.congr
set_option maxRecDepth 10000
set_option maxHeartbeats 8000000
def swapT (l:List It) (k:Nat):List It:=(List.range l.length).map fun p=>if p<k∨l.length - 1<p+k then l.getD (l.length - 1 - p) (0,0,0) else l.getD p (0,0,0)
theorem dn {l:List It} {k:Nat} :(swapT l k).length=l.length:=by simp [swapT]
theorem kL {l:List It} {k p:Nat} (h:p<l.length):(swapT l k)[p]? =some (if p<k∨l.length - 1<p+k then l.getD (l.length - 1 - p) (0,0,0) else l.getD p (0,0,0)):=by
 simp [swapT,List.getElem?_range h]
theorem ve {l:List It} {k p:Nat} (h:p<l.length) (d:It):(swapT l k).getD p d=if p<k∨l.length - 1<p+k then l.getD (l.length - 1 - p) (0,0,0) else l.getD p (0,0,0):=by
 rw [List.getD_eq_getElem?_getD,kL h];rfl
theorem BJ {l:List It} :swapT l 0=l:=by
 refine List.ext_getElem? fun i=> ?_
 by_cases hi:i<l.length
 ·rw [kL hi,if_neg (by omega),List.getD_eq_getElem?_getD,List.getElem?_eq_getElem hi];rfl
 ·rw [List.getElem?_eq_none (by rw [dn];omega),List.getElem?_eq_none (by omega)]
theorem Ee {l:List It} {k:Nat} (h:l.length≤2*k+1):swapT l k=l.reverse:=by
 refine List.ext_getElem? fun i=> ?_
 by_cases hi:i<l.length
 ·rw [kL hi,List.getElem?_reverse hi]
  split
  ·rw [List.getD_eq_getElem?_getD,List.getElem?_eq_getElem (by omega)];rfl
  ·have:i=l.length - 1 - i:=by omega
   rw [← this,List.getD_eq_getElem?_getD,List.getElem?_eq_getElem hi];rfl
 ·rw [List.getElem?_eq_none (by rw [dn];omega),List.getElem?_eq_none (by rw [List.length_reverse];omega)]
theorem BK {l:List It} {k:Nat} (h:k<l.length - 1 - k):((swapT l k).set k ((swapT l k).getD (l.length - 1 - k) (0,0,0))).set (l.length - 1 - k) ((swapT l k).getD k (0,0,0))=swapT l (k+1):=by
 refine List.ext_getElem? fun i=> ?_
 rw [List.getElem?_set,List.length_set,dn,List.getElem?_set,dn]
 by_cases hi:i<l.length
 ·rw [kL hi,kL hi,ve (by omega),ve (by omega)]
  by_cases h1:l.length - 1 - k=i
  ·rw [if_pos h1,if_pos (by omega),if_neg (by omega),if_pos (by omega)]
   congr 2;omega
  ·rw [if_neg h1]
   by_cases h2:k=i
   ·rw [if_pos h2,if_pos (by omega),if_neg (by omega),if_pos (by omega)]
    congr 2;omega
   ·rw [if_neg h2]
    congr 1
    by_cases h3:i<k∨l.length - 1<i+k
    ·rw [if_pos h3,if_pos (by omega)]
    ·rw [if_neg h3,if_neg (by omega)]
 ·rw [List.getElem?_eq_none (by rw [dn];omega),List.getElem?_eq_none (by rw [dn];omega),if_neg (by omega),if_neg (by omega)]
theorem GM (l:List It) (k:Nat) (t:It):(l.map rT).set k [.sc (.int .i64 t.1), .sc (.int .i64 t.2.1), .sc (.int .i64 t.2.2)]=(l.set k t).map rT:=by
 rw [List.map_set];rfl
theorem vG (l:List It) (hl:l.length≤1000000):Spec Tryz.prog 63 (Args [.ref 10000]) [(10000, .own 100 3 (l.map rT))] (.tup []) [(10000, .own 100 3 (l.reverse.map rT))]:=by
 (refine Spec.hd (C:=T.cfg [] []) (rs:= []) (T.ah _ _) Tryz.func63 rfl rfl Tryz.ntmps63 Tryz.results63 (by simp [AObj.isNest]) (by simp [AObj.isNest]) (by kernel_rfl) T.mixed fun X hX hP hC aC bL=> ?_)
 repeat' (first|refine Rn.p ?_|(with_reducible apply And.intro)|((first|(refine hK _ ?_;clear hK K)|with_reducible intro K hK|refine Rs.p ?_|((with_reducible first|apply oP|apply oQ);exact rfl));try simp only [go_sem,simprocAttr])|((with_reducible refine oD ?_ ?_);kernel_rfl)|((with_reducible intro h);try simp only [go_sem,simprocAttr] at h)|omega|intro h)
 refine ag (fun k:Nat=>2*k≤l.length+1) (fun k=>⟨[(0, .ref 10000),(2,eN k),(3,eN ((l.length:Int) - 1 - k))], [(10000, .own 100 3 ((swapT l k).map rT))]⟩) (fun k=>l.length+1 - k) 0 (by omega) ?_ ?_
 ·refine Le.of ?_ ?_<;>simp [go_sem,simprocAttr,BJ]
 rintro k hk
 rcases Nat.lt_or_ge (2*k+1) l.length with hlt|hge
 ·have hb:decide ((k:Int)<(l.length:Int) - 1 - (k:Int))=true:=decide_eq_true (by omega)
  have ht:((l.length:Int) - 1 - (k:Int)).toNat=l.length - 1 - k:=by omega
  repeat' (first|refine Rn.p ?_|(with_reducible apply And.intro)|((first|(refine hK _ ?_;clear hK K)|with_reducible intro K hK|refine Rs.p ?_|((with_reducible first|apply oP|apply oQ);exact rfl));try simp only [go_sem,simprocAttr,hb,ht,dn,GM,List.length_cons,List.length_nil,List.drop_succ_cons,List.drop_zero,List.drop_nil])|((with_reducible refine oD ?_ ?_);kernel_rfl)|((with_reducible intro h);try simp only [go_sem,simprocAttr,hb,ht,dn,GM,List.length_cons,List.length_nil,List.drop_succ_cons,List.drop_zero,List.drop_nil] at h)|omega|intro h)
  refine ⟨k+1,by omega, ?_,by omega⟩
  refine Le.of ?_ ?_<;>simp [go_sem,simprocAttr]
  ·omega
  ·rw [← BK (by omega),List.map_set,List.map_set]
   simp only [List.getD_eq_getElem?_getD]
   rfl
 ·have hb:decide ((k:Int)<(l.length:Int) - 1 - (k:Int))=false:=decide_eq_false (by omega)
  repeat' (first|refine Rn.p ?_|(with_reducible apply And.intro)|((first|(refine hK _ ?_;clear hK K)|with_reducible intro K hK|refine Rs.p ?_|((with_reducible first|apply oP|apply oQ);exact rfl));try simp only [go_sem,simprocAttr,hb])|((with_reducible refine oD ?_ ?_);kernel_rfl)|((with_reducible intro h);try simp only [go_sem,simprocAttr,hb] at h)|omega|intro h)
  simp only [go_sem,simprocAttr,hb,Ee hge]
theorem Av (ps:List It) (hl:ps.length≤1000000):
 Spec Tryz.prog 127 (Args [.d (sT ps)]) [] (.ref 10000) [(10000, .own 100 3 (ps.map rT))]:=by
 (refine Spec.si (C:=T.cfg [5,7] []) (rs:= [.t 2]) [(10000,7)] (T.ah _ _) Tryz.func127 rfl rfl Tryz.ntmps127 Tryz.results127 (by simp [AObj.isNest]) (by simp [AObj.isNest]) (by first|(simp [look];done)|(simp [asN];done)|(intro l hl;simp only [asN];repeat (rw [if_neg (fun e=>by subst e;simp [look] at hl)]))) (by first|(simp [look];done)|(simp [asN];done)|(intro l hl;simp only [asN];repeat (rw [if_neg (fun e=>by subst e;simp [look] at hl)]))) (by kernel_rfl) T.mixed fun X hX hP hC aC bL=> ?_)
 repeat' (first|(show bS _ .ret _ _;(try simp only [go_sem,simprocAttr]);refine dQ hX 2 7 (.own 100 3 []) ?_ ?_ (by decide) ⟨100,3,by decide, .inl rfl⟩ ?_;(iterate 2 (focus (simp only [go_sem,simprocAttr];done)));simp only [go_sem,simprocAttr])|refine Rn.p ?_|(with_reducible apply And.intro)|((first|(refine hK _ ?_;clear hK K)|with_reducible intro K hK|refine Rs.p ?_|((with_reducible first|apply oP|apply oQ);exact rfl));try simp only [go_sem,simprocAttr])|((with_reducible refine oD ?_ ?_);kernel_rfl)|((with_reducible intro h);try simp only [go_sem,simprocAttr] at h)|omega|intro h)
 exact h.symm
theorem Ef (ds:List D) (row:List It) (hr:row.length≤1000000):Spec Tryz.prog 84 (Args [.d (.pt (sT row::ds))]) [] (.ref 10000) [(10000, .own 100 3 (row.map rT))]:=by
 (refine Spec.si (C:=T.cfg [] []) (rs:= [.t 2]) [(10000,7)] (T.ah _ _) Tryz.func84 rfl rfl Tryz.ntmps84 Tryz.results84 (by simp [AObj.isNest]) (by simp [AObj.isNest]) (by first|(simp [look];done)|(simp [asN];done)|(intro l hl;simp only [asN];repeat (rw [if_neg (fun e=>by subst e;simp [look] at hl)]))) (by first|(simp [look];done)|(simp [asN];done)|(intro l hl;simp only [asN];repeat (rw [if_neg (fun e=>by subst e;simp [look] at hl)]))) (by kernel_rfl) T.mixed fun X hX hP hC aC bL=> ?_)
 repeat' (first|refine Rn.p ?_|(with_reducible apply And.intro)|((first|(refine hK _ ?_;clear hK K)|with_reducible intro K hK|refine Rs.p ?_|((with_reducible first|apply oP|apply oQ);exact rfl)|(refine aj hX hC hP [(10000,7)] (Av row hr) rfl rfl rfl ?_ ?_ ?_ ?_ ?_ ?_ ?_ ?_ ?_ ?_ ?_ ?_ ?_ ?_;(focus (simp only [go_sem,simprocAttr];done));(iterate 12 (focus (simp [go_sem,simprocAttr];done)));try simp only [List.map_cons,List.map_nil]));try simp only [go_sem,simprocAttr])|((with_reducible refine oD ?_ ?_);kernel_rfl)|((with_reducible intro h);try simp only [go_sem,simprocAttr] at h)|omega|intro h)
def xd (rs:List Int) (l:List It):Int:=match l.find? (fun t=>decide (t.2.2∈rs)) with
 |some t=>t.2.2
 |none=>rs.headD (-1)
theorem Eg (rs:List Int) (l:List It) (hr:rs≠ []) (hrl:rs.length≤1000000) (hl:l.length≤1000000):Spec Tryz.prog 112 (Args [.d (sI rs), .d (sT l)]) [] (eN (xd rs l)) []:=by
 generalize hH:xd rs l=H
 (refine Spec.hd (C:=T.cfg [] []) (rs:= [.t 4]) (T.ah _ _) Tryz.func112 rfl rfl Tryz.ntmps112 Tryz.results112 (by simp [AObj.isNest]) (by simp [AObj.isNest]) (by kernel_rfl) T.mixed fun X hX hP hC aC bL=> ?_)
 repeat' (first|refine Rn.p ?_|(with_reducible apply And.intro)|((first|(refine hK _ ?_;clear hK K)|with_reducible intro K hK|refine Rs.p ?_|((with_reducible first|apply oP|apply oQ);exact rfl));try simp only [go_sem,simprocAttr])|((with_reducible refine oD ?_ ?_);kernel_rfl)|((with_reducible intro h);try simp only [go_sem,simprocAttr] at h)|omega|intro h)
 refine ag (fun k:Nat=>k≤l.length∧∀j,j<k→(l.getD j (0,0,0)).2.2∉rs) (fun k=>⟨[(0, .d (sI rs)),(7, .d (sT l)),(8,eN l.length),(9,eN k)], []⟩) (fun k=>l.length - k) 0 (by simp) ?_ ?_
 ·(refine Le.of ?_ ?_<;>simp [go_sem,simprocAttr])
 rintro k ⟨hk,hg⟩
 rcases Nat.lt_or_ge k l.length with b9|C1
 ·have hb:decide ((k:Int)<(l.length:Int))=true:=decide_eq_true (by omega)
  by_cases h1:(l.getD k (0,0,0)).2.2∈rs
  ·have hb1:decide ((l.getD k (0,0,0)).2.2∈rs)=true:=decide_eq_true h1
   have:(l.getD k (0,0,0)).2.2=H:=by
    rw [← hH];unfold xd
    have:l.find? (fun t=>decide (t.2.2∈rs))=some (l.getD k (0,0,0)):=by
     rw [List.find?_eq_some_iff_getElem]
     refine ⟨hb1,k,b9,by rw [List.getD_eq_getElem?_getD,List.getElem?_eq_getElem b9];rfl,fun j hj=> ?_⟩
     have:=hg j hj
     rw [List.getD_eq_getElem?_getD,List.getElem?_eq_getElem (by omega)] at this
     simpa using this
    rw [this]
   have hb2:decide (H∈rs)=true:=by rw [← this];exact hb1
   repeat' (first|refine Rn.p ?_|(with_reducible apply And.intro)|((first|(refine hK _ ?_;clear hK K)|with_reducible intro K hK|refine Rs.p ?_|((with_reducible first|apply oP|apply oQ);exact rfl)|refine aa hX hC hP (bg rs H (by omega)) rfl rfl rfl (by simp only [go_sem,simprocAttr,hb,hb2,this]) rfl ?_);try simp only [go_sem,simprocAttr,hb,hb2,this])|((with_reducible refine oD ?_ ?_);kernel_rfl)|((with_reducible intro h);try simp only [go_sem,simprocAttr,hb,hb2,this] at h)|omega|intro h)
  ·have hb1:decide ((l.getD k (0,0,0)).2.2∈rs)=false:=decide_eq_false h1
   repeat' (first|refine Rn.p ?_|(with_reducible apply And.intro)|((first|(refine hK _ ?_;clear hK K)|with_reducible intro K hK|refine Rs.p ?_|((with_reducible first|apply oP|apply oQ);exact rfl)|refine aa hX hC hP (bg rs (l.getD k (0,0,0)).2.2 (by omega)) rfl rfl rfl (by simp only [go_sem,simprocAttr,hb,hb1]) rfl ?_);try simp only [go_sem,simprocAttr,hb,hb1])|((with_reducible refine oD ?_ ?_);kernel_rfl)|((with_reducible intro h);try simp only [go_sem,simprocAttr,hb,hb1] at h)|omega|intro h)
   refine ⟨k+1,⟨by omega,fun j hj=> ?_⟩, ?_,by omega⟩
   ·by_cases e:j=k
    ·subst e;exact h1
    ·exact hg j (by omega)
   ·(refine Le.of ?_ ?_<;>simp [go_sem,simprocAttr,hb,hb1])
 ·have hb:decide ((k:Int)<(l.length:Int))=false:=decide_eq_false (by omega)
  have hpos:=List.length_pos_iff.2 hr
  have:rs.getD 0 0=H:=by
   rw [← hH];unfold xd
   have:l.find? (fun t=>decide (t.2.2∈rs))=none:=by
    rw [List.find?_eq_none]
    intro t ht
    obtain ⟨j,hj,rfl⟩:=List.mem_iff_getElem.1 ht
    have:=hg j (by omega)
    rw [List.getD_eq_getElem?_getD,List.getElem?_eq_getElem hj] at this
    simpa using this
   rw [this]
   match rs,hr with
   |a::_,_=>rfl
  repeat' (first|refine Rn.p ?_|(with_reducible apply And.intro)|((first|(refine hK _ ?_;clear hK K)|with_reducible intro K hK|refine Rs.p ?_|((with_reducible first|apply oP|apply oQ);exact rfl));try simp only [go_sem,simprocAttr,hb,this])|((with_reducible refine oD ?_ ?_);kernel_rfl)|((with_reducible intro h);try simp only [go_sem,simprocAttr,hb,this] at h)|omega|intro h)
end Go.Ab
end
section
namespace Go.Ab
open Go.Proofs
attribute [local congr] ACall.congr gd.congr Nx.congr
set_option maxRecDepth 10000
set_option maxHeartbeats 8000000
theorem IC {g:Gr} (hm:aM g=true) {f:Fr} (hi:fY g f) (rev:Bool):xd (fm g f) (jG rev f.row)=jH g f rev:=by
 unfold xd jH
 have:(fun t:It=>decide (t.2.2∈fm g f))=fun t:It=>au g f t.2.2:=by
  funext t
  cases h:au g f t.2.2 with
  |true=>exact decide_eq_true ((gZ hm hi).2 h)
  |false=>exact decide_eq_false fun h2=>by rw [(gZ hm hi).1 h2] at h;cases h
 rw [this]
 rfl
theorem BM (row:List It):Spec Tryz.prog 62 (Args [.ref 10000]) [(10000, .own 100 3 (row.map rT))] (.tup []) [(10000, .own 100 3 ((jG false row).map rT))]:=by
 (refine Spec.hd (C:=T.cfg [] []) (rs:= []) (T.ah _ _) Tryz.func62 rfl rfl Tryz.ntmps62 Tryz.results62 (by simp [AObj.isNest]) (by simp [AObj.isNest]) (by kernel_rfl) T.mixed fun X hX hP hC aC bL=> ?_)
 repeat' (first|refine Rn.p ?_|(with_reducible apply And.intro)|((first|(refine hK _ ?_;clear hK K)|with_reducible intro K hK|refine Rs.p ?_|((with_reducible first|apply oP|apply oQ);exact rfl));try simp only [go_sem,simprocAttr,jG])|((with_reducible refine oD ?_ ?_);kernel_rfl)|((with_reducible intro h);try simp only [go_sem,simprocAttr,jG] at h)|omega|intro h)
theorem BN (row:List It) (hl:row.length≤1000000):Spec Tryz.prog 63 (Args [.ref 10000]) [(10000, .own 100 3 (row.map rT))] (.tup []) [(10000, .own 100 3 ((jG true row).map rT))]:=vG row hl
theorem xe (g:Gr) (p:Pl) (h:bn g p) (rev:Bool) (F:Nat) (MB:∀row:List It,row.length≤1000000→Spec Tryz.prog F (Args [.ref 10000]) [(10000, .own 100 3 (row.map rT))] (.tup []) [(10000, .own 100 3 ((jG rev row).map rT))]):
 Spec Tryz.prog 61 (Args [eG g, .d (.sl 1 (vI p.outs)), .fn F [] []]) [] (.d (sI (gY g p rev g.n.toNat))) []:=by
 have hm:=an h.1
 have hn:=aE hm
 (refine Spec.hd (C:=T.cfg [] []) (rs:= [.t 6]) (T.ah _ _) Tryz.func61 rfl rfl Tryz.ntmps61 Tryz.results61 (by simp [AObj.isNest]) (by simp [AObj.isNest]) (by kernel_rfl) T.mixed fun X hX hP hC aC bL=> ?_)
 repeat' (first|(show bS _ (.seq (.region 3 _ _) _) _ _;(refine oZ 15 0 3 rfl rfl rfl ?_;simp only [List.set_cons_zero,List.set_cons_succ,go_sem,simprocAttr]);(refine gS hX 15 2 200 (.tip 3 1 []) rfl rfl rfl (by simp only [go_sem,simprocAttr]) (by decide) (by simp [go_sem,simprocAttr]) ⟨3,1,by decide, .inr rfl⟩ ?_;simp only [List.set_cons_zero,List.set_cons_succ,go_sem,simprocAttr]))|refine Rn.p ?_|(with_reducible apply And.intro)|((first|(refine hK _ ?_;clear hK K)|with_reducible intro K hK|refine Rs.p ?_|((with_reducible first|apply oP|apply oQ);exact rfl)|(refine jc hX hC hP [(10000,15)] (qp g (by omega) h.1 hm) rfl rfl rfl ?_ ?_ ?_ ?_ ?_ ?_ ?_ ?_ ?_ ?_ ?_ ?_ ?_ ?_;(focus (simp only [go_sem,simprocAttr];done));(iterate 12 (focus (simp [go_sem,simprocAttr];done)));try simp only [List.map_cons,List.map_nil]));try simp only [go_sem,simprocAttr])|((with_reducible refine oD ?_ ?_);kernel_rfl)|((with_reducible intro h);try simp only [go_sem,simprocAttr] at h)|omega|intro h)
 have Ib:List.replicate g.n.toNat [D.sc (.int .i64 0)]=(gY g p rev 0).map rI:=by rw [gY,List.map_replicate];rfl
 rw [Ib]
 refine ag (fun k:Nat=>k≤g.n.toNat) (fun k=>⟨[(1, .d (.sl 1 (vI p.outs))),(2, .fn F [] []),(7, .ptr 15 0),(9, .ref 20),(22,eN g.n),(23,eN k)], [(15, .box [.d (sT (bX g p rev k).row), .d (vw g), .ref 200]),(200, .tip 3 1 ((bX g p rev k).pl.map rI)),(20, .own 3 1 ((gY g p rev k).map rI))]⟩) (fun k=>g.n.toNat - k) 0 (by omega) ?_ ?_
 ·refine Le.of ?_ ?_<;>simp [go_sem,simprocAttr,bX]
 rintro k hk
 obtain ⟨hi,dG,_,hrl⟩:=uF h rev hk
 have hmul:k*(g.es.length+1)≤64*129:=Nat.mul_le_mul (by omega) (by omega)
 rcases Nat.lt_or_ge k g.n.toNat with b9|C1
 rotate_left
 ·have hb:decide ((k:Int)<g.n)=false:=decide_eq_false (by omega)
  obtain rfl:k=g.n.toNat:=by omega
  repeat' (first|refine Rn.p ?_|(with_reducible apply And.intro)|((first|(refine hK _ ?_;clear hK K)|with_reducible intro K hK|refine Rs.p ?_|((with_reducible first|apply oP|apply oQ);exact rfl));try simp only [go_sem,simprocAttr,hb])|((with_reducible refine oD ?_ ?_);kernel_rfl)|((with_reducible intro h);try simp only [go_sem,simprocAttr,hb] at h)|omega|intro h)
 have hb:decide ((k:Int)<g.n)=true:=decide_eq_true (by omega)
 obtain ⟨hR,hne⟩:=Bu h rev b9
 have IW:=aD hR
 have iB:(fm g (bX g p rev k)).length≤64:=by have:=ur (g:=g) (f:=bX g p rev k) (k:=g.n.toNat);unfold fm;omega
 have hpe:=IC hm hi.tofY rev
 have hlo:(jG rev (bX g p rev k).row).length=(bX g p rev k).row.length:=by unfold jG;split<;>simp
 have Nj:=Eg (fm g (bX g p rev k)) (jG rev (bX g p rev k).row) hne (by omega) (by omega)
 rw [hpe] at Nj
 clear hpe
 have Ss:=Ef [vw g,sI (bX g p rev k).pl] (bX g p rev k).row (by omega)
 have Qm:=MB (bX g p rev k).row (by omega)
 have Qn:=zL g hm (bX g p rev k) (by omega) (by omega)
 have Kq:=bW h.2.1 IW.1 IW.2.1
 have rD:=pG h.2.1 IW.1 IW.2.1
 have bN:bX g p rev (k+1)=(aA g (bX g p rev k) (jH g (bX g p rev k) rev) (cq p (jH g (bX g p rev k) rev))).2:=rfl
 have Qo:gY g p rev (k+1)=(gY g p rev k).set (jH g (bX g p rev k) rev).toNat (k:Int):=rfl
 have vr:=qy (g:=g) (p:=p) (rev:=rev) (k:=k)
 generalize jH g (bX g p rev k) rev=x0 at*
 obtain ⟨x,rfl⟩:∃x:Nat,x0=x:=⟨x0.toNat,by omega⟩
 have hxl:x<p.outs.length:=by have:=h.2.1.1;omega
 have hv:=dS hxl
 have hla:cq p (x:Int)=p.outs.getD x []:=by unfold cq;rw [Int.toNat_natCast]
 rw [hla] at Kq rD bN
 rw [Int.toNat_natCast] at Qo
 have vC:=q9 g hm (bX g p rev k) hi (x:Int) (p.outs.getD x []) (by omega) (by omega) (by omega)
 have hpk:cG g (bX g p rev k) (x:Int) (p.outs.getD x [])=aA g (bX g p rev k) (x:Int) (p.outs.getD x []):=by
  unfold cG
  rw [if_neg (by rw [hR];simp),if_neg]
  rintro (h|⟨i,h1,h2⟩)
  ·exact h Kq.length_eq
  ·exact h2 (Kq.mem_iff.2 h1)
 rw [hpk] at vC
 generalize p.outs.getD x []=o at hv vC bN
 generalize fm g (bX g p rev k)=L at Nj Qn iB
 generalize jG rev (bX g p rev k).row=LR at Nj Qm hlo
 generalize St:bX g p rev (k+1)=f' at bN
 generalize bX g p rev k=f at*
 generalize aA g f (x:Int) o=su at vC bN
 repeat' (first|(show bS _ (.region 11 _ _) _ _;(refine cB hX 15 2 201 200 rfl rfl rfl (by first|exact .inl rfl|exact .inr rfl) (by decide) (by decide) ?_;simp only [List.set_cons_zero,List.set_cons_succ,go_sem,simprocAttr,hb,hv,vr,jx,p9,gl]))|refine Rn.p ?_|(with_reducible apply And.intro)|((first|(refine hK _ ?_;clear hK K)|with_reducible intro K hK|refine Rs.p ?_|((with_reducible first|apply oP|apply oQ);exact rfl)|(refine iA hX hC hP 29 (Ss) rfl rfl rfl ?_ ?_ (by first|exact ⟨_,_,_,rfl,uk⟩|exact ⟨_,_,_,rfl,um⟩|exact ⟨_,_,_,rfl,uq⟩) rfl (by decide) ?_;(iterate 2 (focus (simp only [go_sem,simprocAttr,hb,hv,vr,jx,p9,gl];done)));simp only [go_sem,simprocAttr,hb,hv,vr,jx,p9,gl])|(refine aj hX hC hP [(10000,29)] (Qm) rfl rfl rfl ?_ ?_ ?_ ?_ ?_ ?_ ?_ ?_ ?_ ?_ ?_ ?_ ?_ ?_;(focus (simp only [go_sem,simprocAttr,hb,hv,vr,jx,p9,gl];done));(iterate 12 (focus (simp [go_sem,simprocAttr,hb,hv,vr,jx,p9,gl];done)));try simp only [List.map_cons,List.map_nil])|(refine l7 hX hC hP 34 (Qn) rfl rfl rfl ?_ ?_ (by first|exact ⟨_,_,_,rfl,uk⟩|exact ⟨_,_,_,rfl,um⟩|exact ⟨_,_,_,rfl,uq⟩) rfl (by decide) ?_;(iterate 2 (focus (simp only [go_sem,simprocAttr,hb,hv,vr,jx,p9,gl];done)));simp only [go_sem,simprocAttr,hb,hv,vr,jx,p9,gl])|(refine ai hX hC hP (Nj) rfl rfl rfl ?_ ?_ ?_ ?_;iterate 3 (focus (simp only [go_sem,simprocAttr,hb,hv,vr,jx,p9,gl];done)))|(refine aj hX hC hP [(10000,15),(10001,200),(10002,201)] (vC) rfl rfl rfl ?_ ?_ ?_ ?_ ?_ ?_ ?_ ?_ ?_ ?_ ?_ ?_ ?_ ?_;(focus (simp only [go_sem,simprocAttr,hb,hv,vr,jx,p9,gl];done));(iterate 12 (focus (simp [go_sem,simprocAttr,hb,hv,vr,jx,p9,gl];done)));try simp only [List.map_cons,List.map_nil]));try simp only [go_sem,simprocAttr,hb,hv,vr,jx,p9,gl])|((with_reducible refine oD ?_ ?_);kernel_rfl)|((with_reducible intro h);try simp only [go_sem,simprocAttr,hb,hv,vr,jx,p9,gl] at h)|omega|intro h)
 refine ⟨k+1,by omega, ?_,by omega⟩
 rw [Qo,St,bN]
 refine Le.of ?_ ?_<;>simp [go_sem,simprocAttr,hb,hv,vr,jx,p9,gl,rI]
def Kr (b:Bool) (g:Gr) (p:Pl):List Int × List Int × Int:=
 if (bk b g p).2.1=0∧ni g=true then (gY g p false g.n.toNat,gY g p true g.n.toNat,0) else ([], [],1)
theorem BO (g:Gr) (hl:g.es.length≤1000) (p:Pl) (hp:gv p) (b:Bool) (hr:b=true↔(bE g).1=0∧aT g p):
 Spec Tryz.prog 24 (Args [eG g,ePl p]) [] (.tup [.d (sI (Kr b g p).1), .d (sI (Kr b g p).2.1),eN (Kr b g p).2.2]) []:=by
 have hO:=eY g hl p hp b hr
 have hI:=lC g hl
 by_cases h0:(bk b g p).2.1=0
 rotate_left
 ·have hK:Kr b g p=([], [],1):=if_neg fun h=>h0 h.1
  have hb0:decide ((bk b g p).2.1=0)=false:=decide_eq_false h0
  rw [hK]
  (refine Spec.hd (C:=T.cfg [] []) (rs:= [.t 4, .t 5, .t 6]) (T.ah _ _) Tryz.func24 rfl rfl Tryz.ntmps24 Tryz.results24 (by simp [AObj.isNest]) (by simp [AObj.isNest]) (by kernel_rfl) T.mixed fun X hX hP hC aC bL=> ?_)
  repeat' (first|refine Rn.p ?_|(with_reducible apply And.intro)|((first|(refine hK _ ?_;clear hK K)|with_reducible intro K hK|refine Rs.p ?_|((with_reducible first|apply oP|apply oQ);exact rfl)|refine aa hX hC hP (hO) rfl rfl rfl (by simp only [go_sem,simprocAttr,hb0]) rfl ?_);try simp only [go_sem,simprocAttr,hb0])|((with_reducible refine oD ?_ ?_);kernel_rfl)|((with_reducible intro h);try simp only [go_sem,simprocAttr,hb0] at h)|omega|intro h)
 obtain ⟨hrun,hR⟩:=eC hr h0
 rw [hR] at hO
 simp only at hO
 cases yD:ni g with
 |false=>
  have hK:Kr b g p=([], [],1):=if_neg fun h=>by rw [yD] at h;cases h.2
  rw [hK]
  rw [yD] at hI
  (refine Spec.hd (C:=T.cfg [] []) (rs:= [.t 4, .t 5, .t 6]) (T.ah _ _) Tryz.func24 rfl rfl Tryz.ntmps24 Tryz.results24 (by simp [AObj.isNest]) (by simp [AObj.isNest]) (by kernel_rfl) T.mixed fun X hX hP hC aC bL=> ?_)
  repeat' (first|refine Rn.p ?_|(with_reducible apply And.intro)|((first|(refine hK _ ?_;clear hK K)|with_reducible intro K hK|refine Rs.p ?_|((with_reducible first|apply oP|apply oQ);exact rfl)|refine aa hX hC hP (hO) rfl rfl rfl (by simp only [go_sem,simprocAttr]) rfl ?_|refine aa hX hC hP (hI) rfl rfl rfl (by simp only [go_sem,simprocAttr]) rfl ?_);try simp only [go_sem,simprocAttr])|((with_reducible refine oD ?_ ?_);kernel_rfl)|((with_reducible intro h);try simp only [go_sem,simprocAttr] at h)|omega|intro h)
 |true=>
  have hK:Kr b g p=(gY g p false g.n.toNat,gY g p true g.n.toNat,0):=if_pos ⟨h0,yD⟩
  rw [hK]
  rw [yD] at hI
  have Qp:=xe g p hrun false 62 fun row _=>BM row
  have Qq:=xe g p hrun true 63 fun row hl=>BN row hl
  generalize gY g p false g.n.toNat=R0 at Qp
  generalize gY g p true g.n.toNat=R1 at Qq
  (refine Spec.hd (C:=T.cfg [] []) (rs:= [.t 4, .t 5, .t 6]) (T.ah _ _) Tryz.func24 rfl rfl Tryz.ntmps24 Tryz.results24 (by simp [AObj.isNest]) (by simp [AObj.isNest]) (by kernel_rfl) T.mixed fun X hX hP hC aC bL=> ?_)
  repeat' (first|refine Rn.p ?_|(with_reducible apply And.intro)|((first|(refine hK _ ?_;clear hK K)|with_reducible intro K hK|refine Rs.p ?_|((with_reducible first|apply oP|apply oQ);exact rfl)|refine aa hX hC hP (hO) rfl rfl rfl (by simp only [go_sem,simprocAttr]) rfl ?_|refine aa hX hC hP (hI) rfl rfl rfl (by simp only [go_sem,simprocAttr]) rfl ?_|refine aa hX hC hP (Qp) rfl rfl rfl (by simp only [go_sem,simprocAttr]) rfl ?_|refine aa hX hC hP (Qq) rfl rfl rfl (by simp only [go_sem,simprocAttr]) rfl ?_);try simp only [go_sem,simprocAttr])|((with_reducible refine oD ?_ ?_);kernel_rfl)|((with_reducible intro h);try simp only [go_sem,simprocAttr] at h)|omega|intro h)
end Go.Ab
end
section
namespace Go.Ab
open Go.Proofs
attribute [local congr] ACall.congr gd.congr Nx.congr
set_option maxRecDepth 10000
set_option maxHeartbeats 8000000
def Qr (l:List Int) (k:Nat):List Int:=(List.range l.length).map fun p=>if p<k∨l.length - 1<p+k then l.getD (l.length - 1 - p) 0 else l.getD p 0
theorem yE (ps:List Int) (hl:ps.length≤1000000):
 Spec Tryz.prog 71 (Args [.d (sI ps)]) [] (.ref 10000) [(10000, .own 3 1 (ps.map rI))]:=by
 (refine Spec.si (C:=T.cfg [5,7] []) (rs:= [.t 2]) [(10000,7)] (T.ah _ _) Tryz.func71 rfl rfl Tryz.ntmps71 Tryz.results71 (by simp [AObj.isNest]) (by simp [AObj.isNest]) (by first|(simp [look];done)|(simp [asN];done)|(intro l hl;simp only [asN];repeat (rw [if_neg (fun e=>by subst e;simp [look] at hl)]))) (by first|(simp [look];done)|(simp [asN];done)|(intro l hl;simp only [asN];repeat (rw [if_neg (fun e=>by subst e;simp [look] at hl)]))) (by kernel_rfl) T.mixed fun X hX hP hC aC bL=> ?_)
 repeat' (first|(show bS _ .ret _ _;(try simp only [go_sem,simprocAttr]);refine dQ hX 2 7 (.own 3 1 []) ?_ ?_ (by decide) ⟨3,1,by decide, .inl rfl⟩ ?_;(iterate 2 (focus (simp only [go_sem,simprocAttr];done)));simp only [go_sem,simprocAttr])|refine Rn.p ?_|(with_reducible apply And.intro)|((first|(refine hK _ ?_;clear hK K)|with_reducible intro K hK|refine Rs.p ?_|((with_reducible first|apply oP|apply oQ);exact rfl));try simp only [go_sem,simprocAttr])|((with_reducible refine oD ?_ ?_);kernel_rfl)|((with_reducible intro h);try simp only [go_sem,simprocAttr] at h)|omega|intro h)
 exact h.symm
end Go.Ab
end
