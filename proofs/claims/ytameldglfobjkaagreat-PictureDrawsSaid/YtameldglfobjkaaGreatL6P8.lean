/- A part of the proof. -/
import Derived.RangeFuncLeaves
import Derived.RangeFuncRecord
import Derived.Below
import Derived.Test.YtameldglfobjkaaGreatL6P7
set_option linter.unusedSimpArgs false
set_option linter.unusedVariables false
section
namespace Go.Ab
mutual
def AV.ren(π:Nat->Nat):AV->AV
 | .ref l=> .ref (π l)
 | .ptr l o=> .ptr (π l) o
 | .ep l sz i o=> .ep (π l) sz i o
 | .vw l sz a=> .vw (π l) sz a
 | .agg vs=> .agg (AV.rens π vs)
 | .tup vs=> .tup (AV.rens π vs)
 | .fn f us vs=> .fn f (AV.rens π us) (AV.rens π vs)
 | .jA=> .jA
 | .nil e=> .nil e
 | .d x=> .d x
 | .jE p=> .jE p
 | .mref l=> .mref (π l)
 | .emp e=> .emp e
def AV.rens(π:Nat->Nat):List AV->List AV
 | []=> []
 |a::as=>AV.ren π a::AV.rens π as
end
def AObj.ren(π:Nat->Nat):AObj->AObj
 | .box cells=> .box (AV.rens π cells)
 | .rob cells=> .rob (AV.rens π cells)
 | .own e sz rows=> .own e sz rows
 | .tip e sz rows=> .tip e sz rows
 | .mp n ak=> .mp n ak
 | .part e sz rows=> .part e sz rows
 | .nest e' e sz rows h=> .nest e' e sz rows h
 | .nils e' e sz n=> .nils e' e sz n
 | .orh e rows i g=> .orh e rows i (g.map π)
def Env.pre(E:Env)(π:Nat->Nat):Env:=⟨fun l=>E.ρ (π l),fun l=>E.σ (π l),E.z⟩
mutual
theorem vv{w:World}{E:Env}{π:Nat->Nat} :∀ {a:AV} {v:Value},cG w (E.pre π) a v↔cG w E (a.ren π) v
 | .jA,_=>Iff.rfl
 | .nil _,_=>Iff.rfl
 | .emp _,_=>Iff.rfl
 | .d _,_=>Iff.rfl
 | .jE _,_=>Iff.rfl
 | .mref _,_=>Iff.rfl
 | .ref _,_=>Iff.rfl
 | .ptr _ _,_=>Iff.rfl
 | .ep _ _ _ _,_=>Iff.rfl
 | .vw _ _ _,_=>Iff.rfl
 | .agg vs,v=>⟨fun ⟨us,h1,h2⟩=>⟨us,h1,dg.1 h2⟩,fun ⟨us,h1,h2⟩=>⟨us,h1,dg.2 h2⟩⟩
 | .tup vs,v=>⟨fun ⟨us,h1,h2⟩=>⟨us,h1,dg.1 h2⟩,fun ⟨us,h1,h2⟩=>⟨us,h1,dg.2 h2⟩⟩
 | .fn f as bs,v=>⟨fun ⟨us,vs,h1,h2,h3⟩=>⟨us,vs,h1,dg.1 h2,dg.1 h3⟩,fun ⟨us,vs,h1,h2,h3⟩=>⟨us,vs,h1,dg.2 h2,dg.2 h3⟩⟩
theorem dg{w:World}{E:Env}{π:Nat->Nat} :∀ {as:List AV} {us:List Value},AVrs w (E.pre π) as us↔AVrs w E (AV.rens π as) us
 | [],_=>Iff.rfl
 |a::as,us=>⟨fun ⟨u,us',h1,h2,h3⟩=>⟨u,us',h1,vv.1 h2,dg.1 h3⟩,fun ⟨u,us',h1,h2,h3⟩=>⟨u,us',h1,vv.2 h2,dg.2 h3⟩⟩
end
theorem vA{w:World}{E:Env}{π:Nat->Nat}{l:Nat}{o:AObj}(hn:o.isNest=false):bF w (E.pre π) l o↔bF w E (π l) (o.ren π):=by
 cases o with
 |box cells=>exact⟨fun ⟨b,vs,e,h1,h2,h3,h4,h5⟩=>⟨b,vs,e,h1,h2,h3,dg.1 h4,h5⟩,fun ⟨b,vs,e,h1,h2,h3,h4,h5⟩=>⟨b,vs,e,h1,h2,h3,dg.2 h4,h5⟩⟩
 |rob cells=>exact⟨fun ⟨b,vs,e,h1,h2,h3,h4,h5⟩=>⟨b,vs,e,h1,h2,h3,dg.1 h4,h5⟩,fun ⟨b,vs,e,h1,h2,h3,h4,h5⟩=>⟨b,vs,e,h1,h2,h3,dg.2 h4,h5⟩⟩
 |own e sz rows=>exact Iff.rfl
 |tip e sz rows=>exact Iff.rfl
 |mp n ak=>exact Iff.rfl
 |part e sz rows=>exact Iff.rfl
 |nils e' e sz n=>exact Iff.rfl
 |orh e rows i g=>
  cases g with
  |none=>exact⟨fun ⟨k1,k2,b,cur,cap,h1,h2,h3,h4,h5,h6,h7,h8,_⟩=>⟨k1,k2,b,cur,cap,h1,h2,h3,h4,h5,h6,h7,h8,fun _ e=>by cases e⟩,fun ⟨k1,k2,b,cur,cap,h1,h2,h3,h4,h5,h6,h7,h8,_⟩=>⟨k1,k2,b,cur,cap,h1,h2,h3,h4,h5,h6,h7,h8,fun _ e=>by cases e⟩⟩
  |some g=>exact⟨fun ⟨k1,k2,b,cur,cap,h1,h2,h3,h4,h5,h6,h7,h8,h9⟩=>⟨k1,k2,b,cur,cap,h1,h2,h3,h4,h5,h6,h7,h8,fun _ e=>by cases e;exact h9 g rfl⟩,fun ⟨k1,k2,b,cur,cap,h1,h2,h3,h4,h5,h6,h7,h8,h9⟩=>⟨k1,k2,b,cur,cap,h1,h2,h3,h4,h5,h6,h7,h8,fun _ e=>by cases e;exact h9 (π g) rfl⟩⟩
 |nest e' e sz rows h=>simp[AObj.isNest]at hn
theorem AObj.OG(π:Nat->Nat)(o:AObj):(o.ren π).ro=o.ro:=by cases o<;>rfl
theorem bF.congr{w:World}{E E':Env}{live:Nat->Prop}(hz:E'.z=E.z)(hρ:∀l,live l->E'.ρ l=E.ρ l)(hσ:∀l,live l->E'.σ l=E.σ l){l:Nat}{o:AObj}(hn:o.isNest=false)(hl:live l)(hi:∀k∈o.ids,live k)(h:bF w E l o):bF w E' l o:=by
 have hk:Am w E w E' live:=⟨by rw[hz];exact aK.refl _ _,hρ,hσ⟩
 cases o with
 |box cells=>
  obtain⟨b,vs,e,h1,h2,h3,h4,h5⟩:=h
  exact⟨b,vs,e,by rw[hρ l hl];exact h1,h2,by rw[hz];exact h3,AVrs.mono hk hi h4,h5⟩
 |rob cells=>
  obtain⟨b,vs,e,h1,h2,h3,h4,h5⟩:=h
  exact⟨b,vs,e,by rw[hρ l hl];exact h1,h2,by rw[hz];exact h3,AVrs.mono hk hi h4,h5⟩
 |own e sz rows=>simp only[bF]at h ⊢;rw[hρ l hl,hσ l hl,hz];exact h
 |tip e sz rows=>simp only[bF]at h ⊢;rw[hρ l hl,hσ l hl,hz];exact h
 |mp n ak=>simp only[bF]at h ⊢;rw[hρ l hl,hz];exact h
 |part e sz rows=>simp only[bF]at h ⊢;rw[hρ l hl,hσ l hl,hz];exact h
 |nils e' e sz n=>simp only[bF]at h ⊢;rw[hρ l hl,hσ l hl,hz];exact h
 |orh e rows i g=>
  obtain⟨k1,k2,b,cur,cap,h1,h2,h3,h4,h5,h6,h7,h8,h9⟩:=h
  refine⟨k1,k2,b,cur,cap,by rw[hρ l hl];exact h1,h2,by rw[hσ l hl];exact h3,h4,h5,h6,by rw[hz];exact h7,by rw[hz];exact h8,fun g' e=> ?_⟩
  subst e
  rw[hσ g' (hi g' (by simp[AObj.ids]))]
  exact h9 g' rfl
 |nest e' e sz rows h=>simp[AObj.isNest]at hn
theorem AObj.AD(π:Nat->Nat)(o:AObj):(o.ren π).isNest=o.isNest:=by cases o<;>rfl
mutual
theorem AV.qH:∀a:AV,a.ren id=a
 | .jA=>rfl
 | .nil _=>rfl
 | .emp _=>rfl
 | .d _=>rfl
 | .ref _=>rfl
 | .ptr _ _=>rfl
 | .ep _ _ _ _=>rfl
 | .vw _ _ _=>rfl
 | .jE _=>rfl
 | .mref _=>rfl
 | .agg vs=>by simp only[AV.ren,AV.sn vs]
 | .tup vs=>by simp only[AV.ren,AV.sn vs]
 | .fn f us vs=>by simp only[AV.ren,AV.sn us,AV.sn vs]
theorem AV.sn:∀as:List AV,AV.rens id as=as
 | []=>rfl
 |a::as=>by simp only[AV.rens,AV.qH a,AV.sn as]
end
theorem AObj.qH(o:AObj):o.ren id=o:=by cases o<;>simp[AObj.ren,AV.sn]
def asN:List (Nat × Nat)->Nat->Nat
 | [],l=>l
 |(i,j)::r,l=>if i=l then j else asN r l
def renA(rn:List (Nat × Nat))(a:AV):AV:=match rn with| []=>a|_=>a.ren (asN rn)
def renO(rn:List (Nat × Nat))(o:AObj):AObj:=match rn with| []=>o|_=>o.ren (asN rn)
theorem Ks:asN []=id:=rfl
theorem Si(rn:List (Nat × Nat))(a:AV):renA rn a=a.ren (asN rn):=by
 cases rn with
 |nil=>rw[Ks,AV.qH];rfl
 |cons=>rfl
theorem Sj(rn:List (Nat × Nat))(o:AObj):renO rn o=o.ren (asN rn):=by
 cases rn with
 |nil=>rw[Ks,AObj.qH];rfl
 |cons=>rfl
def zN(P:Program)(f:Nat):Prop:=∃fn c,P.funcs[f]? =some fn/\(fn.name== "runtime.NumGoroutine")=false/\fn.body=some c
def Post(m:List (Nat × AObj))(E:Env)(w:World)(res:AV)(m':List (Nat × AObj)):Ending->World->Prop:=fun e w'=>∃v E',e= .returned v/\Ob m E w E' w'/\Good m' E' w'/\
 (∀l o b,bM m' l=some o->o.ro=false->E'.ρ l=some b->w.heap.size<=b\/Oa m E b)/\cG w' E' res v
structure Spec (P:Program) (f:Nat) (A:Env->World->List Value->Prop) (m:List (Nat × AObj)) (res:AV) (m':List (Nat × AObj)):Prop where
 can:zN P f
 calls:∀E w vals,Good m E w->A E w vals->Calls P f vals.toArray w (Post m E w res m')
def Args(as:List AV):Env->World->List Value->Prop:=fun E w vals=>AVrs w E as vals
def cvtD(s:ASt)(a:AV)(x:D):Prop:=
 match a with
 | .ref l=>match look s.m l with|some (.tip _ sz rows)=>x= .sl sz rows|_=>False
 | .nil _=>match x with| .sl _ rows=>rows= []|_=>False
 | .emp _=>match x with| .sl _ rows=>rows= []|_=>False
 | .d y=>y=x
 |_=>False
def allSome:List (Option D)->Option (List D)
 | []=>some []
 |some x::r=>match allSome r with|some xs=>some (x::xs)|none=>none
 |none::_=>none
def rdX(C:Cfg)(bad:Nat->Bool)(mM:Bool)(m:List (Nat × AObj)):Nat->AV->Option D
 |_, .d x=>some x
 |_, .nil e=>some (.sl (C.sz e) [])
 |_, .emp e=>some (.sl (C.sz e) [])
 |_, .ref l=>match look m l with
  |some (.tip _ sz rows)=>some (.sl sz rows)
  |some (.own _ sz rows)=>if bad l=true then none else some (.sl sz rows)
  |some (.part _ sz rows)=>if bad l=true then none else some (.sl sz rows)
  |some (.nest _ _ sz rows none)=>if bad l=true then none else some (.sl 1 (rows.map fun r=> [.sl sz r]))
  |some (.nils _ _ sz n)=>if bad l=true then none else some (.sl 1 (List.replicate n [.sl sz []]))
  |_=>none
 |_, .vw l sz a=>match look m l with
  |some (.own _ sz' rows)=>if bad l=true then none else if sz'=sz then some (.sl sz (rows.drop a)) else none
  |_=>none
 |n+1, .ptr l o=>match look m l with
  |some (.box cells)=>if bad l=true then none else match allSome (cells.map fun a=>rdX C bad mM m n a) with|some ds=>if o<=ds.length then some (.pt (ds.drop o)) else none|none=>none
  |some (.rob cells)=>if mM=true then match allSome (cells.map fun a=>rdX C bad mM m n a) with|some ds=>if o<=ds.length then some (.pt (ds.drop o)) else none|none=>none else none
  |_=>none
 |_,_=>none
mutual
def cvt(rd:AV->D->Prop)(a:AV):AV->Prop
 | .jA=>True
 | .d x=>rd a x
 | .agg bs=>match a with| .agg as=>cvts rd as bs|_=>False
 | .tup bs=>match a with| .tup as=>cvts rd as bs|_=>False
 | .nil e=>a= .nil e
 | .ref l=>a= .ref l
 | .ptr l o=>a= .ptr l o
 | .ep l sz i o=>a= .ep l sz i o
 | .vw l sz i=>a= .vw l sz i
 | .fn f us vs=>match a with| .fn f' us' vs'=>f'=f/\cvts rd us' us/\cvts rd vs' vs|_=>False
 | .jE p=>a= .jE p
 | .mref l=>a= .mref l
 | .emp e=>a= .emp e\/a= .nil e
def cvts(rd:AV->D->Prop)(as:List AV):List AV->Prop
 | []=>as= []
 |b::bs=>match as with|a::as=>cvt rd a b/\cvts rd as bs| []=>False
end
section
variable {rd:AV->D->Prop} {E E':Env} {w:World}
mutual
theorem Kt(hk:Am w E w E' fun _=>True)(hrd:∀a x v,rd a x->cG w E a v->Rd w E'.z v x):∀ {b a:AV} {v:Value},cvt rd a b->cG w E a v->cG w E' b v
 | .jA,_,_,_,_=>trivial
 | .d x,a,v,h,hr=>by unfold cvt at h;exact hrd a x v h hr
 | .agg bs,a,v,h,hr=>by
   unfold cvt at h
   split at h
   ·obtain⟨us,rfl,hr⟩:=hr
    exact⟨us,rfl,gT hk hrd h hr⟩
   ·exact h.elim
 | .tup bs,a,v,h,hr=>by
   unfold cvt at h
   split at h
   ·obtain⟨us,rfl,hr⟩:=hr
    exact⟨us,rfl,gT hk hrd h hr⟩
   ·exact h.elim
 | .nil e,a,v,h,hr=>by simp only[cvt]at h;subst h;exact hr
 | .ref l,a,v,h,hr=>by simp only[cvt]at h;subst h;exact cG.mono hk (fun _ _=>trivial) hr
 | .ptr l o,a,v,h,hr=>by simp only[cvt]at h;subst h;exact cG.mono hk (fun _ _=>trivial) hr
 | .ep l sz i o,a,v,h,hr=>by simp only[cvt]at h;subst h;exact cG.mono hk (fun _ _=>trivial) hr
 | .vw l sz i,a,v,h,hr=>by simp only[cvt]at h;subst h;exact cG.mono hk (fun _ _=>trivial) hr
 | .fn f us vs,a,v,h,hr=>by
   unfold cvt at h
   split at h
   ·obtain⟨us',vs',rfl,h1,h2⟩:=hr
    obtain⟨rfl,k1,k2⟩:=h
    exact⟨us',vs',rfl,gT hk hrd k1 h1,gT hk hrd k2 h2⟩
   ·exact h.elim
 | .jE p,a,v,h,hr=>by simp only[cvt]at h;subst h;exact hr
 | .mref l,a,v,h,hr=>by simp only[cvt]at h;subst h;exact cG.mono hk (fun _ _=>trivial) hr
 | .emp e,a,v,h,hr=>by
   simp only[cvt]at h
   rcases h with rfl|rfl
   ·exact hr
   ·exact⟨none,hr⟩
theorem gT(hk:Am w E w E' fun _=>True)(hrd:∀a x v,rd a x->cG w E a v->Rd w E'.z v x):∀ {bs as:List AV} {vs:List Value},cvts rd as bs->AVrs w E as vs->AVrs w E' bs vs
 | [],as,vs,h,hr=>by simp only[cvts]at h;subst h;exact hr
 |b::bs,as,vs,h,hr=>by
  unfold cvts at h
  split at h
  ·obtain⟨u,us,rfl,h1,h2⟩:=hr
   exact⟨u,us,rfl,Kt hk hrd h.1 h1,gT hk hrd h.2 h2⟩
  ·exact h.elim
end
end
theorem FP{s:ASt}{E:Env}{w:World}(hm:∀l o,look s.m l=some o->bF w E l o)(a:AV)(x:D)(v:Value)(h:cvtD s a x)(hr:cG w E a v):Rd w E.z v x:=by
 simp only[cvtD]at h
 split at h
 ·split at h
  ·rename_i e sz rows hl
   subst h
   simp only[cG]at hr
   rw[hr.1];exact qA (hm _ _ hl)
  ·exact h.elim
 ·split at h
  ·subst h
   simp only[cG]at hr
   subst hr
   exact .nil _ _
  ·exact h.elim
 ·split at h
  ·subst h
   obtain⟨p,rfl⟩:=hr
   exact .nil _ _
  ·exact h.elim
 ·subst h;exact hr
 ·exact h.elim
def dh(w:World)(b:Nat):Nat:=match w.heap[b]? with|some (.cells cs _ _)=>cs.size|_=>0
theorem vB:∀ {l:List (Option D)} {ds:List D},allSome l=some ds->l=ds.map some
 | [],ds,h=>by simp[allSome]at h;subst h;rfl
 |none::r,ds,h=>by simp[allSome]at h
 |some x::r,ds,h=>by
  simp only[allSome]at h
  cases hr:allSome r with
  |none=>simp[hr]at h
  |some xs=>
   simp[hr]at h
   subst h
   rw[vB hr];rfl
theorem vC{C:Cfg}{bad:Nat->Bool}{mM:Bool}{m:List (Nat × AObj)}{E:Env}{w:World}{z:Nat->Nat}(hg:Good m E w)(hst:aK w E.z w z)
 (H8:∀l o b,look m l=some o->(o.ro=false\/mM=true)->(o.ro=false->bad l=false)->E.ρ l=some b->dh w b<=z b):∀ {n:Nat} {a:AV} {x:D} {v:Value},rdX C bad mM m n a=some x->cG w E a v->Rd w z v x:=by
 have flat:∀ {a:AV} {x:D} {v:Value} (n:Nat),(∀l o,a≠ .ptr l o)->rdX C bad mM m n a=some x->cG w E a v->Rd w z v x:=by
  intro a x v n hne h hr
  unfold rdX at h
  split at h
  ·cases h;exact Rd.mono hst hr
  ·cases h;simp only[cG]at hr;subst hr;exact .nil _ _
  ·cases h;obtain⟨p,rfl⟩:=hr;exact .nil _ _
  ·rename_i l
   have hv:=hr.1
   subst hv
   split at h
   ·rename_i e sz rows hl
    cases h
    exact Rd.mono hst (qA (hg.obj _ _ hl))
   ·rename_i e sz rows hl
    split at h
    ·cases h
    ·rename_i hb
     cases h
     obtain⟨g1,g2,⟨h1,h2,p,h3⟩|⟨b,cur,cap,h1,h2,h3,h4,h5,h6,h7,h8⟩⟩:=hg.obj _ _ hl
     ·rw[h3,h2];exact .nil p sz
     ·have hz:=H8 _ _ b hl (.inl rfl) (fun _=>by simpa using hb) h1
      simp only[dh,h2]at hz
      rw[h3]
      have hle:rows.length*sz<=cap*sz:=adF sz h4
      refine .sl b 0 rows.length cap sz rows (fun k=>cur.getD k undef) rfl g1 (by omega) h4 (fun k hk=> ?_) (fun i j r x hi hj=> ?_)
      ·have:k<cur.size:=by omega
       simp[World.cell?,h2,adX this]
      ·obtain⟨v,hv,hx⟩:=h8 i j r x hi hj
       have:cur.getD (i*sz+j) undef=v:=by simp[hv]
       rw[this];exact hx.mono hst
   ·rename_i e sz rows hl
    split at h
    ·cases h
    ·rename_i hb
     cases h
     obtain⟨g1,g2,⟨h1,h2,p,h3⟩|⟨b,off,cur,cap,h1,h2,h3,h4,h5,h6,h7,h8⟩⟩:=hg.obj _ _ hl
     ·rw[h3,h2];exact .nil p sz
     ·have hz:=H8 _ _ b hl (.inl rfl) (fun _=>by simpa using hb) h1
      simp only[dh,h2]at hz
      rw[h3]
      have hle:rows.length*sz<=cap*sz:=adF sz h4
      refine .sl b off rows.length cap sz rows (fun k=>cur.getD (off+k) undef) rfl g1 (by omega) h4 (fun k hk=> ?_) (fun i j r x hi hj=> ?_)
      ·have:off+k<cur.size:=by omega
       simp[World.cell?,h2,adX this]
      ·obtain⟨v,hv,hx⟩:=h8 i j r x hi hj
       have:cur.getD (off+(i*sz+j)) undef=v:=by simp[hv]
       rw[this];exact hx.mono hst
   ·rename_i e' e sz rows hl
    split at h
    ·cases h
    ·rename_i hb
     cases h
     obtain⟨b,cur,cap,h1,h2,h3,h4,h5,h6,h7,h8⟩:=hg.obj _ _ hl
     have hz:=H8 _ _ b hl (.inl rfl) (fun _=>by simpa using hb) h1
     simp only[dh,h2]at hz
     have o6:=hg.low _ (by rw[hl];simp)
     rw[h3]
     refine .sl b 0 _ cap 1 _ (fun k=>cur.getD k undef) (by simp) (by simp) (by omega) h4 (fun k hk=> ?_) (fun i j r x hi hj=> ?_)
     ·have:k<cur.size:=by omega
      simp[World.cell?,h2,adX this]
     ·rw[adm]at hi
      obtain⟨rr,Wt,rfl⟩:=ad9.1 hi
      have hil:i<rows.length:=(adh.1 Wt).1
      obtain⟨c1,c2⟩:=h8 i hil (by simp)
      have hs:bM m (nn l i)=some (.tip e sz rr):=by rw[uh o6,hl];simp[inner,Wt]
      cases j with
      |succ j=>simp at hj
      |zero=>
       simp at hj
       subst hj
       have:cur.getD (i*1+0) undef=E.σ (nn l i):=by simp[c1]
       rw[this]
       exact Rd.mono hst (qA (hg.gw _ _ hs))
   ·rename_i e' e sz k hl
    split at h
    ·cases h
    ·rename_i hb
     cases h
     obtain⟨b,cur,cap,h1,h2,h3,h4,h5,h6,h7,h8,h9⟩:=hg.obj _ _ hl
     have hz:=H8 _ _ b hl (.inl rfl) (fun _=>by simpa using hb) h1
     simp only[dh,h2]at hz
     rw[h3]
     refine .sl b 0 k cap 1 _ (fun k=>cur.getD k undef) (by simp) (fun r hr=>by rw[(agN.1 hr).2];rfl) (by omega) h4 (fun j hj=> ?_) (fun i j r x hi hj=> ?_)
     ·have:j<cur.size:=by omega
      simp[World.cell?,h2,adX this]
     ·rw[afg]at hi
      split at hi
      ·rename_i hik
       cases hi
       cases j with
       |succ j=>simp at hj
       |zero=>
        simp at hj
        subst hj
        have:cur.getD (i*1+0) undef= .slice none 0 0:=by simp[h9 i hik]
        rw[this]
        exact .nil _ _
      ·cases hi
   ·cases h
  ·rename_i l sz a
   obtain⟨b0,ab6,n0,Xr,hs0,Sk,hv⟩:=hr
   subst hv
   split at h
   ·rename_i e sz' rows hl
    split at h
    ·cases h
    rename_i hb
    split at h
    rotate_left
    ·cases h
    ·rename_i hsz
     subst hsz
     cases h
     obtain⟨g1,g2,⟨h1,h2,p,h3⟩|⟨b,cur,cap,h1,h2,h3,h4,h5,h6,h7,h8⟩⟩:=hg.obj _ _ hl
     ·rw[hs0]at h3;cases h3;omega
     ·rw[hs0]at h3
      simp only[Value.slice.injEq,ady,Addr.mk.injEq,afc]at h3
      obtain⟨⟨rfl,rfl⟩,rfl,rfl⟩:=h3
      have hz:=H8 _ _ b0 hl (.inl rfl) (fun _=>by simpa using hb) h1
      simp only[dh,h2]at hz
      have hle:rows.length*sz'<=Xr*sz':=adF sz' h4
      have hsp:a*sz'+(rows.length - a)*sz'=rows.length*sz':=by rw[<- Nat.add_mul];congr 1;omega
      refine .sl b0 _ _ _ sz' _ (fun k=>cur.getD (0+a*sz'+k) undef) (by simp) (fun r hr=>g1 r (afv hr)) (by omega) (by omega) (fun k hk=> ?_) (fun i j r x hi hj=> ?_)
      ·have:0+a*sz'+k<cur.size:=by omega
       simp only[World.cell?,h2]
       simp[adX (show a*sz'+k<cur.size by omega)]
      ·rw[ad3]at hi
       obtain⟨v,hv,hx⟩:=h8 (a+i) j r x hi hj
       have:cur.getD (0+a*sz'+(i*sz'+j)) undef=v:=by
        have e1:0+a*sz'+(i*sz'+j)=(a+i)*sz'+j:=by rw[ad6];omega
        rw[e1]
        simp[hv]
       rw[this];exact hx.mono hst
   ·cases h
  ·exact absurd rfl (hne _ _)
  ·cases h
 intro n
 induction n with
 |zero=>
  intro a x v h hr
  cases a with
  |ptr l o=>simp[rdX]at h
  |_=>exact flat 0 (fun _ _ e=>by cases e) h hr
 |succ n ih=>
  intro a x v h hr
  have key:∀(l o b:Nat) (vs:List Value) (e:Nat) (cells:List AV),E.ρ l=some b->w.heap[b]? =some (.cells vs.toArray e (0,0))->AVrs w E cells vs->dh w b<=z b->v= .pointer (some ⟨b,o,none⟩)->
   (match allSome (cells.map fun a=>rdX C bad mM m n a) with|some ds=>if o<=ds.length then some (D.pt (ds.drop o)) else none|none=>none)=some x->Rd w z v x:=by
   intro l o b vs e cells h1 h2 h3 hz hv h
   cases hs:allSome (cells.map fun a=>rdX C bad mM m n a) with
   |none=>rw[hs]at h;cases h
   |some ds=>
    rw[hs]at h
    simp only at h
    split at h
    ·rename_i ho
     cases h
     subst hv
     have hd:=vB hs
     have hlen:cells.length=ds.length:=by have:=congrArg List.length hd;simpa using this
     have hvl:=h3.length
     simp only[dh,h2,aed]at hz
     refine .pt b o _ (fun k=>vs.getD (o+k) undef) (by simp;omega) (fun k hk=> ?_) (fun j x hj=> ?_)
     ·simp only[aeC]at hk
      have:o+k<vs.length:=by omega
      simp[World.cell?,h2,aas,acF this]
     ·rw[ad3]at hj
      have hjl:o+j<cells.length:=by rw[hlen];exact(adh.1 hj).1
      have hrd:rdX C bad mM m n cells[o+j]=some x:=by
       have:=congrArg (·[o+j]?) hd
       simp only[adm,acF hjl,Option.map_some,hj,ady]at this
       exact this
      obtain⟨u,hu,UB⟩:=h3.get (acF hjl)
      have:vs.getD (o+j) undef=u:=by rw[aas,hu];rfl
      rw[this]
      exact ih hrd UB
    ·cases h
  cases a with
  |ptr l o=>
   obtain⟨b,hb,hv⟩:=hr
   unfold rdX at h
   split at h
   ·rename_i cells hl
    split at h
    ·cases h
    ·rename_i uz
     obtain⟨b',vs,e,h1,h2,h3,h4,h5⟩:=hg.obj _ _ hl
     rw[h1]at hb;cases hb
     exact key l o b vs e cells h1 h2 h4 (H8 _ _ b hl (.inl rfl) (fun _=>by simpa using uz) h1) hv h
   ·rename_i cells hl
    split at h
    ·rename_i hle
     obtain⟨b',vs,e,h1,h2,h3,h4,h5⟩:=hg.obj _ _ hl
     rw[h1]at hb;cases hb
     exact key l o b vs e cells h1 h2 h4 (H8 _ _ b hl (.inr hle) (fun h=>by simp[AObj.ro]at h) h1) hv h
    ·cases h
   ·cases h
  |_=>exact flat _ (fun _ _ e=>by cases e) h hr
inductive RV where
 |t (n:Nat)
 |c (a ty:Nat)
def RV.rv:RV->ResultVar
 | .t n=> .tmp n
 | .c a ty=> .cell a ty
def resK(C:Cfg)(s:ASt)(rs:List RV)(K:List AV->Prop):Prop:=
 match rs with
 | []=>K []
 | .t n::rs=>resK C s rs fun vs=>K (get s.t n::vs)
 | .c a ty::rs=>match get s.t a with
   | .ptr l q=>match look s.m l with
     |some (.box cells)=>vcLoad (C.T ty) cells q fun v=>resK C s rs fun vs=>K (v::vs)
     |_=>False
   |_=>False
def tupOf:List AV->AV
 | [r]=>r
 |rs=> .tup rs
def leR(m:List (Nat × AObj))(rn:List (Nat × Nat)):List (Nat × AObj)->Prop
 | []=>True
 |(l,o)::r=>look m (asN rn l)=some (renO rn o)/\leR m rn r
def Fin(C:Cfg)(rs:List RV)(rn:List (Nat × Nat))(res:AV)(m':List (Nat × AObj))(e:Exit)(s:ASt):Prop:=
 match e with
 | .ret| .normal=>resK C s rs fun vs=>cvt (fun a x=>rdX C (fun l=>m'.any fun p=>asN rn p.1==l) false s.m 4 a=some x) (tupOf vs) (renA rn res)/\leR s.m rn m'
 |_=>False
def params:Nat->List AV->List (Nat × AV)
 |_, []=> []
 |k,a::as=>(k,a)::params (k+1) as
theorem AE:∀(as:List AV) (k i:Nat),get (params k as) (k+i)=(as[i]?).getD .jA
 | [],k,i=>by simp[params,get]
 |a::as,k,0=>by simp[params,get]
 |a::as,k,i+1=>by
  simp only[params,get,List.getElem?_cons_succ]
  rw[ac7 (by omega),show k+(i+1)=k+1+i from by omega]
  exact AE as (k+1) i
def AF:List Value->Value
 | [r]=>r
 |rs=> .tuple rs.toArray
def xV(tmps:Array Value):ResultVar->Sem Value
 | .tmp t=>pure (tmps.getD t undef)
 | .cell a t=>do loadVar t (<- asAddr (tmps.getD a undef))
theorem uA{X:Ctx}(hX:X.Ok){E:Env}{s:ASt}{a:Act}{w:World}(h:bh X E s a w):∀ {rs:List RV} {K:List AV->Prop},resK X.C s rs K->
 ∃vs us,K vs/\AVrs w E vs us/\((rs.map RV.rv).mapM (xV a.tmps)).run X.P w= .ok us w
 | [],K,hK=>⟨[], [],hK,rfl,by simp⟩
 | .t n::rs,K,hK=>by
   simp only[resK]at hK
   obtain⟨vs,us,h1,h2,h3⟩:=uA hX h hK
   refine⟨_,_::us,h1,⟨_,_,rfl,h.slot n,h2⟩, ?_⟩
   rw[adC,ag4]
   simp only[Sem.run_bind,RV.rv,xV,Sem.run_pure,Result.andThen_ok,h3]
 | .c n ty::rs,K,hK=>by
   unfold resK at hK
   split at hK
   ·rename_i l q hg
    split at hK
    ·rename_i cells hl
     obtain⟨av,hK,hr⟩:=rZ (P:=X.P) (t:=ty) (fun ti r8=>hX.C.T ty ti r8) hK
     obtain⟨vs,us,h1,h2,h3⟩:=uA hX h hK
     obtain⟨b,cs,g1,g2,g3⟩:=Ap (h.good.obj l _ hl)
     have CR:=h.slot n
     rw[hg]at CR
     obtain⟨b',hb',CR⟩:=CR
     rw[g1]at hb';cases hb'
     obtain⟨v,hv,FF⟩:=hr w E b 0 cs g2 (fun j u hu=>by rw[adT];exact g3 j u hu)
     rw[adT]at hv
     refine⟨_,v::us,h1,⟨_,_,rfl,FF,h2⟩, ?_⟩
     have NT:(loadVar ty ⟨b,q,none⟩).run X.P w= .ok v w:=by simpa[Instr.loadAt,Instr.sureAddr]using hv
     rw[adC,ag4]
     simp only[Sem.run_bind,RV.rv,xV,CR,asAddr,Sem.run_pure,Result.andThen_ok,NT,h3]
    ·exact hK.elim
   ·exact hK.elim
theorem FQ{P:Program}{fn:Func}{rs:List RV}(h:fn.results=(rs.map RV.rv).toArray){tmps:Array Value}{w:World}{us:List Value}(hr:((rs.map RV.rv).mapM (xV tmps)).run P w= .ok us w):
 (results fn tmps).run P w= .ok (AF us) w:=by
 have e:results fn tmps=(do
  let vs <- fn.results.mapM (xV tmps)
  pure (if h:vs.size=1 then vs[0] else .tuple vs)):=by
  rfl
 rw[e]
 simp only[h,Array.mapM_eq_mapM_toList,Sem.run_bind,Sem.run_map,hr,Result.andThen_ok,Sem.run_pure]
 match us with
 | []=>simp[AF]
 | [r]=>simp[AF]
 |r::q::rs=>simp[AF]
theorem bn:∀ {m:List (Nat × AObj)} {l:Nat} {o:AObj},look m l=some o->(l,o)∈m
 | [],l,o,h=>by simp[look]at h
 |(i,q)::m,l,o,h=>by
  simp only[look]at h
  split at h
  ·rename_i hi;subst hi;cases h;exact adH
  ·exact adz _ (bn h)
theorem fG{m:List (Nat × AObj)}(hm:∀p∈m,p.2.isNest=false){l:Nat}{o:AObj}(h:bM m l=some o):look m l=some o/\nd l=none:=by
 unfold bM at h
 cases bR:nd l with
 |none=>rw[bR]at h;exact⟨h,rfl⟩
 |some p=>
  obtain⟨b,i⟩:=p
  rw[bR]at h
  exfalso
  simp only at h
  cases hq:look m b with
  |none=>rw[hq]at h;simp[inner]at h
  |some q=>
   have:=hm _ (bn hq)
   rw[hq]at h
   cases q<;>simp[inner]at h<;>simp[AObj.isNest]at this
theorem FR{m:List (Nat × AObj)}{rn:List (Nat × Nat)} :∀ {m':List (Nat × AObj)},leR m rn m'->∀ {l o},look m' l=some o->look m (asN rn l)=some (o.ren (asN rn))
 | [],_,l,o,h=>by simp[look]at h
 |(i,q)::m',hr,l,o,h=>by
  simp only[look]at h
  split at h
  ·rename_i hi;subst hi;cases h;rw[<- Sj];exact hr.1
  ·exact FR hr.2 h
structure Bk (w0 w w':World):Prop where
 os:w'.os=w.os
 tape:w'.tape=w.tape
 output:w'.output=w.output
 size:w.heap.size<=w'.heap.size
 blk:∀b,b<w.heap.size->w'.heap[b]? =w.heap[b]? \/(w0.heap.size<=b/\(∃q,w.heap[b]? =some q/\dJ q=true)/\∃q,w'.heap[b]? =some q/\dJ q=true)
theorem Bk.refl(w0 w:World):Bk w0 w w:=⟨rfl,rfl,rfl,adg _,fun _ _=> .inl rfl⟩
theorem Bk.trans{w0 w w' w'':World}(h:Bk w0 w w')(k:Bk w0 w' w''):Bk w0 w w'':=
 ⟨k.os.trans h.os,k.tape.trans h.tape,k.output.trans h.output,aej h.size k.size,fun b hb=>by
   rcases h.blk b hb with h1|⟨h1,h2,h3⟩
   ·rcases k.blk b (afb hb h.size) with k1|⟨k1,k2,k3⟩
    ·exact .inl (k1.trans h1)
    ·exact .inr ⟨k1,by rw[<- h1];exact k2,k3⟩
   ·rcases k.blk b (afb hb h.size) with k1|⟨k1,k2,k3⟩
    ·exact .inr ⟨h1,h2,by rw[k1];exact h3⟩
    ·exact .inr ⟨h1,h2,k3⟩⟩
theorem Bk.one{w0 w:World}{D:Nat}{q q':Obj}(h0:w0.heap.size<=D)(h:w.heap[D]? =some q)(hq:dJ q=true)(oW:dJ q'=true):Bk w0 w (w.putObj D q'):=
 ⟨rfl,rfl,rfl,by simp[World.putObj],fun b _=>by
   by_cases hb:b=D
   ·subst hb
    exact .inr ⟨h0,⟨q,h,hq⟩,q',World.putObj_heap_same (adq.1 h).1,oW⟩
   ·exact .inl (World.putObj_heap_other hb)⟩
theorem Bk.new(w0 w:World)(q:Obj):Bk w0 w (w.alloc q):=
 ⟨rfl,rfl,rfl,by simp,fun b hb=> .inl (RowKit.Below.heap_alloc w q b hb)⟩
theorem vD{P:Program}{fn:Func}{tmps:Array Value}{R:Ending->World->Prop}{w0:World} :∀ {ds:List Deferred} {w:World},(∀d∈ds,∃D,d= {target:= .collected D,args:= #[]} /\w0.heap.size<=D/\w.heap[D]? =some (.deferred (some [])))->ds.Nodup->
 (∀w',Bk w0 w w'->∃v,(results fn tmps).run P w'= .ok v w'/\R (.returned v) w')->LeavesInM Fence.wide 0 P fn tmps R ds .returning w
 | [],w,_,_,h=>h w (Bk.refl _ _)
 |d::ds,w,ha,hn,h=>by
  obtain⟨D,h1,h2,h3⟩:=ha d adH
  refine⟨by simp, .inl ⟨D,_,by rw[h1],run_takeDeferred h3, ?_⟩⟩
  refine vD (fun d' hd'=> ?_) (ad5.1 hn).2 fun w' hw'=>h w' ((Bk.one (q':= .deferred none) h2 h3 rfl rfl).trans hw')
  obtain⟨D',k1,k2,k3⟩:=ha d' (adz _ hd')
  refine⟨D',k1,k2, ?_⟩
  rw[World.putObj_heap_other]
  ·exact k3
  ·rintro rfl
   exact(ad5.1 hn).1 (by rw[h1, <- k1];exact hd')
theorem vE{q:Obj}(h:dJ q=true){w:World}{b o:Nat}(hb:w.heap[b]? =some q):w.cell? ⟨b,o,none⟩=none:=by
 unfold World.cell?
 cases q<;>simp[dJ]at h<;>simp[hb]
theorem Bk.UR{w0 w w':World}(h:Bk w0 w w'){z:Nat->Nat}(hz:∀b,w.heap.size<=b->z b=0):aK w z w' z:=fun b=>⟨adg _,fun o ho=>by
 have hb:b<w.heap.size:=by
  rcases adj b w.heap.size with h1|h1
  ·exact h1
  ·rw[hz b h1]at ho;omega
 rcases h.blk b hb with h1|⟨_,⟨q,h2,h4⟩,q',h3,h5⟩
 ·simp[World.cell?,h1]
 ·rw[vE h4 h2,vE h5 h3]⟩
theorem bh.bk{X:Ctx}{E:Env}{s:ASt}{a:Act}{w w':World}{ds:List Deferred}(h:bh X E s a w)(hs:Bk X.w0 w w')(hd:Marks X.lo X.bk ds w'):bh X E s {a with defers:=ds} w':=by
 have hst:=hs.UR h.good.fresh
 have hblk:∀ {l o b},bM s.m l=some o->E.ρ l=some b->w'.heap[b]? =w.heap[b]? :=fun {l o b} hl hb=>by
  have ho:=h.good.gw l o hl
  rcases hs.blk b (ho.lt hb) with h1|⟨_,⟨q,h2,h3⟩,_⟩
  ·exact h1
  ·exact absurd h2 (ho.Od hb q h3)
 refine⟨hd,h.size,⟨h.good.low,h.good.inj,fun l o hl=> ?_,fun b hb=>h.good.fresh b (aej hs.size hb)⟩,⟨hs.os.trans h.j6.os,hs.tape.trans h.j6.tape,hs.output.trans h.j6.output,aej h.j6.size hs.size,h.j6.st.trans hst,fun b hb hn=> ?_,h.j6.RG⟩,h.mine,fun k=> ?_⟩
 ·have:=bF.keep (k:= []) hst (fun _ _=>⟨rfl,rfl⟩) (fun l x hl=>by simp[kl]at hl) rfl (fun _ _=>rfl) (fun b hb=>⟨hblk hl hb,rfl⟩) (h.good.gw l o hl)
  rwa [AObj.mR]at this
 ·have hf:=h.j6.frame b hb hn
  rcases hs.blk b (afb hb h.j6.size) with h1|⟨h1,_⟩
  ·exact⟨h1.trans hf.1,hf.2⟩
  ·omega
 ·exact cG.mono (live:=fun _=>True) ⟨hst,fun _ _=>rfl,fun _ _=>rfl⟩ (fun _ _=>trivial) (h.slot k)
theorem OH{P:Program}{C:Cfg}{n:Nat}{rs:List RV}{rn:List (Nat × Nat)}{m:List (Nat × AObj)}{res:AV}{m':List (Nat × AObj)}{E E':Env}{w w':World}{s:ASt}{a':Act}
 (hX:Ctx.Ok ⟨P,C,n,m,E,w, [],w.heap.size⟩) (hE:bh ⟨P,C,n,m,E,w, [],w.heap.size⟩ E' s a' w') (hf:Fin C rs rn res m' .ret s)
 (nE:∀p∈m,10000<=p.1/\p.2.isNest=false) (hm':∀p∈m',p.1<20000/\p.2.isNest=false) (RJ:∀l,look m l≠none->asN rn l=l) (hinj:∀p∈m',∀q∈m',asN rn p.1=asN rn q.1->p.1=q.1):
 ∃us,((rs.map RV.rv).mapM (xV a'.tmps)).run P w'= .ok us w'/\Post m E w res m' (.returned (AF us)) w':=by
 have hplain:∀ {l o},bM m l=some o->look m l=some o:=fun hl=>(fG (fun p hp=>(nE p hp).2) hl).1
 obtain⟨vs,us,⟨h1,h2⟩,h3,h4⟩:=uA hX hE hf
 have kF:∀ {l o},bM m' l=some o->bM s.m (asN rn l)=some (o.ren (asN rn))/\(o.ren (asN rn)).isNest=false/\(l,o)∈m':=fun hl=>by
  have hl':=(fG (fun p hp=>(hm' p hp).2) hl).1
  exact⟨hE.good.bM (FR h2 hl'),by rw[AObj.AD];exact(hm' _ (bn hl')).2,bn hl'⟩
 obtain⟨z,hz⟩:∃z:Nat->Nat,∀b,((∃l o,bM s.m l=some o/\(∃p∈m',asN rn p.1=l)/\E'.ρ l=some b)\/(b<w.heap.size/\¬Oa m E b)->z b=E'.z b)/\
  (¬((∃l o,bM s.m l=some o/\(∃p∈m',asN rn p.1=l)/\E'.ρ l=some b)\/(b<w.heap.size/\¬Oa m E b))->z b=max (E'.z b) (dh w' b)):=by
  classical
  exact⟨fun b=>if((∃l o,bM s.m l=some o/\(∃p∈m',asN rn p.1=l)/\E'.ρ l=some b)\/(b<w.heap.size/\¬Oa m E b)) then E'.z b else max (E'.z b) (dh w' b),fun b=>⟨fun h=>by simp only[ac9 h],fun h=>by simp only[ac7 h]⟩⟩
 have Sd:∀b,E'.z b<=z b:=fun b=>by
  by_cases h:(∃l o,bM s.m l=some o/\(∃p∈m',asN rn p.1=l)/\E'.ρ l=some b)\/(b<w.heap.size/\¬Oa m E b)
  ·rw[(hz b).1 h];exact adg _
  ·rw[(hz b).2 h];exact agr _ _
 have hst:aK w' E'.z w' z:=fun b=>⟨Sd b,fun _ _=>rfl⟩
 have hkeep:Am w' E' w' ⟨E'.ρ,E'.σ,z⟩ fun _=>True:=⟨hst,fun _ _=>rfl,fun _ _=>rfl⟩
 have H8:∀l o b,look s.m l=some o->(o.ro=false\/false=true)->(o.ro=false->(m'.any fun p=>asN rn p.1==l)=false)->E'.ρ l=some b->dh w' b<=z b:=by
  intro l o b hl hro uz hb
  have hro:o.ro=false:=hro.resolve_right (by simp)
  have uz:=uz hro
  rw[(hz b).2 ?_]
  ·exact agj _ _
  ·rintro(⟨l',o',h1,⟨p,hp,dI⟩,h2⟩|⟨h1,h2⟩)
   ·have:=hE.good.inj l l' b (by rw[hE.good.bM hl];simp) (by rw[h1];simp) hb h2
    subst this
    rw[adU]at uz
    exact uz p hp (by simp[dI])
   ·rcases hE.mine l o b (hE.good.bM hl) hro hb with h3|h3
    ·simp only at h3;omega
    ·exact h2 h3
 refine⟨us,h4,_,(⟨E'.ρ,E'.σ,z⟩:Env).pre (asN rn),rfl,⟨hE.j6.os,hE.j6.tape,hE.j6.output,hE.j6.size,hE.j6.st.trans hst,fun b hb hnm=> ?_,fun l hl=> ?_⟩,⟨fun l hl=> ?_,fun l l' b hl hl' hb hb'=> ?_,fun l o hl=> ?_,fun b hb=> ?_⟩,fun l o b hl hro hb'=> ?_, ?_⟩
 ·have:=hE.j6.frame b hb hnm
  exact⟨this.1,((hz b).1 (.inr ⟨hb,hnm⟩)).trans this.2⟩
 ·obtain⟨o,ho⟩:=ade.1 hl
  have:=RJ l (by rw[hplain ho];simp)
  simp only[Env.pre,this]
  exact hE.j6.RG l hl
 ·obtain⟨o,ho⟩:=ade.1 hl
  exact(hm' _ (bn ho)).1
 ·obtain⟨o,ho⟩:=ade.1 hl
  obtain⟨o',ho'⟩:=ade.1 hl'
  obtain⟨g1,_,g2⟩:=kF ho
  obtain⟨Xs,_,Y5⟩:=kF ho'
  exact hinj _ g2 _ Y5 (hE.good.inj (asN rn l) (asN rn l') b (by simp[g1]) (by simp[Xs]) hb hb')
 ·obtain⟨g1,g3,g2⟩:=kF hl
  refine(vA (by rw[AObj.AD]at g3;exact g3)).2 ?_
  have:=bF.keep (k:= []) (E':=⟨E'.ρ,E'.σ,z⟩) hst (fun _ _=>⟨rfl,rfl⟩) (fun l x hl=>by simp[kl]at hl) rfl (fun _ _=>rfl) (fun b hb=>⟨rfl,(hz b).1 (.inl ⟨_,_,g1,⟨_,g2,rfl⟩,hb⟩)⟩) (hE.good.gw _ _ g1)
  rwa [AObj.mR]at this
 ·by_cases h:(∃l o,bM s.m l=some o/\(∃p∈m',asN rn p.1=l)/\E'.ρ l=some b)\/(b<w.heap.size/\¬Oa m E b)
  ·exact((hz b).1 h).trans (hE.good.fresh b hb)
  ·refine((hz b).2 h).trans ?_
   rw[hE.good.fresh b hb]
   simp[dh,aeg hb]
 ·obtain⟨g1,_,_⟩:=kF hl
  exact hE.mine _ _ b g1 (by rw[AObj.OG];exact hro) hb'
 ·refine vv.2 ?_
  rw[<- Si]
  refine Kt hkeep (fun a x v RM hr=>vC hE.good hst H8 RM hr) h1 ?_
  match vs,us,h3 with
  | [],us,h3=>simp only[AVrs]at h3;subst h3;exact⟨[],rfl,rfl⟩
  | [v],us,h3=>obtain⟨u,us',rfl,g1,g2⟩:=h3;simp only[AVrs]at g2;subst g2;exact g1
  |v::v'::vs,us,h3=>
   obtain⟨u,us',rfl,g1,u',Sl,rfl,g2⟩:=h3
   exact⟨u::u'::Sl,rfl,⟨u,_,rfl,g1,u',_,rfl,g2⟩⟩
theorem Spec.OI{P:Program}{C:Cfg}{f:Nat}{fn:Func}{c:Code}{n:Nat}{rs:List RV}(rn:List (Nat × Nat)){A:Env->World->List Value->Prop}{m:List (Nat × AObj)}{res:AV}{m':List (Nat × AObj)}
 (hC:C.Ok P) (hf:P.funcs[f]? =some fn) (hb:fn.body=some c) (hname:(fn.name== "runtime.NumGoroutine")=false) (hn:fn.ntmps=n) (xO:fn.results=(rs.map RV.rv).toArray)
 (nE:∀p∈m,10000<=p.1/\p.2.isNest=false) (hm':∀p∈m',p.1<20000/\p.2.isNest=false) (RJ:∀l,look m l≠none->asN rn l=l) (hinj:∀p∈m',∀q∈m',asN rn p.1=asN rn q.1->p.1=q.1) (hk:vk n c=true)
 (h:∀X:Ctx,X.Ok->X.P=P->X.C=C->X.n=n->X.m0=m->∀vals,A X.E0 X.w0 vals->∃args,args.length<=n/\AVrs X.w0 X.E0 args vals/\cR X c (Fin C rs rn res m') ⟨params 0 args,m⟩):Spec P f A m res m':=by
 refine⟨⟨fn,c,hf,hname,hb⟩,fun E w vals hg hA=> ?_⟩
 have hplain:∀ {l o},bM m l=some o->look m l=some o:=fun hl=>(fG (fun p hp=>(nE p hp).2) hl).1
 have hX:Ctx.Ok ⟨P,C,n,m,E,w, [],w.heap.size⟩:=⟨hC,fun l hl=>by
  obtain⟨o,ho⟩:=ade.1 hl
  exact(nE _ (bn (hplain ho))).1,adg _⟩
 obtain⟨args,hlen,hargs,hwp⟩:=h ⟨P,C,n,m,E,w, [],w.heap.size⟩ hX rfl rfl rfl rfl vals hA
 have hvl:=hargs.length
 have hsz:(vals.toArray++Array.replicate (fn.ntmps - vals.toArray.size) undef).size=n:=by simp[hn];omega
 refine callsIn_wide.1 (callsIn_of_wp_marks (n:=0) (F:=Fence.wide) hf hb trivial (wpIn_wide.2 (wp_mono (hwp.run hk _ _ ⟨E,Marks.nil,hsz,hg,Ob.refl _ _ _,fun l o b hl hro hb'=> .inr ⟨l,o,hl,hro,hb'⟩,fun k=> ?_⟩) ?_)))
 ·have Y6:=AE args 0 k
  rw[adT]at Y6
  rw[Y6]
  cases ha:args[k]? with
  |none=>trivial
  |some av=>
   obtain⟨u,hu,hr⟩:=hargs.get ha
   have:(vals.toArray++Array.replicate (fn.ntmps - vals.toArray.size) undef).getD k undef=u:=by
    have cM:k<vals.length:=(adh.1 hu).1
    rw[adS,aes (by simpa using cM)]
    simp[hu]
   rw[this];exact hr
 ·rintro e a0 w1 ⟨s,hq,E',Z0⟩
  have fin:Fin C rs rn res m' .ret s->LeavesInM Fence.wide 0 P fn a0.tmps (Post m E w res m') a0.defers .returning w1:=by
   intro hf
   refine vD Z0.defers.all Z0.defers.nd fun w' hsh=> ?_
   have hE:=Z0.bk hsh Marks.nil
   obtain⟨a',TZ⟩:∃a':Act,a'= {a0 with defers:= []} :=⟨_,rfl⟩
   rw[<- TZ]at hE
   rw[show a0.tmps=a'.tmps by rw[TZ]]
   obtain⟨us,h1,h2⟩:=OH hX hE hf nE hm' RJ hinj
   exact⟨_,FQ xO h1,h2⟩
  cases e with
  |ret=>exact fin hq
  |normal=>exact fin hq
  |_=>exact hq.elim
theorem Spec.intro{P:Program}{C:Cfg}{f:Nat}{fn:Func}{c:Code}{n:Nat}{rs:List RV}{A:Env->World->List Value->Prop}{m:List (Nat × AObj)}{res:AV}{m':List (Nat × AObj)}
 (hC:C.Ok P) (hf:P.funcs[f]? =some fn) (hb:fn.body=some c) (hname:(fn.name== "runtime.NumGoroutine")=false) (hn:fn.ntmps=n) (xO:fn.results=(rs.map RV.rv).toArray)
 (nE:∀p∈m,10000<=p.1/\p.2.isNest=false) (hm':∀p∈m',p.1<20000/\p.2.isNest=false) (hk:vk n c=true)
 (h:∀X:Ctx,X.Ok->X.P=P->X.C=C->X.n=n->X.m0=m->∀vals,A X.E0 X.w0 vals->∃args,args.length<=n/\AVrs X.w0 X.E0 args vals/\cR X c (Fin C rs [] res m') ⟨params 0 args,m⟩):Spec P f A m res m':=
 Spec.OI [] hC hf hb hname hn xO nE hm' (fun _ _=>rfl) (fun p _ q _ h=>h) hk h
def renM(π:Nat->Nat):List (Nat × AObj)->List (Nat × AObj)
 | []=> []
 |(l,o)::r=>match o with
  | .rob _=>renM π r
  |o=>(π l,o.ren π)::renM π r
def killM(π:Nat->Nat)(m':List (Nat × AObj)):List (Nat × AObj)->List (Nat × Option D)
 | []=> []
 |(l,_)::r=>match look m' l with
  |none=>(π l,none)::killM π m' r
  |some _=>killM π m' r
theorem vF{π:Nat->Nat}{m':List (Nat × AObj)} :∀ {m:List (Nat × AObj)} {k:Nat},kl (killM π m' m) k≠none->∃l,look m l≠none/\look m' l=none/\π l=k
 | [],k,h=>absurd rfl h
 |(l,o)::r,k,h=>by
  simp only[killM]at h
  split at h
  ·rename_i hl
   simp only[kl]at h
   split at h
   ·rename_i hk;exact⟨l,by simp[look],hl,hk⟩
   ·obtain⟨l',h1,h2,h3⟩:=vF h
    exact⟨l',by simp only[look];split<;>simp_all,h2,h3⟩
  ·obtain⟨l',h1,h2,h3⟩:=vF h
   exact⟨l',by simp only[look];split<;>simp_all,h2,h3⟩
theorem AG{π:Nat->Nat}{m':List (Nat × AObj)} :∀ {m:List (Nat × AObj)} {l:Nat},look m l≠none->look m' l=none->kl (killM π m' m) (π l)≠none
 | [],l,h,_=>absurd rfl h
 |(i,o)::r,l,h,h'=>by
  simp only[look]at h
  simp only[killM]
  by_cases hil:i=l
  ·subst hil
   simp[h',kl]
  ·simp only[hil,if_false]at h
   have ih:=AG (π:=π) h h'
   split
   ·simp only[kl];split
    ·simp
    ·exact ih
   ·exact ih
theorem uB{π:Nat->Nat}{m':List (Nat × AObj)} :∀ {m:List (Nat × AObj)} {k:Nat} {x:D},kl (killM π m' m) k≠some (some x)
 | [],k,x=>by simp[killM,kl]
 |(i,o)::r,k,x=>by
  simp only[killM]
  have ih:=uB (π:=π) (m':=m') (m:=r) (k:=k) (x:=x)
  split
  ·simp only[kl];split
   ·simp
   ·exact ih
  ·exact ih
theorem nO:∀(a b:List (Nat × Option D)) (k:Nat),kl (a++b) k=match kl a k with|some x=>some x|none=>kl b k
 | [],b,k=>rfl
 |(i,x)::a,b,k=>by
  simp only[List.cons_append,kl]
  split
  ·rfl
  ·exact nO a b k
theorem kY{π:Nat->Nat} :∀ {m:List (Nat × AObj)} {k:Nat} {o':AObj},look (renM π m) k=some o'->∃p∈m,p.2.ro=false/\π p.1=k/\o'=p.2.ren π
 | [],k,o',h=>by simp[renM,look]at h
 |(l,o)::r,k,o',h=>by
  have step:look (renM π r) k=some o'->∃p∈(l,o)::r,p.2.ro=false/\π p.1=k/\o'=p.2.ren π:=fun h=>by
   obtain⟨p,h1,h2⟩:=kY h
   exact⟨p,by simp[h1],h2⟩
  cases o<;>simp only[renM]at h
  case rob cells=>exact step h
  all_goals
   simp only[look]at h
   split at h
   ·rename_i hk;cases h;exact⟨_,adH,rfl,hk,rfl⟩
   ·exact step h
theorem CT{π:Nat->Nat} :∀ {m:List (Nat × AObj)} {p:Nat × AObj},p∈m->p.2.ro=false->look (renM π m) (π p.1)≠none
 | [],p,h,_=>by cases h
 |(l,o)::r,p,h,hro=>by
  rcases adv.1 h with rfl|h
  ·cases o<;>simp only[renM]<;>first|(simp[AObj.ro]at hro;done)|simp[look]
  ·have ih:=CT (π:=π) h hro
   cases o<;>simp only[renM]<;>first|exact ih|(simp only[look];split<;>first|(simp;done)|exact ih)
def nodupM:List (Nat × AObj)->Prop
 | []=>True
 |(l,_)::r=>look r l=none/\nodupM r
theorem aL:∀ {m:List (Nat × AObj)},nodupM m->∀ {p:Nat × AObj},p∈m->look m p.1=some p.2
 | [],_,p,h=>by cases h
 |(i,q)::m,hn,p,h=>by
  rcases adv.1 h with rfl|h
  ·simp[look]
  ·have ih:=aL hn.2 h
   simp only[look]
   split
   ·rename_i hi;subst hi;rw[hn.1]at ih;cases ih
   ·exact ih
theorem sq{X:Ctx}{E:Env}{s s':ASt}{a:Act}{w:World}(hE:bh X E s' a w):∀(xs:List Operand) (ts:List Nat),(∀p∈rsOf s xs,get s'.t p.1=p.2)->AVrs w E (evA X.C s xs ts) (xs.map a.eval)
 | [],ts,_=>by cases ts<;>rfl
 |x::xs,ts,h=>by
  have hx:∀ty,cG w E (aev X.C ty s x) (a.eval x):=fun ty=>hE.evs h _ _ (by simp)
  have ht:∀p∈rsOf s xs,get s'.t p.1=p.2:=fun p hp=>h p (by cases x<;>simp[rsOf,hp])
  cases ts with
  |nil=>exact⟨_,_,rfl,hx 0,sq hE xs [] ht⟩
  |cons t ts=>exact⟨_,_,rfl,hx t,sq hE xs ts ht⟩
theorem dG{P:Program}{f:FuncId}{fn:Func}{c:Code}(hf:P.funcs[f]? =some fn)(hname:(fn.name== "runtime.NumGoroutine")=false)(hb:fn.body=some c)(args:Array Value)(w:World):
 (callFunc f args).run P w= .ok (.enter f args) w:=by
 have h1:fn.name≠ "runtime.NumGoroutine" :=by simpa using hname
 simp[callFunc,hf,h1,hb]
section
variable {X:Ctx} {o:Oper} {s:ASt} {K:LA->Prop}
structure Over (π:Nat->Nat) (mm m:List (Nat × AObj)) (m':List (Nat × AObj)) (res:AV):Prop where
 hm:∀p∈m,(π p.1,p.2.ren π)∈mm\/∃cells,p.2= .rob cells/\(π p.1, .box (AV.rens π cells))∈mm
 nd:nodupM m
 nd':nodupM m'
 pl:∀p∈m,p.1<20000/\p.2.isNest=false
 pl':∀p∈m',p.1<20000/\p.2.isNest=false
 inj:∀l l',(look m l≠none\/look m' l≠none)->(look m l'≠none\/look m' l'≠none)->π l=π l'->l=l'
 new:∀p∈m',look m p.1=none->π p.1<10000
 ro:∀p∈m',p.2.ro=true->look m p.1=some p.2
 ro':∀p∈m,p.2.ro=true->look m' p.1=some p.2
 idr:∀l∈res.ids,look m' l≠none
 idm:∀p∈m',∀l∈p.2.ids,look m' l≠none
section
variable {π:Nat->Nat} {mm m m':List (Nat × AObj)} {res:AV} {E:Env} {w:World} {s':ASt}
theorem Over.obj(h:Over π mm m m' res)(hg:Good s'.m E w)(hmm:∀p∈mm,look s'.m p.1=some p.2):∀l q,look m l=some q->∃q',look s'.m (π l)=some q'/\(q.ro=false->q'=q.ren π)/\bF w (E.pre π) l q:=by
 intro l q hl
 rcases h.hm _ (bn hl) with h0|⟨cells,h1,h2⟩
 ·have:=hmm _ h0
  exact⟨_,this,fun _=>rfl,(vA (h.pl _ (bn hl)).2).2 (hg.obj _ _ this)⟩
 ·simp only at h1
  subst h1
  have:=hmm _ h2
  exact⟨_,this,fun h=>by simp[AObj.ro]at h,(vA rfl).2 (show bF w E (π l) (.box (AV.rens π cells)) from hg.obj _ _ this)⟩
theorem Over.good(h:Over π mm m m' res)(hg:Good s'.m E w)(hmm:∀p∈mm,look s'.m p.1=some p.2):Good m (E.pre π) w:=by
 have pl:∀ {l o},bM m l=some o->look m l=some o:=fun hl=>(fG (fun p hp=>(h.pl p hp).2) hl).1
 refine⟨fun l hl=> ?_,fun l l' b hl hl' hb hb'=> ?_,fun l q hl=> ?_,hg.fresh⟩
 ·obtain⟨q,hq⟩:=ade.1 hl
  exact(h.pl _ (bn hq)).1
 ·obtain⟨q,hq⟩:=ade.1 hl
  obtain⟨q',oW⟩:=ade.1 hl'
  have hq:=pl hq
  have oW:=pl oW
  obtain⟨r,h1,_⟩:=h.obj hg hmm l q hq
  obtain⟨r',CO,_⟩:=h.obj hg hmm l' q' oW
  exact h.inj l l' (.inl (by simp[hq])) (.inl (by simp[oW])) (hg.inj _ _ b (by simp[hg.bM h1]) (by simp[hg.bM CO]) hb hb')
 ·obtain⟨q',_,_,h⟩:=h.obj hg hmm l q (pl hl);exact h
end
theorem Post.core(hX:X.Ok){π:Nat->Nat}{mm m m':List (Nat × AObj)}{res:AV}(ho:Over π mm m m' res){rs:List (Nat × AV)}{dst:Option Nat}{s':ASt}{E:Env}{a:Act}{w w':World}(hdn:∀d,dst=some d->d<X.n)
 (hE:bh X E s' a w) (hmm:∀p∈mm,look s'.m p.1=some p.2) {v:Value} {E':Env} (hst:Ob m (E.pre π) w E' w') (hg':Good m' E' w') (qg:∀l o b,bM m' l=some o->o.ro=false->E'.ρ l=some b->w.heap.size<=b\/Oa m (E.pre π) b) (hres:cG w' E' res v):
 ∃E2:Env,bh X E2 ((⟨rs,mm,killM π m m'++killM π m' m,renM π m',dst,res.ren π⟩:LA).app s') (a.put dst v) w'/\E2.z=E'.z/\∀k,look m' k≠none->E2.ρ (π k)=E'.ρ k/\E2.σ (π k)=E'.σ k:=by
 obtain⟨hm,hnm,zv,dI,tD,hinj,hnew,hro,Ir,FT,CA⟩:=ho
 have Xt:=Over.obj (res:=res) ⟨hm,hnm,zv,dI,tD,hinj,hnew,hro,Ir,FT,CA⟩ hE.good hmm
 have pl:∀ {l o},bM m l=some o->look m l=some o:=fun hl=>(fG (fun p hp=>(dI p hp).2) hl).1
 have up:∀ {l o},look m l=some o->bM m l=some o:=fun hl=>by rw[bJ (by have:=(dI _ (bn hl)).1;omega)];exact hl
 have up':∀ {l o},look m' l=some o->bM m' l=some o:=fun hl=>by rw[bJ (by have:=(tD _ (bn hl)).1;omega)];exact hl
 have Xu:∃pick:Nat->Option Nat,(∀k,look m' k≠none->pick (π k)=some k)/\∀l k,pick l=some k->look m' k≠none/\π k=l:=by
  classical
  refine⟨fun l=>if h:∃k,look m' k≠none/\π k=l then some h.choose else none,fun k hk=> ?_,fun l k hl=> ?_⟩
  ·have h:∃k',look m' k'≠none/\π k'=π k:=⟨k,hk,rfl⟩
   simp only[h,dif_pos,ady]
   have:=h.choose_spec
   exact hinj _ _ (.inr this.1) (.inr hk) this.2
  ·simp only at hl
   split at hl
   ·rename_i h;cases hl;exact h.choose_spec
   ·cases hl
 obtain⟨pick,hp1,hp2⟩:=Xu
 let E2:Env:=⟨fun l=>match pick l with|some k=>E'.ρ k|none=>E.ρ l,fun l=>match pick l with|some k=>E'.σ k|none=>E.σ l,E'.z⟩
 have e1:∀k,look m' k≠none->E2.ρ (π k)=E'.ρ k/\E2.σ (π k)=E'.σ k:=fun k hk=>by simp[E2,hp1 k hk]
 have Ku:∀l,look m' l≠none->(E2.pre π).ρ l=E'.ρ l/\(E2.pre π).σ l=E'.σ l:=fun l hl=>e1 l hl
 have L7:∀l,kl (killM π m m'++killM π m' m) l=none->kl (killM π m m') l=none/\kl (killM π m' m) l=none:=by
  intro l hl
  rw[nO]at hl
  split at hl
  ·cases hl
  ·exact⟨by assumption,hl⟩
 have OJ:∀b,Oa m (E.pre π) b->∃l0 q0,bM s'.m l0=some q0/\q0.ro=false/\E.ρ l0=some b/\(kl (killM π m m'++killM π m' m) l0≠none\/look (renM π m') l0≠none):=by
  rintro b ⟨l,q,hl,Sm,hb⟩
  have hl:=pl hl
  obtain⟨q',h1,h2,_⟩:=Xt l q hl
  refine⟨π l,q',hE.good.bM h1,by rw[h2 Sm,AObj.OG];exact Sm,hb, ?_⟩
  cases hq:look m' l with
  |none=>
   left
   rw[nO]
   split
   ·simp
   ·exact AG (by simp[hl]) hq
  |some r=>
   right
   have Z3:r.ro=false:=by
    cases hr:r.ro with
    |false=>rfl
    |true=>
     have:=hro _ (bn hq) hr
     simp only at this
     rw[hl]at this;cases this
     rw[hr]at Sm;cases Sm
   exact CT (p:=(l,r)) (bn hq) Z3
 have Z4:∀k,look m k≠none\/look m' k≠none->π k<20000:=by
  intro k hk
  by_cases hkm:look m k=none
  ·obtain⟨q,hq⟩:=ade.1 (hk.resolve_left (by simp[hkm]))
   have:=hnew _ (bn hq) hkm
   simp only at this;omega
  ·obtain⟨q,hq⟩:=ade.1 hkm
   obtain⟨q',h1,_⟩:=Xt k q hq
   exact hE.good.low _ (by simp[h1])
 have Sn:∀l,kl (killM π m m'++killM π m' m) l≠none->l<20000:=by
  intro l hl
  rw[nO]at hl
  split at hl
  ·rename_i y hy
   obtain⟨k,h1,h2,h3⟩:=vF (k:=l) (by rw[hy];simp)
   rw[<- h3];exact Z4 k (.inr h1)
  ·obtain⟨k,h1,h2,h3⟩:=vF hl
   rw[<- h3];exact Z4 k (.inl h1)
 refine⟨E2,hE.app' ⟨rs,mm,killM π m m'++killM π m' m,renM π m',dst,res.ren π⟩ E2 w' v hst.st hst.os hst.tape hst.output hst.size (fun l hl=> ?_) (fun l x hl=> ?_) (fun l hl=> ?_) Sn (fun l q hl=> ?_) (fun b hb=> ?_) (fun l q hl=> ?_) (fun l l' b hl hl' hb hb'=> ?_) (fun l b hl hb=> ?_) hg'.fresh ?_ hdn,rfl,e1⟩
 ·
  obtain⟨k1,k2⟩:=L7 l hl
  simp only[E2]
  cases hpk:pick l with
  |none=>exact⟨rfl,rfl⟩
  |some k=>
   obtain⟨h1,h2⟩:=hp2 l k hpk
   subst h2
   have hkm:look m k≠none:=by
    intro hkm
    exact AG (π:=π) h1 hkm k1
   obtain⟨q,hq⟩:=ade.1 hkm
   exact hst.RG k (by simp[up hq])
 ·rw[nO]at hl
  split at hl
  ·rename_i y hy;cases hl;exact absurd hy uB
  ·exact absurd hl uB
 ·
  have nE:=hX.low l hl
  simp only[E2]
  cases hpk:pick l with
  |none=>exact⟨rfl,rfl⟩
  |some k=>
   obtain⟨h1,h2⟩:=hp2 l k hpk
   subst h2
   by_cases hkm:look m k=none
   ·obtain⟨q,hq⟩:=ade.1 h1
    have:=hnew _ (bn hq) hkm
    simp only at this;omega
   ·obtain⟨q,hq⟩:=ade.1 hkm
    exact hst.RG k (by simp[up hq])
 ·obtain⟨p,h1,h2,h3,rfl⟩:=kY hl
  subst h3
  have hl':=aL zv h1
  exact⟨Z4 _ (.inr (by simp[hl'])),by rw[AObj.AD];exact(tD p h1).2⟩
 ·by_cases Xv:Oa m (E.pre π) b
  ·exact .inr (OJ b Xv)
  ·exact .inl (hst.frame b hb Xv)
 ·obtain⟨p,h1,h2,h3,rfl⟩:=kY hl
  subst h3
  have hl':=aL zv h1
  have hn:=(tD p h1).2
  refine(vA hn).1 (bF.congr (live:=fun l=>look m' l≠none) (E:=E') (E':=E2.pre π) rfl (fun l hl=>(Ku l hl).1) (fun l hl=>(Ku l hl).2) hn (by simp[hl']) (CA p h1) (hg'.obj _ _ hl'))
 ·obtain⟨q,hq⟩:=ade.1 hl
  obtain⟨q',oW⟩:=ade.1 hl'
  obtain⟨p,h1,h2,h3,_⟩:=kY hq
  obtain⟨p',CO,NU,NV,_⟩:=kY oW
  subst h3;subst NV
  have g1:=aL zv h1
  have Xs:=aL zv CO
  rw[(e1 _ (by simp[g1])).1]at hb
  rw[(e1 _ (by simp[Xs])).1]at hb'
  rw[hg'.inj _ _ b (by simp[up' g1]) (by simp[up' Xs]) hb hb']
 ·obtain⟨q,hq⟩:=ade.1 hl
  obtain⟨p,h1,h2,h3,_⟩:=kY hq
  subst h3
  have g1:=aL zv h1
  rw[(e1 _ (by simp[g1])).1]at hb
  rcases qg _ _ b (up' g1) h2 hb with h|h
  ·exact .inl h
  ·exact .inr (OJ b h)
 ·refine vv.1 (cG.mono (live:=fun l=>look m' l≠none) (E:=E') (E':=E2.pre π) ⟨aK.refl _ _,fun l hl=>(Ku l hl).1,fun l hl=>(Ku l hl).2⟩ FT hres)
theorem Post.back(hX:X.Ok){π:Nat->Nat}{mm m m':List (Nat × AObj)}{res:AV}(ho:Over π mm m m' res){rs:List (Nat × AV)}{dst:Option Nat}{s':ASt}{E:Env}{a:Act}{w w':World}{e:Ending}(hdn:∀d,dst=some d->d<X.n)
 (hE:bh X E s' a w) (hmm:∀p∈mm,look s'.m p.1=some p.2) (hp:Post m (E.pre π) w res m' e w'):
 ∃v E2,e= .returned v/\bh X E2 ((⟨rs,mm,killM π m m'++killM π m' m,renM π m',dst,res.ren π⟩:LA).app s') (a.put dst v) w':=by
 obtain⟨v,E',rfl,hst,hg',qg,hres⟩:=hp
 obtain⟨E2,h,_⟩:=Post.core hX ho (rs:=rs) hdn hE hmm hst hg' qg hres
 exact⟨v,E2,rfl,h⟩
theorem CU(hX:X.Ok){c:Call}{fo:Operand}{f:Nat}{first caps as:List AV}(π:Nat->Nat){A:Env->World->List Value->Prop}{m:List (Nat × AObj)}{res:AV}{m':List (Nat × AObj)}(mm:List (Nat × AObj))
 (hs:Spec X.P f A m res m') (ho:o.op= .call c) (hc:c.callee= .value fo) (hf:aev X.C 0 s fo= .fn f first caps) (has:evA X.C s c.args.toList c.argTypes.toList=as)
 (hmm:∀p∈mm,look s.m p.1=some p.2)
 (hm:∀p∈m,(π p.1,p.2.ren π)∈mm\/∃cells,p.2= .rob cells/\(π p.1, .box (AV.rens π cells))∈mm)
 (hnm:nodupM m) (zv:nodupM m') (dI:∀p∈m,p.1<20000/\p.2.isNest=false) (tD:∀p∈m',p.1<20000/\p.2.isNest=false)
 (hinj:∀l l',(look m l≠none\/look m' l≠none)->(look m l'≠none\/look m' l'≠none)->π l=π l'->l=l')
 (hnew:∀p∈m',look m p.1=none->π p.1<10000)
 (hro:∀p∈m',p.2.ro=true->look m p.1=some p.2) (Ir:∀p∈m,p.2.ro=true->look m' p.1=some p.2)
 (FT:∀l∈res.ids,look m' l≠none) (CA:∀p∈m',∀l∈p.2.ids,look m' l≠none)
 (hA:∀s' E a w,(∀p∈mm,look s'.m p.1=some p.2)->bh X E s' a w->∀vals,AVrs w E (first++as++caps) vals->A (E.pre π) w vals)
 (hK:K ⟨rsOf s (fo::c.args.toList),mm,killM π m m'++killM π m' m,renM π m',o.dst,res.ren π⟩):∃la,aN X o la/\Sat la s/\K la:=by
 refine⟨_,⟨rfl, ?_⟩,⟨aH s _,hmm⟩,hK⟩
 rintro s' a w hdn jI ⟨E,hE⟩
 have hfo:=hE.evs jI.1 X.C 0 (x:=fo) (by simp)
 rw[hf]at hfo
 obtain⟨us,vs,hfo,uu,tQ⟩:=hfo
 have hargs:=sq (s:=s) hE c.args.toList c.argTypes.toList (fun p hp=>jI.1 p (by cases fo<;>simp[rsOf,hp]))
 rw[has]at hargs
 have AH:AVrs w E (first++as++caps) (us++c.args.toList.map a.eval++vs):=(uu.append hargs).append tQ
 obtain⟨fn,cd,hfn,hname,hbody⟩:=hs.can
 have hrun:(execOp a.eval o).run X.P w= .ok (.enter f (us++c.args.toList.map a.eval++vs).toArray) w:=by
  have h1:us.toArray++c.args.map a.eval++vs.toArray=(us++c.args.toList.map a.eval++vs).toArray:=by
   apply adW.1;simp
  have h2:=dG (P:=X.P) hfn hname hbody (us.toArray++c.args.map a.eval++vs.toArray) w
  rw[h1]at h2
  simp only[execOp,ho,resolve,hc,hfo,Deferred.ofValue,Sem.run_bind,Sem.run_pure,Result.andThen_ok,invoke]
  rw[h1];exact h2
 have ho:Over π mm m m' res:=⟨hm,hnm,zv,dI,tD,hinj,hnew,hro,Ir,FT,CA⟩
 unfold Oper.wp
 rw[hrun]
 refine(hs.calls (E.pre π) w _ (ho.good hE.good jI.2) (hA s' E a w jI.2 hE _ AH)).mono ?_
 rintro e w' hp
 obtain⟨v,E2,rfl,L8⟩:=hp.back hX ho hdn hE jI.2
 exact⟨E2,L8⟩
end
inductive Key where
 |slot (t:Nat)
 |obj (l:Nat)
 |cell (l q:Nat)
 deriving DecidableEq
inductive KV where
 |av (a:AV)
 |ob (o:Option AObj)
def jJ(o:Option AObj)(q:Nat):KV:=match o with
 |some (.box cells)|some (.rob cells)=>match cells[q]? with|some v=> .av v|none=> .ob none
 |_=> .ob none
def bf(s:ASt):Key->KV
 | .slot t=> .av (get s.t t)
 | .obj l=> .ob (look s.m l)
 | .cell l q=>if q<16 then jJ (look s.m l) q else .ob none
def KV.sub(k:List (Nat × Option D)):KV->KV
 | .av a=> .av (a.sub k)
 | .ob o=> .ob (o.map (AObj.sub k))
def KV.ids:KV->List Nat
 | .av a=>a.ids
 | .ob (some o)=>o.ids
 | .ob none=> []
structure Rec where
 la:LA
 hs:List (Nat × AV)
 hm:List (Nat × AObj)
 cs:List (Nat × Nat × AV)
def Rec.rs(r:Rec):List (Key × KV):=(r.la.rs++r.hs).map (fun p=>(.slot p.1, .av p.2))++(r.la.ms++r.hm).map (fun p=>(.obj p.1, .ob (some p.2)))++r.cs.map (fun p=>(.cell p.1 p.2.1, .av p.2.2))
def Rec.xW(r:Rec):List Key:=(match r.la.dst with|some d=> [Key.slot d]|none=> [])++r.hs.map (fun p=> .slot p.1)++r.la.iw.map (fun p=> .obj p.1)++r.la.kill.map (fun p=> .obj p.1)++r.hm.map (fun p=> .obj p.1)
def Rec.fm(r:Rec):List Nat:=r.la.kill.map (·.1)
def meets(a b:List Nat):Bool:=a.any fun x=>b.contains x
def Rec.US(r:Rec):List Key:=(r.la.iw.map (·.1)++r.fm).flatMap (fun l=>(List.range 16).map (Key.cell l))++r.hm.flatMap (fun p=>((List.range 16).filter fun q=>meets (jJ (some p.2) q).ids r.fm).map (Key.cell p.1))
def Rec.wr(r:Rec):List Key:=r.xW++r.US
def Rec.names(r:Rec):List Nat:=(r.rs.flatMap fun p=>p.2.ids)++r.la.v.ids++(r.la.iw.flatMap fun p=>p.2.ids)
def D9(a b:List Key):Bool:=a.any fun x=>b.contains x
def Rec.UT(r:Rec):Key->Bool
 | .cell l q=>(r.la.iw.any fun p=>p.1==l)||r.fm.contains l||r.hm.any fun p=>p.1==l&&meets (jJ (some p.2) q).ids r.fm
 |k=>r.xW.contains k
def lS(i j:Rec):Bool:=
 (j.rs.any fun p=>i.UT p.1)||D9 i.xW j.xW||(i.rs.any fun p=>j.UT p.1)||meets i.fm j.names||meets j.fm i.names
def nP(o:Oper)(j:Nat):Bool:=o.after.toList.any fun e=>Region.binds .any e&&e.on==j
def NW(l:List Oper):Nat->Oper->Nat->Bool
 |0,o,j=>nP o j
 |n+1,o,j=>nP o j||o.after.toList.any fun e=>Region.binds .any e&&decide (j<e.on)&&match l[e.on]? with|some o'=>NW l n o' j|none=>false
def vG(l:List Oper)(log:List Rec):List (Nat × Oper × Rec)->Bool
 | []=>true
 |(j,o,r)::rest=>(log.zipIdx.all fun p=>decide (j<=p.2)||NW l 4 o p.2|| !(lS p.1 r)||NW l 9 o p.2)&&(o.after.toList.all fun e=> !(Region.binds .any e)||decide (e.on<j))&&vG l log rest
def AA(l:List Oper)(log:List Rec):Bool:=log.length==l.length&&vG l log ((l.zip log).zipIdx.map fun p=>(p.2,p.1.1,p.1.2))
inductive vH:List Rec->ASt->ASt->Prop
 |nil (s):vH [] s s
 |cons {r rs s s' e} (jI:∀p∈r.rs,bf s p.1=p.2) (hs:∀k,bf s' k=bf (r.la.app s) k) (hw:∀k,k∉r.wr->bf s' k=bf s k/\∀x∈(bf s k).ids,x∉r.fm) (h:vH rs s' e):vH (r::rs) s e
mutual
theorem AV.mT{k:List (Nat × Option D)} :∀ {a:AV},(∀x∈a.ids,kl k x=none)->a.sub k=a
 | .jA,_=>rfl
 | .nil _,_=>rfl
 | .emp _,_=>rfl
 | .d _,_=>rfl
 | .jE _,_=>rfl
 | .mref l,h=>by simp only[AV.sub,h l (by simp[AV.ids])]
 | .ref l,h=>by simp only[AV.sub,h l (by simp[AV.ids])]
 | .ptr l o,h=>by simp only[AV.sub,h l (by simp[AV.ids])]
 | .ep l sz i o,h=>by simp only[AV.sub,h l (by simp[AV.ids])]
 | .vw l sz a,h=>by simp only[AV.sub,h l (by simp[AV.ids])]
 | .agg vs,h=>by simp only[AV.sub,AV.nQ (fun x hx=>h x (by simpa[AV.ids]using hx))]
 | .tup vs,h=>by simp only[AV.sub,AV.nQ (fun x hx=>h x (by simpa[AV.ids]using hx))]
 | .fn f us vs,h=>by simp only[AV.sub,AV.nQ (as:=us) (fun x hx=>h x (by simp[AV.ids,hx])),AV.nQ (as:=vs) (fun x hx=>h x (by simp[AV.ids,hx]))]
theorem AV.nQ{k:List (Nat × Option D)} :∀ {as:List AV},(∀x∈AV.idss as,kl k x=none)->AV.subs k as=as
 | [],_=>rfl
 |a::as,h=>by simp only[AV.subs,AV.mT (a:=a) (fun x hx=>h x (by simp[AV.idss,hx])),AV.nQ (as:=as) (fun x hx=>h x (by simp[AV.idss,hx]))]
end
mutual
theorem AV.o8{k:List (Nat × Option D)} :∀ {a:AV} {x:Nat},x∈(a.sub k).ids->x∈a.ids
 | .jA,_,h=>h
 | .nil _,_,h=>h
 | .emp _,_,h=>h
 | .d _,_,h=>h
 | .jE _,_,h=>h
 | .mref l,x,h=>by
   simp only[AV.sub]at h
   split at h<;>first|exact h|simp[AV.ids]at h
 | .ref l,x,h=>by
   simp only[AV.sub]at h
   split at h<;>first|exact h|simp[AV.ids]at h
 | .ptr l o,x,h=>by
   simp only[AV.sub]at h
   split at h<;>first|exact h|simp[AV.ids]at h
 | .ep l sz i o,x,h=>by
   simp only[AV.sub]at h
   split at h<;>first|exact h|simp[AV.ids]at h
 | .vw l sz a,x,h=>by
   simp only[AV.sub]at h
   split at h<;>first|exact h|simp[AV.ids]at h
 | .agg vs,x,h=>by simp only[AV.sub,AV.ids]at h ⊢;exact AV.nR h
 | .tup vs,x,h=>by simp only[AV.sub,AV.ids]at h ⊢;exact AV.nR h
 | .fn f us vs,x,h=>by
   simp only[AV.sub,AV.ids,ac8]at h ⊢
   exact h.imp AV.nR AV.nR
theorem AV.nR{k:List (Nat × Option D)} :∀ {as:List AV} {x:Nat},x∈AV.idss (AV.subs k as)->x∈AV.idss as
 | [],_,h=>h
 |a::as,x,h=>by
  simp only[AV.subs,AV.idss,ac8]at h ⊢
  exact h.imp AV.o8 AV.nR
end
theorem AObj.mT{k:List (Nat × Option D)}{o:AObj}(h:∀x∈o.ids,kl k x=none):o.sub k=o:=by
 cases o<;>first|(simp only[AObj.sub];done)|(simp only[AObj.sub];rw[AV.nQ];exact h)|skip
 rename_i e rows i g
 cases g with
 |none=>rfl
 |some g=>simp only[AObj.sub,h g (by simp[AObj.ids])]
theorem AObj.o8{k:List (Nat × Option D)}{o:AObj}{x:Nat}(h:x∈(o.sub k).ids):x∈o.ids:=by
 cases o<;>first|(simp only[AObj.sub,AObj.ids]at h ⊢;first|exact AV.nR h|exact h)|skip
 rename_i e rows i g
 cases g with
 |none=>exact h
 |some g=>
  simp only[AObj.sub]at h
  split at h<;>first|exact h|simp[AObj.ids]at h
theorem o9{k:List (Nat × Option D)} :∀ {x:Nat},x∉k.map (·.1)->kl k x=none:=by
 induction k with
 |nil=>intro x _;rfl
 |cons p k ih=>
  intro x h
  obtain⟨i,y⟩:=p
  simp only[adC,adv,not_or]at h
  simp only[kl]
  rw[ac7 (fun e=>h.1 e.symm)]
  exact ih h.2
theorem KV.mT{k:List (Nat × Option D)}{v:KV}(h:∀x∈v.ids,x∉k.map (·.1)):v.sub k=v:=by
 cases v with
 |av a=>simp only[KV.sub,AV.mT (fun x hx=>o9 (h x hx))]
 |ob o=>
  cases o with
  |none=>rfl
  |some o=>simp only[KV.sub,Option.map_some,AObj.mT (fun x hx=>o9 (h x hx))]
theorem KV.o8{k:List (Nat × Option D)}{v:KV}{x:Nat}(h:x∈(v.sub k).ids):x∈v.ids:=by
 cases v with
 |av a=>exact AV.o8 h
 |ob o=>cases o with
  |none=>exact h
  |some o=>exact AObj.o8 h
theorem pg:∀ {m:List (Nat × AObj)} {l:Nat},l∉m.map (·.1)->look m l=none
 | [],l,_=>rfl
 |(i,o)::m,l,h=>by
  simp only[adC,adv,not_or]at h
  simp only[look]
  rw[ac7 (fun e=>h.1 e.symm)]
  exact pg h.2
theorem lT{a b:List Nat}{x:Nat}(ha:x∈a)(hb:x∈b):meets a b=true:=by
 unfold meets;rw[adQ];exact⟨x,ha,by simpa using hb⟩
theorem AI{r:Rec}{k:Key}(h:k∈r.US):∃l q,k= .cell l q/\q<16/\Key.obj l∈r.xW:=by
 simp only[Rec.US,ac8,afq,ada,adk,adI]at h
 rcases h with ⟨l,hl,q,hq,rfl⟩|⟨p,hp,q,⟨hq,_⟩,rfl⟩
 ·refine⟨l,q,rfl,hq, ?_⟩
  simp only[Rec.xW,ac8,ada]
  rcases hl with ⟨p,hp,rfl⟩|hl
  ·exact .inl (.inl (.inr ⟨p,hp,rfl⟩))
  ·obtain⟨p,hp,rfl⟩:=ada.1 hl
   exact .inl (.inr ⟨p,hp,rfl⟩)
 ·refine⟨p.1,q,rfl,hq, ?_⟩
  simp only[Rec.xW,ac8,ada]
  exact .inr ⟨p,hp,rfl⟩
theorem vJ{r:Rec}{t:Nat}(h:Key.slot t∈r.wr):Key.slot t∈r.xW:=by
 rcases ac8.1 h with h|h
 ·exact h
 ·obtain⟨l,q,e,_⟩:=AI h;cases e
theorem AJ{r:Rec}{l:Nat}(h:Key.obj l∈r.wr):Key.obj l∈r.xW:=by
 rcases ac8.1 h with h|h
 ·exact h
 ·obtain⟨l',q,e,_⟩:=AI h;cases e
theorem zO{r:Rec}{l q:Nat}(h:Key.cell l q∈r.wr):Key.obj l∈r.xW:=by
 rcases ac8.1 h with h|h
 ·simp only[Rec.xW,ac8,ada]at h
  rcases h with (((h|⟨p,_,e⟩)|⟨p,_,e⟩)|⟨p,_,e⟩)|⟨p,_,e⟩
  ·split at h<;>simp at h
  ·cases e
  ·cases e
  ·cases e
  ·cases e
 ·obtain⟨l',q',e,_,h2⟩:=AI h;cases e;exact h2
theorem Xw{r:Rec}{k:Key}(h:k∈r.wr):r.UT k=true:=by
 cases k with
 |slot t=>simpa[Rec.UT]using vJ h
 |obj l=>simpa[Rec.UT]using AJ h
 |cell l q=>
  rcases ac8.1 h with h|h
  ·exfalso
   simp only[Rec.xW,ac8,ada]at h
   rcases h with (((h|⟨p,_,e⟩)|⟨p,_,e⟩)|⟨p,_,e⟩)|⟨p,_,e⟩
   ·split at h<;>simp at h
   ·cases e
   ·cases e
   ·cases e
   ·cases e
  ·simp only[Rec.US,ac8,afq,ada,adk,adI]at h
   simp only[Rec.UT,adK,adQ]
   rcases h with ⟨l',hl,q',hq,e⟩|⟨p,hp,q',⟨hq,hm⟩,e⟩
   ·cases e
    rcases hl with ⟨p,hp,rfl⟩|hl
    ·exact .inl (.inl ⟨p,hp,by simp⟩)
    ·exact .inl (.inr (by simpa using hl))
   ·cases e
    exact .inr ⟨p,hp,by simp[hm]⟩
theorem FU{a b:List Key}{x:Key}(ha:x∈a)(hb:x∈b):D9 a b=true:=by
 unfold D9;rw[adQ];exact⟨x,ha,by simpa using hb⟩
theorem OK{i j:Rec}{k:Key}{v:KV}(h:k∈i.wr)(h2:(k,v)∈j.rs):lS i j=true:=by
 simp only[lS,adK,adQ]
 exact .inl (.inl (.inl (.inl ⟨_,h2,Xw h⟩)))
theorem OL{i j:Rec}{k:Key}{v:KV}(h:(k,v)∈i.rs)(h2:k∈j.wr):lS i j=true:=by
 simp only[lS,adK,adQ]
 exact .inl (.inl (.inr ⟨_,h,Xw h2⟩))
theorem OM{i j:Rec}{k:Key}(h:k∈i.wr)(h2:k∈j.wr):lS i j=true:=by
 have:∃k,k∈i.xW/\k∈j.xW:=by
  cases k with
  |slot t=>exact⟨_,vJ h,vJ h2⟩
  |obj l=>exact⟨_,AJ h,AJ h2⟩
  |cell l q=>exact⟨_,zO h,zO h2⟩
 obtain⟨k,g1,g2⟩:=this
 simp only[lS,adK]
 exact .inl (.inl (.inl (.inr (FU g1 g2))))
theorem ON{i j:Rec}{x:Nat}(h:x∈i.fm)(h2:x∈j.names):lS i j=true:=by
 simp only[lS,adK]
 exact .inl (.inr (lT h h2))
theorem OO{i j:Rec}{x:Nat}(h:x∈j.fm)(h2:x∈i.names):lS i j=true:=by
 simp only[lS,adK]
 exact .inr (lT h h2)
theorem AV.AK{k:List (Nat × Option D)} :∀ {as:List AV} {q:Nat},(AV.subs k as)[q]? =(as[q]?).map (AV.sub k)
 | [],q=>by simp[AV.subs]
 |a::as,0=>by simp[AV.subs]
 |a::as,q+1=>by simp[AV.subs,AV.AK (as:=as)]
theorem Is{k:List (Nat × Option D)}{o:Option AObj}{q:Nat} :jJ (o.map (AObj.sub k)) q=(jJ o q).sub k:=by
 cases o with
 |none=>rfl
 |some o=>
  cases o with
  |box cells=>simp only[Option.map_some,AObj.sub,jJ,AV.AK];cases cells[q]? <;>rfl
  |rob cells=>simp only[Option.map_some,AObj.sub,jJ,AV.AK];cases cells[q]? <;>rfl
  |orh e rows i g=>
   cases g with
   |none=>rfl
   |some g'=>simp only[Option.map_some,AObj.sub];split<;>rfl
  |_=>rfl
theorem AV.FV{as:List AV}{q x:Nat}{v:AV}(h:as[q]? =some v)(hx:x∈v.ids):x∈AV.idss as:=by
 induction as generalizing q with
 |nil=>simp at h
 |cons a as ih=>
  simp only[AV.idss,ac8]
  cases q with
  |zero=>simp at h;subst h;exact .inl hx
  |succ q=>exact .inr (ih (by simpa using h))
theorem AL{o:Option AObj}{q x:Nat}(h:x∈(jJ o q).ids):∃o',o=some o'/\x∈o'.ids:=by
 cases o with
 |none=>simp[jJ,KV.ids]at h
 |some o=>
  refine⟨o,rfl, ?_⟩
  unfold jJ at h
  split at h
  ·rename_i cells e
   cases e
   split at h
   ·rename_i v hv;exact AV.FV hv h
   ·simp[KV.ids]at h
  ·rename_i cells e
   cases e
   split at h
   ·rename_i v hv;exact AV.FV hv h
   ·simp[KV.ids]at h
  ·simp[KV.ids]at h
theorem AM{r:Rec}{s:ASt}{k:Key}(h:k∉r.wr):bf (r.la.app s) k=(bf s k).sub r.la.kill:=by
 have hm:(r.la.app s).m=putM r.la.iw (s.kill r.la.kill).m:=by unfold LA.app ASt.put;split<;>rfl
 have hw:=h
 have h:k∉r.xW:=fun h'=>h (ac8.2 (.inl h'))
 simp only[Rec.xW,ac8,ada,not_or,not_exists,not_and]at h
 obtain⟨⟨⟨⟨h1,_⟩,h3⟩,h4⟩,_⟩:=h
 cases k with
 |cell l q=>
  simp only[bf]
  by_cases hq:q<16
  ·rw[ac9 hq,ac9 hq]
   have hnot:l∉r.la.iw.map (·.1)/\l∉r.la.kill.map (·.1):=by
    constructor
    ·intro hl
     refine hw (ac8.2 (.inr ?_))
     simp only[Rec.US,ac8,afq,ada,adk]
     exact .inl ⟨l, .inl (by simpa using hl),q,hq,rfl⟩
    ·intro hl
     refine hw (ac8.2 (.inr ?_))
     simp only[Rec.US,ac8,afq,ada,adk]
     exact .inl ⟨l, .inr hl,q,hq,rfl⟩
   rw[hm,eY,pg hnot.1,gy,o9 hnot.2]
   simp only[if_true]
   exact Is
  ·rw[ac7 hq,ac7 hq];rfl
 |slot t=>
  simp only[bf,KV.sub]
  congr 1
  unfold LA.app ASt.put
  split
  ·rename_i d hd
   simp only[hd,adu,Key.slot.injEq]at h1
   simp only[get]
   rw[ac7 (fun e=>h1 e.symm),fO]
  ·exact fO _ _ _
 |obj l=>
  simp only[bf,KV.sub]
  congr 1
  rw[hm,eY,pg (fun hm=>by obtain⟨p,hp,dI⟩:=ada.1 hm;exact h3 p hp (by rw[dI])),gy,o9 (fun hm=>by obtain⟨p,hp,dI⟩:=ada.1 hm;exact h4 p hp (by rw[dI]))]
  simp
theorem pn{r:Rec}{s s':ASt}(h:∀p∈r.rs,bf s p.1=p.2)(h':∀p∈r.rs,bf s' p.1=p.2){k:Key}(hk:k∈r.xW):bf (r.la.app s) k=bf (r.la.app s') k:=by
 have hm:∀s:ASt,(r.la.app s).m=putM r.la.iw (s.kill r.la.kill).m:=fun s=>by unfold LA.app ASt.put;split<;>rfl
 have same:∀p∈r.rs,bf s p.1=bf s' p.1:=fun p hp=>(h p hp).trans (h' p hp).symm
 cases k with
 |cell l q=>
  exfalso
  simp only[Rec.xW,ac8,ada]at hk
  rcases hk with (((hk|⟨p,_,e⟩)|⟨p,_,e⟩)|⟨p,_,e⟩)|⟨p,_,e⟩
  ·split at hk<;>simp at hk
  ·cases e
  ·cases e
  ·cases e
  ·cases e
 |slot t=>
  simp only[bf]
  congr 1
  by_cases hd:r.la.dst=some t
  ·unfold LA.app ASt.put
   simp[hd,get]
  ·have hin:∃v,(Key.slot t,KV.av v)∈r.rs:=by
    simp only[Rec.xW,ac8,ada]at hk
    rcases hk with (((hk|⟨p,hp,hpt⟩)|⟨p,hp,hpt⟩)|⟨p,hp,hpt⟩)|⟨p,hp,hpt⟩
    ·split at hk
     ·rename_i d hd'
      simp only[adu,Key.slot.injEq]at hk
      subst hk;exact absurd hd' hd
     ·simp at hk
    ·simp only[Key.slot.injEq]at hpt
     refine⟨p.2, ?_⟩
     simp only[Rec.rs,ac8,ada]
     exact .inl (.inl ⟨p, .inr hp,by rw[hpt]⟩)
    ·cases hpt
    ·cases hpt
    ·cases hpt
   obtain⟨v,hv⟩:=hin
   have hsame:=same _ hv
   simp only[bf,KV.av.injEq]at hsame
   unfold LA.app ASt.put
   cases hq:r.la.dst with
   |none=>simp only[fO,hsame]
   |some d=>
    have hdt:d≠t:=fun e=>hd (by rw[hq,e])
    simp only[get,hdt,if_false,fO,hsame]
 |obj l=>
  simp only[bf]
  congr 1
  rw[hm,hm,eY,eY]
  cases hu:look r.la.iw l with
  |some o=>rfl
  |none=>
   simp only[gy]
   by_cases cM:kl r.la.kill l=none
   ·simp only[cM,if_true]
    have hin:∃v,(Key.obj l,v)∈r.rs:=by
     simp only[Rec.xW,ac8,ada]at hk
     rcases hk with (((hk|⟨p,hp,hpt⟩)|⟨p,hp,hpt⟩)|⟨p,hp,hpt⟩)|⟨p,hp,hpt⟩
     ·split at hk
      ·simp at hk
      ·simp at hk
     ·cases hpt
     ·exfalso
      simp only[Key.obj.injEq]at hpt
      have:∀(m:List (Nat × AObj)),p∈m->look m p.1≠none:=by
       intro m
       induction m with
       |nil=>intro h;cases h
       |cons q m ih=>
        intro h
        obtain⟨i,o⟩:=q
        simp only[look]
        rcases adv.1 h with rfl|h
        ·simp
        ·split
         ·simp
         ·exact ih h
      exact this _ hp (by rw[hpt];exact hu)
     ·exfalso
      simp only[Key.obj.injEq]at hpt
      have:∀(m:List (Nat × Option D)),p∈m->kl m p.1≠none:=by
       intro m
       induction m with
       |nil=>intro h;cases h
       |cons q m ih=>
        intro h
        obtain⟨i,o⟩:=q
        simp only[kl]
        rcases adv.1 h with rfl|h
        ·simp
        ·split
         ·simp
         ·exact ih h
      exact this _ hp (by rw[hpt];exact cM)
     ·simp only[Key.obj.injEq]at hpt
      refine⟨.ob (some p.2), ?_⟩
      simp only[Rec.rs,ac8,ada]
      exact .inl (.inr ⟨p, .inr hp,by rw[hpt]⟩)
    obtain⟨v,hv⟩:=hin
    have hsame:=same _ hv
    simp only[bf,KV.ob.injEq]at hsame
    rw[hsame]
   ·simp only[cM,if_false]
theorem FW{r:Rec}{s s':ASt}(h:∀p∈r.rs,bf s p.1=p.2)(h':∀p∈r.rs,bf s' p.1=p.2){k:Key}(hk:k∈r.wr):bf (r.la.app s) k=bf (r.la.app s') k:=by
 cases k with
 |slot t=>exact pn h h' (vJ hk)
 |obj l=>exact pn h h' (AJ hk)
 |cell l q=>
  have:=pn h h' (zO hk)
  simp only[bf,KV.ob.injEq]at this ⊢
  rw[this]
end Go.Ab
end
