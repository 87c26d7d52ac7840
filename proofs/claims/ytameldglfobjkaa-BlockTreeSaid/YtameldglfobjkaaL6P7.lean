/- A part of the proof. -/
import Derived.RangeFuncLeaves
import Derived.RangeFuncRecord
import Derived.Below
import Derived.Test.YtameldglfobjkaaL6P6
set_option linter.unusedSimpArgs false
set_option linter.unusedVariables false
section
namespace Go.Ab
mutual
def AV.ren (π:Nat→Nat):AV→AV
 | .ref l=> .ref (π l)
 | .ptr l o=> .ptr (π l) o
 | .ep l sz i o=> .ep (π l) sz i o
 | .vw l sz a=> .vw (π l) sz a
 | .agg vs=> .agg (AV.rens π vs)
 | .tup vs=> .tup (AV.rens π vs)
 | .fn f us vs=> .fn f (AV.rens π us) (AV.rens π vs)
 | .cK=> .cK
 | .nil e=> .nil e
 | .d x=> .d x
 | .cV p=> .cV p
 | .mref l=> .mref (π l)
 | .emp e=> .emp e
def AV.rens (π:Nat→Nat):List AV→List AV
 | []=> []
 |a::as=>AV.ren π a::AV.rens π as
end
def AObj.ren (π:Nat→Nat):AObj→AObj
 | .box cells=> .box (AV.rens π cells)
 | .rob cells=> .rob (AV.rens π cells)
 | .own e sz rows=> .own e sz rows
 | .tip e sz rows=> .tip e sz rows
 | .mp n ag=> .mp n ag
 | .part e sz rows=> .part e sz rows
 | .nest e' e sz rows h=> .nest e' e sz rows h
 | .nils e' e sz n=> .nils e' e sz n
 | .orh e rows i g=> .orh e rows i (g.map π)
def Env.pre (E:Env) (π:Nat→Nat):Env:=⟨fun l=>E.ρ (π l),fun l=>E.σ (π l),E.z⟩
mutual
theorem kj {w:World} {E:Env} {π:Nat→Nat} :∀ {a:AV} {v:Value},aQ w (E.pre π) a v↔aQ w E (a.ren π) v
 | .cK,_=>Iff.rfl
 | .nil _,_=>Iff.rfl
 | .emp _,_=>Iff.rfl
 | .d _,_=>Iff.rfl
 | .cV _,_=>Iff.rfl
 | .mref _,_=>Iff.rfl
 | .ref _,_=>Iff.rfl
 | .ptr _ _,_=>Iff.rfl
 | .ep _ _ _ _,_=>Iff.rfl
 | .vw _ _ _,_=>Iff.rfl
 | .agg vs,v=>⟨fun ⟨us,h1,h2⟩=>⟨us,h1,aY.1 h2⟩,fun ⟨us,h1,h2⟩=>⟨us,h1,aY.2 h2⟩⟩
 | .tup vs,v=>⟨fun ⟨us,h1,h2⟩=>⟨us,h1,aY.1 h2⟩,fun ⟨us,h1,h2⟩=>⟨us,h1,aY.2 h2⟩⟩
 | .fn f as bs,v=>⟨fun ⟨us,vs,h1,h2,h3⟩=>⟨us,vs,h1,aY.1 h2,aY.1 h3⟩,fun ⟨us,vs,h1,h2,h3⟩=>⟨us,vs,h1,aY.2 h2,aY.2 h3⟩⟩
theorem aY {w:World} {E:Env} {π:Nat→Nat} :∀ {as:List AV} {us:List Value},AVrs w (E.pre π) as us↔AVrs w E (AV.rens π as) us
 | [],_=>Iff.rfl
 |a::as,us=>⟨fun ⟨u,us',h1,h2,h3⟩=>⟨u,us',h1,kj.1 h2,aY.1 h3⟩,fun ⟨u,us',h1,h2,h3⟩=>⟨u,us',h1,kj.2 h2,aY.2 h3⟩⟩
end
theorem iP {w:World} {E:Env} {π:Nat→Nat} {l:Nat} {o:AObj} (hn:o.isNest=false):aF w (E.pre π) l o↔aF w E (π l) (o.ren π):=by
 cases o with
 |box cells=>exact ⟨fun ⟨b,vs,e,h1,h2,h3,h4,h5⟩=>⟨b,vs,e,h1,h2,h3,aY.1 h4,h5⟩,fun ⟨b,vs,e,h1,h2,h3,h4,h5⟩=>⟨b,vs,e,h1,h2,h3,aY.2 h4,h5⟩⟩
 |rob cells=>exact ⟨fun ⟨b,vs,e,h1,h2,h3,h4,h5⟩=>⟨b,vs,e,h1,h2,h3,aY.1 h4,h5⟩,fun ⟨b,vs,e,h1,h2,h3,h4,h5⟩=>⟨b,vs,e,h1,h2,h3,aY.2 h4,h5⟩⟩
 |own e sz rows=>exact Iff.rfl
 |tip e sz rows=>exact Iff.rfl
 |mp n ag=>exact Iff.rfl
 |part e sz rows=>exact Iff.rfl
 |nils e' e sz n=>exact Iff.rfl
 |orh e rows i g=>
  cases g with
  |none=>exact ⟨fun ⟨k1,k2,b,cur,cap,h1,h2,h3,h4,h5,h6,h7,h8,_⟩=>⟨k1,k2,b,cur,cap,h1,h2,h3,h4,h5,h6,h7,h8,fun _ e=>by cases e⟩,fun ⟨k1,k2,b,cur,cap,h1,h2,h3,h4,h5,h6,h7,h8,_⟩=>⟨k1,k2,b,cur,cap,h1,h2,h3,h4,h5,h6,h7,h8,fun _ e=>by cases e⟩⟩
  |some g=>exact ⟨fun ⟨k1,k2,b,cur,cap,h1,h2,h3,h4,h5,h6,h7,h8,h9⟩=>⟨k1,k2,b,cur,cap,h1,h2,h3,h4,h5,h6,h7,h8,fun _ e=>by cases e;exact h9 g rfl⟩,fun ⟨k1,k2,b,cur,cap,h1,h2,h3,h4,h5,h6,h7,h8,h9⟩=>⟨k1,k2,b,cur,cap,h1,h2,h3,h4,h5,h6,h7,h8,fun _ e=>by cases e;exact h9 (π g) rfl⟩⟩
 |nest e' e sz rows h=>simp [AObj.isNest] at hn
theorem AObj.uJ (π:Nat→Nat) (o:AObj):(o.ren π).ro=o.ro:=by cases o<;>rfl
theorem aF.congr {w:World} {E E':Env} {live:Nat→Prop} (hz:E'.z=E.z) (hρ:∀l,live l→E'.ρ l=E.ρ l) (hσ:∀l,live l→E'.σ l=E.σ l) {l:Nat} {o:AObj} (hn:o.isNest=false) (hl:live l) (hi:∀k∈o.ids,live k) (h:aF w E l o):aF w E' l o:=by
 have hk:kD w E w E' live:=⟨by rw [hz];exact ak.refl _ _,hρ,hσ⟩
 cases o with
 |box cells=>
  obtain ⟨b,vs,e,h1,h2,h3,h4,h5⟩:=h
  exact ⟨b,vs,e,by rw [hρ l hl];exact h1,h2,by rw [hz];exact h3,AVrs.mono hk hi h4,h5⟩
 |rob cells=>
  obtain ⟨b,vs,e,h1,h2,h3,h4,h5⟩:=h
  exact ⟨b,vs,e,by rw [hρ l hl];exact h1,h2,by rw [hz];exact h3,AVrs.mono hk hi h4,h5⟩
 |own e sz rows=>simp only [aF] at h ⊢;rw [hρ l hl,hσ l hl,hz];exact h
 |tip e sz rows=>simp only [aF] at h ⊢;rw [hρ l hl,hσ l hl,hz];exact h
 |mp n ag=>simp only [aF] at h ⊢;rw [hρ l hl,hz];exact h
 |part e sz rows=>simp only [aF] at h ⊢;rw [hρ l hl,hσ l hl,hz];exact h
 |nils e' e sz n=>simp only [aF] at h ⊢;rw [hρ l hl,hσ l hl,hz];exact h
 |orh e rows i g=>
  obtain ⟨k1,k2,b,cur,cap,h1,h2,h3,h4,h5,h6,h7,h8,h9⟩:=h
  refine ⟨k1,k2,b,cur,cap,by rw [hρ l hl];exact h1,h2,by rw [hσ l hl];exact h3,h4,h5,h6,by rw [hz];exact h7,by rw [hz];exact h8,fun g' e=> ?_⟩
  subst e
  rw [hσ g' (hi g' (by simp [AObj.ids]))]
  exact h9 g' rfl
 |nest e' e sz rows h=>simp [AObj.isNest] at hn
theorem AObj.kR (π:Nat→Nat) (o:AObj):(o.ren π).isNest=o.isNest:=by cases o<;>rfl
mutual
theorem AV.fz:∀a:AV,a.ren id=a
 | .cK=>rfl
 | .nil _=>rfl
 | .emp _=>rfl
 | .d _=>rfl
 | .ref _=>rfl
 | .ptr _ _=>rfl
 | .ep _ _ _ _=>rfl
 | .vw _ _ _=>rfl
 | .cV _=>rfl
 | .mref _=>rfl
 | .agg vs=>by simp only [AV.ren,AV.gI vs]
 | .tup vs=>by simp only [AV.ren,AV.gI vs]
 | .fn f us vs=>by simp only [AV.ren,AV.gI us,AV.gI vs]
theorem AV.gI:∀as:List AV,AV.rens id as=as
 | []=>rfl
 |a::as=>by simp only [AV.rens,AV.fz a,AV.gI as]
end
theorem AObj.fz (o:AObj):o.ren id=o:=by cases o<;>simp [AObj.ren,AV.gI]
def asN:List (Nat × Nat)→Nat→Nat
 | [],l=>l
 |(i,j)::r,l=>if i=l then j else asN r l
def renA (rn:List (Nat × Nat)) (a:AV):AV:=match rn with| []=>a|_=>a.ren (asN rn)
def renO (rn:List (Nat × Nat)) (o:AObj):AObj:=match rn with| []=>o|_=>o.ren (asN rn)
theorem rP:asN []=id:=rfl
theorem xG (rn:List (Nat × Nat)) (a:AV):renA rn a=a.ren (asN rn):=by
 cases rn with
 |nil=>rw [rP,AV.fz];rfl
 |cons=>rfl
theorem xH (rn:List (Nat × Nat)) (o:AObj):renO rn o=o.ren (asN rn):=by
 cases rn with
 |nil=>rw [rP,AObj.fz];rfl
 |cons=>rfl
def xI (P:Program) (f:Nat):Prop:=∃fn c,P.funcs[f]? =some fn∧(fn.name== "runtime.NumGoroutine")=false∧fn.body=some c
def Post (m:List (Nat × AObj)) (E:Env) (w:World) (res:AV) (m':List (Nat × AObj)):Ending→World→Prop:=fun e w'=>∃v E',e= .returned v∧yw m E w E' w'∧Good m' E' w'∧
 (∀l o b,aJ m' l=some o→o.ro=false→E'.ρ l=some b→w.heap.size≤b∨tZ m E b)∧aQ w' E' res v
structure Spec (P:Program) (f:Nat) (A:Env→World→List Value→Prop) (m:List (Nat × AObj)) (res:AV) (m':List (Nat × AObj)):Prop where
 can:xI P f
 calls:∀E w vals,Good m E w→A E w vals→Calls P f vals.toArray w (Post m E w res m')
def Args (as:List AV):Env→World→List Value→Prop:=fun E w vals=>AVrs w E as vals
def cvtD (s:ASt) (a:AV) (x:D):Prop:=
 match a with
 | .ref l=>match look s.m l with|some (.tip _ sz rows)=>x= .sl sz rows|_=>False
 | .nil _=>match x with| .sl _ rows=>rows= []|_=>False
 | .emp _=>match x with| .sl _ rows=>rows= []|_=>False
 | .d y=>y=x
 |_=>False
def allSome:List (Option D)→Option (List D)
 | []=>some []
 |some x::r=>match allSome r with|some xs=>some (x::xs)|none=>none
 |none::_=>none
def rdX (C:Cfg) (bad:Nat→Bool) (dI:Bool) (m:List (Nat × AObj)):Nat→AV→Option D
 |_, .d x=>some x
 |_, .nil e=>some (.sl (C.sz e) [])
 |_, .emp e=>some (.sl (C.sz e) [])
 |_, .ref l=>match look m l with
  |some (.tip _ sz rows)=>some (.sl sz rows)
  |some (.own _ sz rows)=>if bad l=true then none else some (.sl sz rows)
  |some (.part _ sz rows)=>if bad l=true then none else some (.sl sz rows)
  |some (.nest _ _ sz rows none)=>if bad l=true then none else some (.sl 1 (rows.map fun r=> [.sl sz r]))
  |some (.nils _ _ sz n)=>if bad l=true then none else some (.sl 1 (List.replicate n [.sl sz []]))
  |_=>none
 |_, .vw l sz a=>match look m l with
  |some (.own _ sz' rows)=>if bad l=true then none else if sz'=sz then some (.sl sz (rows.drop a)) else none
  |_=>none
 |n+1, .ptr l o=>match look m l with
  |some (.box cells)=>if bad l=true then none else match allSome (cells.map fun a=>rdX C bad dI m n a) with|some ds=>if o≤ds.length then some (.pt (ds.drop o)) else none|none=>none
  |some (.rob cells)=>if dI=true then match allSome (cells.map fun a=>rdX C bad dI m n a) with|some ds=>if o≤ds.length then some (.pt (ds.drop o)) else none|none=>none else none
  |_=>none
 |_,_=>none
mutual
def cvt (rd:AV→D→Prop) (a:AV):AV→Prop
 | .cK=>True
 | .d x=>rd a x
 | .agg bs=>match a with| .agg as=>cvts rd as bs|_=>False
 | .tup bs=>match a with| .tup as=>cvts rd as bs|_=>False
 | .nil e=>a= .nil e
 | .ref l=>a= .ref l
 | .ptr l o=>a= .ptr l o
 | .ep l sz i o=>a= .ep l sz i o
 | .vw l sz i=>a= .vw l sz i
 | .fn f us vs=>match a with| .fn f' us' vs'=>f'=f∧cvts rd us' us∧cvts rd vs' vs|_=>False
 | .cV p=>a= .cV p
 | .mref l=>a= .mref l
 | .emp e=>a= .emp e∨a= .nil e
def cvts (rd:AV→D→Prop) (as:List AV):List AV→Prop
 | []=>as= []
 |b::bs=>match as with|a::as=>cvt rd a b∧cvts rd as bs| []=>False
end
section
variable {rd:AV→D→Prop} {E E':Env} {w:World}
mutual
theorem rQ (hk:kD w E w E' fun _=>True) (hrd:∀a x v,rd a x→aQ w E a v→Rd w E'.z v x):∀ {b a:AV} {v:Value},cvt rd a b→aQ w E a v→aQ w E' b v
 | .cK,_,_,_,_=>trivial
 | .d x,a,v,h,hr=>by unfold cvt at h;exact hrd a x v h hr
 | .agg bs,a,v,h,hr=>by
   unfold cvt at h
   split at h
   ·obtain ⟨us,rfl,hr⟩:=hr
    exact ⟨us,rfl,cL hk hrd h hr⟩
   ·exact h.elim
 | .tup bs,a,v,h,hr=>by
   unfold cvt at h
   split at h
   ·obtain ⟨us,rfl,hr⟩:=hr
    exact ⟨us,rfl,cL hk hrd h hr⟩
   ·exact h.elim
 | .nil e,a,v,h,hr=>by simp only [cvt] at h;subst h;exact hr
 | .ref l,a,v,h,hr=>by simp only [cvt] at h;subst h;exact aQ.mono hk (fun _ _=>trivial) hr
 | .ptr l o,a,v,h,hr=>by simp only [cvt] at h;subst h;exact aQ.mono hk (fun _ _=>trivial) hr
 | .ep l sz i o,a,v,h,hr=>by simp only [cvt] at h;subst h;exact aQ.mono hk (fun _ _=>trivial) hr
 | .vw l sz i,a,v,h,hr=>by simp only [cvt] at h;subst h;exact aQ.mono hk (fun _ _=>trivial) hr
 | .fn f us vs,a,v,h,hr=>by
   unfold cvt at h
   split at h
   ·obtain ⟨us',vs',rfl,h1,h2⟩:=hr
    obtain ⟨rfl,k1,k2⟩:=h
    exact ⟨us',vs',rfl,cL hk hrd k1 h1,cL hk hrd k2 h2⟩
   ·exact h.elim
 | .cV p,a,v,h,hr=>by simp only [cvt] at h;subst h;exact hr
 | .mref l,a,v,h,hr=>by simp only [cvt] at h;subst h;exact aQ.mono hk (fun _ _=>trivial) hr
 | .emp e,a,v,h,hr=>by
   simp only [cvt] at h
   rcases h with rfl|rfl
   ·exact hr
   ·exact ⟨none,hr⟩
theorem cL (hk:kD w E w E' fun _=>True) (hrd:∀a x v,rd a x→aQ w E a v→Rd w E'.z v x):∀ {bs as:List AV} {vs:List Value},cvts rd as bs→AVrs w E as vs→AVrs w E' bs vs
 | [],as,vs,h,hr=>by simp only [cvts] at h;subst h;exact hr
 |b::bs,as,vs,h,hr=>by
  unfold cvts at h
  split at h
  ·obtain ⟨u,us,rfl,h1,h2⟩:=hr
   exact ⟨u,us,rfl,rQ hk hrd h.1 h1,cL hk hrd h.2 h2⟩
  ·exact h.elim
end
end
theorem uK {s:ASt} {E:Env} {w:World} (hm:∀l o,look s.m l=some o→aF w E l o) (a:AV) (x:D) (v:Value) (h:cvtD s a x) (hr:aQ w E a v):Rd w E.z v x:=by
 simp only [cvtD] at h
 split at h
 ·split at h
  ·rename_i e sz rows hl
   subst h
   simp only [aQ] at hr
   rw [hr.1];exact fJ (hm _ _ hl)
  ·exact h.elim
 ·split at h
  ·subst h
   simp only [aQ] at hr
   subst hr
   exact .nil _ _
  ·exact h.elim
 ·split at h
  ·subst h
   obtain ⟨p,rfl⟩:=hr
   exact .nil _ _
  ·exact h.elim
 ·subst h;exact hr
 ·exact h.elim
def bg (w:World) (b:Nat):Nat:=match w.heap[b]? with|some (.cells cs _ _)=>cs.size|_=>0
theorem iQ:∀ {l:List (Option D)} {ds:List D},allSome l=some ds→l=ds.map some
 | [],ds,h=>by simp [allSome] at h;subst h;rfl
 |none::r,ds,h=>by simp [allSome] at h
 |some x::r,ds,h=>by
  simp only [allSome] at h
  cases hr:allSome r with
  |none=>simp [hr] at h
  |some xs=>
   simp [hr] at h
   subst h
   rw [iQ hr];rfl
theorem iR {C:Cfg} {bad:Nat→Bool} {dI:Bool} {m:List (Nat × AObj)} {E:Env} {w:World} {z:Nat→Nat} (hg:Good m E w) (hst:ak w E.z w z)
 (nT:∀l o b,look m l=some o→(o.ro=false∨dI=true)→(o.ro=false→bad l=false)→E.ρ l=some b→bg w b≤z b):∀ {n:Nat} {a:AV} {x:D} {v:Value},rdX C bad dI m n a=some x→aQ w E a v→Rd w z v x:=by
 have flat:∀ {a:AV} {x:D} {v:Value} (n:Nat),(∀l o,a≠ .ptr l o)→rdX C bad dI m n a=some x→aQ w E a v→Rd w z v x:=by
  intro a x v n hne h hr
  unfold rdX at h
  split at h
  ·cases h;exact Rd.mono hst hr
  ·cases h;simp only [aQ] at hr;subst hr;exact .nil _ _
  ·cases h;obtain ⟨p,rfl⟩:=hr;exact .nil _ _
  ·rename_i l
   have hv:=hr.1
   subst hv
   split at h
   ·rename_i e sz rows hl
    cases h
    exact Rd.mono hst (fJ (hg.obj _ _ hl))
   ·rename_i e sz rows hl
    split at h
    ·cases h
    ·rename_i hb
     cases h
     obtain ⟨g1,g2,⟨h1,h2,p,h3⟩|⟨b,cur,cap,h1,h2,h3,h4,h5,h6,h7,h8⟩⟩:=hg.obj _ _ hl
     ·rw [h3,h2];exact .nil p sz
     ·have hz:=nT _ _ b hl (.inl rfl) (fun _=>by simpa using hb) h1
      simp only [bg,h2] at hz
      rw [h3]
      have hle:rows.length*sz≤cap*sz:=Nat.mul_le_mul_right sz h4
      refine .sl b 0 rows.length cap sz rows (fun k=>cur.getD k undef) rfl g1 (by omega) h4 (fun k hk=> ?_) (fun i j r x hi hj=> ?_)
      ·have:k<cur.size:=by omega
       simp [World.cell?,h2,Array.getElem?_eq_getElem this]
      ·obtain ⟨v,hv,hx⟩:=h8 i j r x hi hj
       have:cur.getD (i*sz+j) undef=v:=by simp [hv]
       rw [this];exact hx.mono hst
   ·rename_i e sz rows hl
    split at h
    ·cases h
    ·rename_i hb
     cases h
     obtain ⟨g1,g2,⟨h1,h2,p,h3⟩|⟨b,off,cur,cap,h1,h2,h3,h4,h5,h6,h7,h8⟩⟩:=hg.obj _ _ hl
     ·rw [h3,h2];exact .nil p sz
     ·have hz:=nT _ _ b hl (.inl rfl) (fun _=>by simpa using hb) h1
      simp only [bg,h2] at hz
      rw [h3]
      have hle:rows.length*sz≤cap*sz:=Nat.mul_le_mul_right sz h4
      refine .sl b off rows.length cap sz rows (fun k=>cur.getD (off+k) undef) rfl g1 (by omega) h4 (fun k hk=> ?_) (fun i j r x hi hj=> ?_)
      ·have:off+k<cur.size:=by omega
       simp [World.cell?,h2,Array.getElem?_eq_getElem this]
      ·obtain ⟨v,hv,hx⟩:=h8 i j r x hi hj
       have:cur.getD (off+(i*sz+j)) undef=v:=by simp [hv]
       rw [this];exact hx.mono hst
   ·rename_i e' e sz rows hl
    split at h
    ·cases h
    ·rename_i hb
     cases h
     obtain ⟨b,cur,cap,h1,h2,h3,h4,h5,h6,h7,h8⟩:=hg.obj _ _ hl
     have hz:=nT _ _ b hl (.inl rfl) (fun _=>by simpa using hb) h1
     simp only [bg,h2] at hz
     have fm:=hg.low _ (by rw [hl];simp)
     rw [h3]
     refine .sl b 0 _ cap 1 _ (fun k=>cur.getD k undef) (by simp) (by simp) (by omega) h4 (fun k hk=> ?_) (fun i j r x hi hj=> ?_)
     ·have:k<cur.size:=by omega
      simp [World.cell?,h2,Array.getElem?_eq_getElem this]
     ·rw [List.getElem?_map] at hi
      obtain ⟨rr,CW,rfl⟩:=Option.map_eq_some_iff.1 hi
      have hil:i<rows.length:=(List.getElem?_eq_some_iff.1 CW).1
      obtain ⟨c1,c2⟩:=h8 i hil (by simp)
      have hs:aJ m (nn l i)=some (.tip e sz rr):=by rw [ga fm,hl];simp [inner,CW]
      cases j with
      |succ j=>simp at hj
      |zero=>
       simp at hj
       subst hj
       have:cur.getD (i*1+0) undef=E.σ (nn l i):=by simp [c1]
       rw [this]
       exact Rd.mono hst (fJ (hg.dY _ _ hs))
   ·rename_i e' e sz k hl
    split at h
    ·cases h
    ·rename_i hb
     cases h
     obtain ⟨b,cur,cap,h1,h2,h3,h4,h5,h6,h7,h8,h9⟩:=hg.obj _ _ hl
     have hz:=nT _ _ b hl (.inl rfl) (fun _=>by simpa using hb) h1
     simp only [bg,h2] at hz
     rw [h3]
     refine .sl b 0 k cap 1 _ (fun k=>cur.getD k undef) (by simp) (fun r hr=>by rw [(List.mem_replicate.1 hr).2];rfl) (by omega) h4 (fun j hj=> ?_) (fun i j r x hi hj=> ?_)
     ·have:j<cur.size:=by omega
      simp [World.cell?,h2,Array.getElem?_eq_getElem this]
     ·rw [List.getElem?_replicate] at hi
      split at hi
      ·rename_i hik
       cases hi
       cases j with
       |succ j=>simp at hj
       |zero=>
        simp at hj
        subst hj
        have:cur.getD (i*1+0) undef= .slice none 0 0:=by simp [h9 i hik]
        rw [this]
        exact .nil _ _
      ·cases hi
   ·cases h
  ·rename_i l sz a
   obtain ⟨b0,G7,n0,DK,hs0,IV,hv⟩:=hr
   subst hv
   split at h
   ·rename_i e sz' rows hl
    split at h
    ·cases h
    rename_i hb
    split at h
    rotate_left
    ·cases h
    ·rename_i hsz
     subst hsz
     cases h
     obtain ⟨g1,g2,⟨h1,h2,p,h3⟩|⟨b,cur,cap,h1,h2,h3,h4,h5,h6,h7,h8⟩⟩:=hg.obj _ _ hl
     ·rw [hs0] at h3;cases h3;omega
     ·rw [hs0] at h3
      simp only [Value.slice.injEq,Option.some.injEq,Addr.mk.injEq,and_true] at h3
      obtain ⟨⟨rfl,rfl⟩,rfl,rfl⟩:=h3
      have hz:=nT _ _ b0 hl (.inl rfl) (fun _=>by simpa using hb) h1
      simp only [bg,h2] at hz
      have hle:rows.length*sz'≤DK*sz':=Nat.mul_le_mul_right sz' h4
      have hsp:a*sz'+(rows.length - a)*sz'=rows.length*sz':=by rw [← Nat.add_mul];congr 1;omega
      refine .sl b0 _ _ _ sz' _ (fun k=>cur.getD (0+a*sz'+k) undef) (by simp) (fun r hr=>g1 r (List.mem_of_mem_drop hr)) (by omega) (by omega) (fun k hk=> ?_) (fun i j r x hi hj=> ?_)
      ·have:0+a*sz'+k<cur.size:=by omega
       simp only [World.cell?,h2]
       simp [Array.getElem?_eq_getElem (show a*sz'+k<cur.size by omega)]
      ·rw [List.getElem?_drop] at hi
       obtain ⟨v,hv,hx⟩:=h8 (a+i) j r x hi hj
       have:cur.getD (0+a*sz'+(i*sz'+j)) undef=v:=by
        have e1:0+a*sz'+(i*sz'+j)=(a+i)*sz'+j:=by rw [Nat.add_mul];omega
        rw [e1]
        simp [hv]
       rw [this];exact hx.mono hst
   ·cases h
  ·exact absurd rfl (hne _ _)
  ·cases h
 intro n
 induction n with
 |zero=>
  intro a x v h hr
  cases a with
  |ptr l o=>simp [rdX] at h
  |_=>exact flat 0 (fun _ _ e=>by cases e) h hr
 |succ n ih=>
  intro a x v h hr
  have key:∀(l o b:Nat) (vs:List Value) (e:Nat) (cells:List AV),E.ρ l=some b→w.heap[b]? =some (.cells vs.toArray e (0,0))→AVrs w E cells vs→bg w b≤z b→v= .pointer (some ⟨b,o,none⟩)→
   (match allSome (cells.map fun a=>rdX C bad dI m n a) with|some ds=>if o≤ds.length then some (D.pt (ds.drop o)) else none|none=>none)=some x→Rd w z v x:=by
   intro l o b vs e cells h1 h2 h3 hz hv h
   cases hs:allSome (cells.map fun a=>rdX C bad dI m n a) with
   |none=>rw [hs] at h;cases h
   |some ds=>
    rw [hs] at h
    simp only at h
    split at h
    ·rename_i ho
     cases h
     subst hv
     have hd:=iQ hs
     have hlen:cells.length=ds.length:=by have:=congrArg List.length hd;simpa using this
     have hvl:=h3.length
     simp only [bg,h2,List.size_toArray] at hz
     refine .pt b o _ (fun k=>vs.getD (o+k) undef) (by simp;omega) (fun k hk=> ?_) (fun j x hj=> ?_)
     ·simp only [List.length_drop] at hk
      have:o+k<vs.length:=by omega
      simp [World.cell?,h2,List.getD_eq_getElem?_getD,List.getElem?_eq_getElem this]
     ·rw [List.getElem?_drop] at hj
      have hjl:o+j<cells.length:=by rw [hlen];exact (List.getElem?_eq_some_iff.1 hj).1
      have hrd:rdX C bad dI m n cells[o+j]=some x:=by
       have:=congrArg (·[o+j]?) hd
       simp only [List.getElem?_map,List.getElem?_eq_getElem hjl,Option.map_some,hj,Option.some.injEq] at this
       exact this
      obtain ⟨u,hu,AZ⟩:=h3.get (List.getElem?_eq_getElem hjl)
      have:vs.getD (o+j) undef=u:=by rw [List.getD_eq_getElem?_getD,hu];rfl
      rw [this]
      exact ih hrd AZ
    ·cases h
  cases a with
  |ptr l o=>
   obtain ⟨b,hb,hv⟩:=hr
   unfold rdX at h
   split at h
   ·rename_i cells hl
    split at h
    ·cases h
    ·rename_i sS
     obtain ⟨b',vs,e,h1,h2,h3,h4,h5⟩:=hg.obj _ _ hl
     rw [h1] at hb;cases hb
     exact key l o b vs e cells h1 h2 h4 (nT _ _ b hl (.inl rfl) (fun _=>by simpa using sS) h1) hv h
   ·rename_i cells hl
    split at h
    ·rename_i hle
     obtain ⟨b',vs,e,h1,h2,h3,h4,h5⟩:=hg.obj _ _ hl
     rw [h1] at hb;cases hb
     exact key l o b vs e cells h1 h2 h4 (nT _ _ b hl (.inr hle) (fun h=>by simp [AObj.ro] at h) h1) hv h
    ·cases h
   ·cases h
  |_=>exact flat _ (fun _ _ e=>by cases e) h hr
inductive RV where
 |t (n:Nat)
 |c (a ty:Nat)
def RV.rv:RV→ResultVar
 | .t n=> .tmp n
 | .c a ty=> .cell a ty
def resK (C:Cfg) (s:ASt) (rs:List RV) (K:List AV→Prop):Prop:=
 match rs with
 | []=>K []
 | .t n::rs=>resK C s rs fun vs=>K (get s.t n::vs)
 | .c a ty::rs=>match get s.t a with
   | .ptr l q=>match look s.m l with
     |some (.box cells)=>vcLoad (C.T ty) cells q fun v=>resK C s rs fun vs=>K (v::vs)
     |_=>False
   |_=>False
def tupOf:List AV→AV
 | [r]=>r
 |rs=> .tup rs
def leR (m:List (Nat × AObj)) (rn:List (Nat × Nat)):List (Nat × AObj)→Prop
 | []=>True
 |(l,o)::r=>look m (asN rn l)=some (renO rn o)∧leR m rn r
def Fin (C:Cfg) (rs:List RV) (rn:List (Nat × Nat)) (res:AV) (m':List (Nat × AObj)) (e:Exit) (s:ASt):Prop:=
 match e with
 | .ret| .normal=>resK C s rs fun vs=>cvt (fun a x=>rdX C (fun l=>m'.any fun p=>asN rn p.1==l) false s.m 4 a=some x) (tupOf vs) (renA rn res)∧leR s.m rn m'
 |_=>False
def params:Nat→List AV→List (Nat × AV)
 |_, []=> []
 |k,a::as=>(k,a)::params (k+1) as
theorem kS:∀(as:List AV) (k i:Nat),get (params k as) (k+i)=(as[i]?).getD .cK
 | [],k,i=>by simp [params,get]
 |a::as,k,0=>by simp [params,get]
 |a::as,k,i+1=>by
  simp only [params,get,List.getElem?_cons_succ]
  rw [if_neg (by omega),show k+(i+1)=k+1+i from by omega]
  exact kS as (k+1) i
def kT:List Value→Value
 | [r]=>r
 |rs=> .tuple rs.toArray
def jy (tmps:Array Value):ResultVar→Sem Value
 | .tmp t=>pure (tmps.getD t undef)
 | .cell a t=>do loadVar t (← asAddr (tmps.getD a undef))
theorem iw {X:Ctx} (hX:X.Ok) {E:Env} {s:ASt} {a:Act} {w:World} (h:aG X E s a w):∀ {rs:List RV} {K:List AV→Prop},resK X.C s rs K→
 ∃vs us,K vs∧AVrs w E vs us∧((rs.map RV.rv).mapM (jy a.tmps)).run X.P w= .ok us w
 | [],K,hK=>⟨[], [],hK,rfl,by simp⟩
 | .t n::rs,K,hK=>by
   simp only [resK] at hK
   obtain ⟨vs,us,h1,h2,h3⟩:=iw hX h hK
   refine ⟨_,_::us,h1,⟨_,_,rfl,h.slot n,h2⟩, ?_⟩
   rw [List.map_cons,List.mapM_cons]
   simp only [Sem.run_bind,RV.rv,jy,Sem.run_pure,Result.andThen_ok,h3]
 | .c n ty::rs,K,hK=>by
   unfold resK at hK
   split at hK
   ·rename_i l q hg
    split at hK
    ·rename_i cells hl
     obtain ⟨av,hK,hr⟩:=gF (P:=X.P) (t:=ty) (fun ti gR=>hX.C.T ty ti gR) hK
     obtain ⟨vs,us,h1,h2,h3⟩:=iw hX h hK
     obtain ⟨b,cs,g1,g2,g3⟩:=kF (h.good.obj l _ hl)
     have oh:=h.slot n
     rw [hg] at oh
     obtain ⟨b',hb',oh⟩:=oh
     rw [g1] at hb';cases hb'
     obtain ⟨v,hv,oc⟩:=hr w E b 0 cs g2 (fun j u hu=>by rw [Nat.zero_add];exact g3 j u hu)
     rw [Nat.zero_add] at hv
     refine ⟨_,v::us,h1,⟨_,_,rfl,oc,h2⟩, ?_⟩
     have iu:(loadVar ty ⟨b,q,none⟩).run X.P w= .ok v w:=by simpa [Instr.loadAt,Instr.sureAddr] using hv
     rw [List.map_cons,List.mapM_cons]
     simp only [Sem.run_bind,RV.rv,jy,oh,asAddr,Sem.run_pure,Result.andThen_ok,iu,h3]
    ·exact hK.elim
   ·exact hK.elim
theorem oz {P:Program} {fn:Func} {rs:List RV} (h:fn.results=(rs.map RV.rv).toArray) {tmps:Array Value} {w:World} {us:List Value} (hr:((rs.map RV.rv).mapM (jy tmps)).run P w= .ok us w):
 (results fn tmps).run P w= .ok (kT us) w:=by
 have e:results fn tmps=(do
  let vs ← fn.results.mapM (jy tmps)
  pure (if h:vs.size=1 then vs[0] else .tuple vs)):=by
  rfl
 rw [e]
 simp only [h,Array.mapM_eq_mapM_toList,Sem.run_bind,Sem.run_map,hr,Result.andThen_ok,Sem.run_pure]
 match us with
 | []=>simp [kT]
 | [r]=>simp [kT]
 |r::q::rs=>simp [kT]
theorem aH:∀ {m:List (Nat × AObj)} {l:Nat} {o:AObj},look m l=some o→(l,o)∈m
 | [],l,o,h=>by simp [look] at h
 |(i,q)::m,l,o,h=>by
  simp only [look] at h
  split at h
  ·rename_i hi;subst hi;cases h;exact List.mem_cons_self
  ·exact List.mem_cons_of_mem _ (aH h)
theorem de {m:List (Nat × AObj)} (hm:∀p∈m,p.2.isNest=false) {l:Nat} {o:AObj} (h:aJ m l=some o):look m l=some o∧nd l=none:=by
 unfold aJ at h
 cases bG:nd l with
 |none=>rw [bG] at h;exact ⟨h,rfl⟩
 |some p=>
  obtain ⟨b,i⟩:=p
  rw [bG] at h
  exfalso
  simp only at h
  cases hq:look m b with
  |none=>rw [hq] at h;simp [inner] at h
  |some q=>
   have:=hm _ (aH hq)
   rw [hq] at h
   cases q<;>simp [inner] at h<;>simp [AObj.isNest] at this
theorem oI {m:List (Nat × AObj)} {rn:List (Nat × Nat)} :∀ {m':List (Nat × AObj)},leR m rn m'→∀ {l o},look m' l=some o→look m (asN rn l)=some (o.ren (asN rn))
 | [],_,l,o,h=>by simp [look] at h
 |(i,q)::m',hr,l,o,h=>by
  simp only [look] at h
  split at h
  ·rename_i hi;subst hi;cases h;rw [← xH];exact hr.1
  ·exact oI hr.2 h
structure Bk (w0 w w':World):Prop where
 os:w'.os=w.os
 tape:w'.tape=w.tape
 output:w'.output=w.output
 size:w.heap.size≤w'.heap.size
 blk:∀b,b<w.heap.size→w'.heap[b]? =w.heap[b]? ∨(w0.heap.size≤b∧(∃q,w.heap[b]? =some q∧bQ q=true)∧∃q,w'.heap[b]? =some q∧bQ q=true)
theorem Bk.refl (w0 w:World):Bk w0 w w:=⟨rfl,rfl,rfl,Nat.le_refl _,fun _ _=> .inl rfl⟩
theorem Bk.trans {w0 w w' w'':World} (h:Bk w0 w w') (k:Bk w0 w' w''):Bk w0 w w'':=
 ⟨k.os.trans h.os,k.tape.trans h.tape,k.output.trans h.output,Nat.le_trans h.size k.size,fun b hb=>by
   rcases h.blk b hb with h1|⟨h1,h2,h3⟩
   ·rcases k.blk b (Nat.lt_of_lt_of_le hb h.size) with k1|⟨k1,k2,k3⟩
    ·exact .inl (k1.trans h1)
    ·exact .inr ⟨k1,by rw [← h1];exact k2,k3⟩
   ·rcases k.blk b (Nat.lt_of_lt_of_le hb h.size) with k1|⟨k1,k2,k3⟩
    ·exact .inr ⟨h1,h2,by rw [k1];exact h3⟩
    ·exact .inr ⟨h1,h2,k3⟩⟩
theorem Bk.one {w0 w:World} {D:Nat} {q q':Obj} (h0:w0.heap.size≤D) (h:w.heap[D]? =some q) (hq:bQ q=true) (fU:bQ q'=true):Bk w0 w (w.putObj D q'):=
 ⟨rfl,rfl,rfl,by simp [World.putObj],fun b _=>by
   by_cases hb:b=D
   ·subst hb
    exact .inr ⟨h0,⟨q,h,hq⟩,q',World.putObj_heap_same (Array.getElem?_eq_some_iff.1 h).1,fU⟩
   ·exact .inl (World.putObj_heap_other hb)⟩
theorem Bk.new (w0 w:World) (q:Obj):Bk w0 w (w.alloc q):=
 ⟨rfl,rfl,rfl,by simp,fun b hb=> .inl (RowKit.Below.heap_alloc w q b hb)⟩
theorem iS {P:Program} {fn:Func} {tmps:Array Value} {R:Ending→World→Prop} {w0:World} :∀ {ds:List Deferred} {w:World},(∀d∈ds,∃D,d= {target:= .collected D,args:= #[]} ∧w0.heap.size≤D∧w.heap[D]? =some (.deferred (some [])))→ds.Nodup→
 (∀w',Bk w0 w w'→∃v,(results fn tmps).run P w'= .ok v w'∧R (.returned v) w')→LeavesInM Fence.wide 0 P fn tmps R ds .returning w
 | [],w,_,_,h=>h w (Bk.refl _ _)
 |d::ds,w,ha,hn,h=>by
  obtain ⟨D,h1,h2,h3⟩:=ha d List.mem_cons_self
  refine ⟨by simp, .inl ⟨D,_,by rw [h1],run_takeDeferred h3, ?_⟩⟩
  refine iS (fun d' hd'=> ?_) (List.nodup_cons.1 hn).2 fun w' G8=>h w' ((Bk.one (q':= .deferred none) h2 h3 rfl rfl).trans G8)
  obtain ⟨D',k1,k2,k3⟩:=ha d' (List.mem_cons_of_mem _ hd')
  refine ⟨D',k1,k2, ?_⟩
  rw [World.putObj_heap_other]
  ·exact k3
  ·rintro rfl
   exact (List.nodup_cons.1 hn).1 (by rw [h1, ← k1];exact hd')
theorem iT {q:Obj} (h:bQ q=true) {w:World} {b o:Nat} (hb:w.heap[b]? =some q):w.cell? ⟨b,o,none⟩=none:=by
 unfold World.cell?
 cases q<;>simp [bQ] at h<;>simp [hb]
theorem Bk.zm {w0 w w':World} (h:Bk w0 w w') {z:Nat→Nat} (hz:∀b,w.heap.size≤b→z b=0):ak w z w' z:=fun b=>⟨Nat.le_refl _,fun o ho=>by
 have hb:b<w.heap.size:=by
  rcases Nat.lt_or_ge b w.heap.size with h1|h1
  ·exact h1
  ·rw [hz b h1] at ho;omega
 rcases h.blk b hb with h1|⟨_,⟨q,h2,h4⟩,q',h3,h5⟩
 ·simp [World.cell?,h1]
 ·rw [iT h4 h2,iT h5 h3]⟩
theorem aG.bk {X:Ctx} {E:Env} {s:ASt} {a:Act} {w w':World} {ds:List Deferred} (h:aG X E s a w) (hs:Bk X.w0 w w') (hd:Marks X.lo X.bk ds w'):aG X E s {a with defers:=ds} w':=by
 have hst:=hs.zm h.good.fresh
 have hblk:∀ {l o b},aJ s.m l=some o→E.ρ l=some b→w'.heap[b]? =w.heap[b]? :=fun {l o b} hl hb=>by
  have ho:=h.good.dY l o hl
  rcases hs.blk b (ho.lt hb) with h1|⟨_,⟨q,h2,h3⟩,_⟩
  ·exact h1
  ·exact absurd h2 (ho.uc hb q h3)
 refine ⟨hd,h.size,⟨h.good.low,h.good.inj,fun l o hl=> ?_,fun b hb=>h.good.fresh b (Nat.le_trans hs.size hb)⟩,⟨hs.os.trans h.dZ.os,hs.tape.trans h.dZ.tape,hs.output.trans h.dZ.output,Nat.le_trans h.dZ.size hs.size,h.dZ.st.trans hst,fun b hb hn=> ?_,h.dZ.yx⟩,h.mine,fun k=> ?_⟩
 ·have:=aF.keep (k:= []) hst (fun _ _=>⟨rfl,rfl⟩) (fun l x hl=>by simp [kl] at hl) rfl (fun _ _=>rfl) (fun b hb=>⟨hblk hl hb,rfl⟩) (h.good.dY l o hl)
  rwa [AObj.fk] at this
 ·have hf:=h.dZ.frame b hb hn
  rcases hs.blk b (Nat.lt_of_lt_of_le hb h.dZ.size) with h1|⟨h1,_⟩
  ·exact ⟨h1.trans hf.1,hf.2⟩
  ·omega
 ·exact aQ.mono (live:=fun _=>True) ⟨hst,fun _ _=>rfl,fun _ _=>rfl⟩ (fun _ _=>trivial) (h.slot k)
theorem uL {P:Program} {C:Cfg} {n:Nat} {rs:List RV} {rn:List (Nat × Nat)} {m:List (Nat × AObj)} {res:AV} {m':List (Nat × AObj)} {E E':Env} {w w':World} {s:ASt} {a':Act}
 (hX:Ctx.Ok ⟨P,C,n,m,E,w, [],w.heap.size⟩) (hE:aG ⟨P,C,n,m,E,w, [],w.heap.size⟩ E' s a' w') (hf:Fin C rs rn res m' .ret s)
 (j5:∀p∈m,10000≤p.1∧p.2.isNest=false) (hm':∀p∈m',p.1<20000∧p.2.isNest=false) (Bn:∀l,look m l≠none→asN rn l=l) (hinj:∀p∈m',∀q∈m',asN rn p.1=asN rn q.1→p.1=q.1):
 ∃us,((rs.map RV.rv).mapM (jy a'.tmps)).run P w'= .ok us w'∧Post m E w res m' (.returned (kT us)) w':=by
 have hplain:∀ {l o},aJ m l=some o→look m l=some o:=fun hl=>(de (fun p hp=>(j5 p hp).2) hl).1
 obtain ⟨vs,us,⟨h1,h2⟩,h3,h4⟩:=iw hX hE hf
 have dm:∀ {l o},aJ m' l=some o→aJ s.m (asN rn l)=some (o.ren (asN rn))∧(o.ren (asN rn)).isNest=false∧(l,o)∈m':=fun hl=>by
  have hl':=(de (fun p hp=>(hm' p hp).2) hl).1
  exact ⟨hE.good.aJ (oI h2 hl'),by rw [AObj.kR];exact (hm' _ (aH hl')).2,aH hl'⟩
 obtain ⟨z,hz⟩:∃z:Nat→Nat,∀b,((∃l o,aJ s.m l=some o∧(∃p∈m',asN rn p.1=l)∧E'.ρ l=some b)∨(b<w.heap.size∧¬tZ m E b)→z b=E'.z b)∧
  (¬((∃l o,aJ s.m l=some o∧(∃p∈m',asN rn p.1=l)∧E'.ρ l=some b)∨(b<w.heap.size∧¬tZ m E b))→z b=max (E'.z b) (bg w' b)):=by
  classical
  exact ⟨fun b=>if ((∃l o,aJ s.m l=some o∧(∃p∈m',asN rn p.1=l)∧E'.ρ l=some b)∨(b<w.heap.size∧¬tZ m E b)) then E'.z b else max (E'.z b) (bg w' b),fun b=>⟨fun h=>by simp only [if_pos h],fun h=>by simp only [if_neg h]⟩⟩
 have xE:∀b,E'.z b≤z b:=fun b=>by
  by_cases h:(∃l o,aJ s.m l=some o∧(∃p∈m',asN rn p.1=l)∧E'.ρ l=some b)∨(b<w.heap.size∧¬tZ m E b)
  ·rw [(hz b).1 h];exact Nat.le_refl _
  ·rw [(hz b).2 h];exact Nat.le_max_left _ _
 have hst:ak w' E'.z w' z:=fun b=>⟨xE b,fun _ _=>rfl⟩
 have hkeep:kD w' E' w' ⟨E'.ρ,E'.σ,z⟩ fun _=>True:=⟨hst,fun _ _=>rfl,fun _ _=>rfl⟩
 have nT:∀l o b,look s.m l=some o→(o.ro=false∨false=true)→(o.ro=false→(m'.any fun p=>asN rn p.1==l)=false)→E'.ρ l=some b→bg w' b≤z b:=by
  intro l o b hl hro sS hb
  have hro:o.ro=false:=hro.resolve_right (by simp)
  have sS:=sS hro
  rw [(hz b).2 ?_]
  ·exact Nat.le_max_right _ _
  ·rintro (⟨l',o',h1,⟨p,hp,iK⟩,h2⟩|⟨h1,h2⟩)
   ·have:=hE.good.inj l l' b (by rw [hE.good.aJ hl];simp) (by rw [h1];simp) hb h2
    subst this
    rw [List.any_eq_false] at sS
    exact sS p hp (by simp [iK])
   ·rcases hE.mine l o b (hE.good.aJ hl) hro hb with h3|h3
    ·simp only at h3;omega
    ·exact h2 h3
 refine ⟨us,h4,_,(⟨E'.ρ,E'.σ,z⟩:Env).pre (asN rn),rfl,⟨hE.dZ.os,hE.dZ.tape,hE.dZ.output,hE.dZ.size,hE.dZ.st.trans hst,fun b hb hnm=> ?_,fun l hl=> ?_⟩,⟨fun l hl=> ?_,fun l l' b hl hl' hb hb'=> ?_,fun l o hl=> ?_,fun b hb=> ?_⟩,fun l o b hl hro hb'=> ?_, ?_⟩
 ·have:=hE.dZ.frame b hb hnm
  exact ⟨this.1,((hz b).1 (.inr ⟨hb,hnm⟩)).trans this.2⟩
 ·obtain ⟨o,ho⟩:=Option.ne_none_iff_exists'.1 hl
  have:=Bn l (by rw [hplain ho];simp)
  simp only [Env.pre,this]
  exact hE.dZ.yx l hl
 ·obtain ⟨o,ho⟩:=Option.ne_none_iff_exists'.1 hl
  exact (hm' _ (aH ho)).1
 ·obtain ⟨o,ho⟩:=Option.ne_none_iff_exists'.1 hl
  obtain ⟨o',ho'⟩:=Option.ne_none_iff_exists'.1 hl'
  obtain ⟨g1,_,g2⟩:=dm ho
  obtain ⟨C4,_,G9⟩:=dm ho'
  exact hinj _ g2 _ G9 (hE.good.inj (asN rn l) (asN rn l') b (by simp [g1]) (by simp [C4]) hb hb')
 ·obtain ⟨g1,g3,g2⟩:=dm hl
  refine (iP (by rw [AObj.kR] at g3;exact g3)).2 ?_
  have:=aF.keep (k:= []) (E':=⟨E'.ρ,E'.σ,z⟩) hst (fun _ _=>⟨rfl,rfl⟩) (fun l x hl=>by simp [kl] at hl) rfl (fun _ _=>rfl) (fun b hb=>⟨rfl,(hz b).1 (.inl ⟨_,_,g1,⟨_,g2,rfl⟩,hb⟩)⟩) (hE.good.dY _ _ g1)
  rwa [AObj.fk] at this
 ·by_cases h:(∃l o,aJ s.m l=some o∧(∃p∈m',asN rn p.1=l)∧E'.ρ l=some b)∨(b<w.heap.size∧¬tZ m E b)
  ·exact ((hz b).1 h).trans (hE.good.fresh b hb)
  ·refine ((hz b).2 h).trans ?_
   rw [hE.good.fresh b hb]
   simp [bg,Array.getElem?_eq_none hb]
 ·obtain ⟨g1,_,_⟩:=dm hl
  exact hE.mine _ _ b g1 (by rw [AObj.uJ];exact hro) hb'
 ·refine kj.2 ?_
  rw [← xG]
  refine rQ hkeep (fun a x v yE hr=>iR hE.good hst nT yE hr) h1 ?_
  match vs,us,h3 with
  | [],us,h3=>simp only [AVrs] at h3;subst h3;exact ⟨[],rfl,rfl⟩
  | [v],us,h3=>obtain ⟨u,us',rfl,g1,g2⟩:=h3;simp only [AVrs] at g2;subst g2;exact g1
  |v::v'::vs,us,h3=>
   obtain ⟨u,us',rfl,g1,u',Bo,rfl,g2⟩:=h3
   exact ⟨u::u'::Bo,rfl,⟨u,_,rfl,g1,u',_,rfl,g2⟩⟩
theorem Spec.uM {P:Program} {C:Cfg} {f:Nat} {fn:Func} {c:Code} {n:Nat} {rs:List RV} (rn:List (Nat × Nat)) {A:Env→World→List Value→Prop} {m:List (Nat × AObj)} {res:AV} {m':List (Nat × AObj)}
 (hC:C.Ok P) (hf:P.funcs[f]? =some fn) (hb:fn.body=some c) (hname:(fn.name== "runtime.NumGoroutine")=false) (hn:fn.ntmps=n) (qa:fn.results=(rs.map RV.rv).toArray)
 (j5:∀p∈m,10000≤p.1∧p.2.isNest=false) (hm':∀p∈m',p.1<20000∧p.2.isNest=false) (Bn:∀l,look m l≠none→asN rn l=l) (hinj:∀p∈m',∀q∈m',asN rn p.1=asN rn q.1→p.1=q.1) (hk:ni n c=true)
 (h:∀X:Ctx,X.Ok→X.P=P→X.C=C→X.n=n→X.m0=m→∀vals,A X.E0 X.w0 vals→∃args,args.length≤n∧AVrs X.w0 X.E0 args vals∧bB X c (Fin C rs rn res m') ⟨params 0 args,m⟩):Spec P f A m res m':=by
 refine ⟨⟨fn,c,hf,hname,hb⟩,fun E w vals hg hA=> ?_⟩
 have hplain:∀ {l o},aJ m l=some o→look m l=some o:=fun hl=>(de (fun p hp=>(j5 p hp).2) hl).1
 have hX:Ctx.Ok ⟨P,C,n,m,E,w, [],w.heap.size⟩:=⟨hC,fun l hl=>by
  obtain ⟨o,ho⟩:=Option.ne_none_iff_exists'.1 hl
  exact (j5 _ (aH (hplain ho))).1,Nat.le_refl _⟩
 obtain ⟨args,hlen,hargs,hwp⟩:=h ⟨P,C,n,m,E,w, [],w.heap.size⟩ hX rfl rfl rfl rfl vals hA
 have hvl:=hargs.length
 have hsz:(vals.toArray++Array.replicate (fn.ntmps - vals.toArray.size) undef).size=n:=by simp [hn];omega
 refine callsIn_wide.1 (callsIn_of_wp_marks (n:=0) (F:=Fence.wide) hf hb trivial (wpIn_wide.2 (wp_mono (hwp.run hk _ _ ⟨E,Marks.nil,hsz,hg,yw.refl _ _ _,fun l o b hl hro hb'=> .inr ⟨l,o,hl,hro,hb'⟩,fun k=> ?_⟩) ?_)))
 ·have FQ:=kS args 0 k
  rw [Nat.zero_add] at FQ
  rw [FQ]
  cases ha:args[k]? with
  |none=>trivial
  |some av=>
   obtain ⟨u,hu,hr⟩:=hargs.get ha
   have:(vals.toArray++Array.replicate (fn.ntmps - vals.toArray.size) undef).getD k undef=u:=by
    have bp:k<vals.length:=(List.getElem?_eq_some_iff.1 hu).1
    rw [Array.getD_eq_getD_getElem?,Array.getElem?_append_left (by simpa using bp)]
    simp [hu]
   rw [this];exact hr
 ·rintro e a0 w1 ⟨s,hq,E',AB⟩
  have fin:Fin C rs rn res m' .ret s→LeavesInM Fence.wide 0 P fn a0.tmps (Post m E w res m') a0.defers .returning w1:=by
   intro hf
   refine iS AB.defers.all AB.defers.nd fun w' hsh=> ?_
   have hE:=AB.bk hsh Marks.nil
   obtain ⟨a',FR⟩:∃a':Act,a'= {a0 with defers:= []} :=⟨_,rfl⟩
   rw [← FR] at hE
   rw [show a0.tmps=a'.tmps by rw [FR]]
   obtain ⟨us,h1,h2⟩:=uL hX hE hf j5 hm' Bn hinj
   exact ⟨_,oz qa h1,h2⟩
  cases e with
  |ret=>exact fin hq
  |normal=>exact fin hq
  |_=>exact hq.elim
theorem Spec.intro {P:Program} {C:Cfg} {f:Nat} {fn:Func} {c:Code} {n:Nat} {rs:List RV} {A:Env→World→List Value→Prop} {m:List (Nat × AObj)} {res:AV} {m':List (Nat × AObj)}
 (hC:C.Ok P) (hf:P.funcs[f]? =some fn) (hb:fn.body=some c) (hname:(fn.name== "runtime.NumGoroutine")=false) (hn:fn.ntmps=n) (qa:fn.results=(rs.map RV.rv).toArray)
 (j5:∀p∈m,10000≤p.1∧p.2.isNest=false) (hm':∀p∈m',p.1<20000∧p.2.isNest=false) (hk:ni n c=true)
 (h:∀X:Ctx,X.Ok→X.P=P→X.C=C→X.n=n→X.m0=m→∀vals,A X.E0 X.w0 vals→∃args,args.length≤n∧AVrs X.w0 X.E0 args vals∧bB X c (Fin C rs [] res m') ⟨params 0 args,m⟩):Spec P f A m res m':=
 Spec.uM [] hC hf hb hname hn qa j5 hm' (fun _ _=>rfl) (fun p _ q _ h=>h) hk h
end Go.Ab
end
section
namespace Go.Ab
def renM (π:Nat→Nat):List (Nat × AObj)→List (Nat × AObj)
 | []=> []
 |(l,o)::r=>match o with
  | .rob _=>renM π r
  |o=>(π l,o.ren π)::renM π r
def killM (π:Nat→Nat) (m':List (Nat × AObj)):List (Nat × AObj)→List (Nat × Option D)
 | []=> []
 |(l,_)::r=>match look m' l with
  |none=>(π l,none)::killM π m' r
  |some _=>killM π m' r
theorem iU {π:Nat→Nat} {m':List (Nat × AObj)} :∀ {m:List (Nat × AObj)} {k:Nat},kl (killM π m' m) k≠none→∃l,look m l≠none∧look m' l=none∧π l=k
 | [],k,h=>absurd rfl h
 |(l,o)::r,k,h=>by
  simp only [killM] at h
  split at h
  ·rename_i hl
   simp only [kl] at h
   split at h
   ·rename_i hk;exact ⟨l,by simp [look],hl,hk⟩
   ·obtain ⟨l',h1,h2,h3⟩:=iU h
    exact ⟨l',by simp only [look];split<;>simp_all,h2,h3⟩
  ·obtain ⟨l',h1,h2,h3⟩:=iU h
   exact ⟨l',by simp only [look];split<;>simp_all,h2,h3⟩
theorem kU {π:Nat→Nat} {m':List (Nat × AObj)} :∀ {m:List (Nat × AObj)} {l:Nat},look m l≠none→look m' l=none→kl (killM π m' m) (π l)≠none
 | [],l,h,_=>absurd rfl h
 |(i,o)::r,l,h,h'=>by
  simp only [look] at h
  simp only [killM]
  by_cases hil:i=l
  ·subst hil
   simp [h',kl]
  ·simp only [hil,if_false] at h
   have ih:=kU (π:=π) h h'
   split
   ·simp only [kl];split
    ·simp
    ·exact ih
   ·exact ih
theorem iy {π:Nat→Nat} {m':List (Nat × AObj)} :∀ {m:List (Nat × AObj)} {k:Nat} {x:D},kl (killM π m' m) k≠some (some x)
 | [],k,x=>by simp [killM,kl]
 |(i,o)::r,k,x=>by
  simp only [killM]
  have ih:=iy (π:=π) (m':=m') (m:=r) (k:=k) (x:=x)
  split
  ·simp only [kl];split
   ·simp
   ·exact ih
  ·exact ih
theorem eP:∀(a b:List (Nat × Option D)) (k:Nat),kl (a++b) k=match kl a k with|some x=>some x|none=>kl b k
 | [],b,k=>rfl
 |(i,x)::a,b,k=>by
  simp only [List.cons_append,kl]
  split
  ·rfl
  ·exact eP a b k
theorem dA {π:Nat→Nat} :∀ {m:List (Nat × AObj)} {k:Nat} {o':AObj},look (renM π m) k=some o'→∃p∈m,p.2.ro=false∧π p.1=k∧o'=p.2.ren π
 | [],k,o',h=>by simp [renM,look] at h
 |(l,o)::r,k,o',h=>by
  have step:look (renM π r) k=some o'→∃p∈(l,o)::r,p.2.ro=false∧π p.1=k∧o'=p.2.ren π:=fun h=>by
   obtain ⟨p,h1,h2⟩:=dA h
   exact ⟨p,by simp [h1],h2⟩
  cases o<;>simp only [renM] at h
  case rob cells=>exact step h
  all_goals
   simp only [look] at h
   split at h
   ·rename_i hk;cases h;exact ⟨_,List.mem_cons_self,rfl,hk,rfl⟩
   ·exact step h
theorem mq {π:Nat→Nat} :∀ {m:List (Nat × AObj)} {p:Nat × AObj},p∈m→p.2.ro=false→look (renM π m) (π p.1)≠none
 | [],p,h,_=>by cases h
 |(l,o)::r,p,h,hro=>by
  rcases List.mem_cons.1 h with rfl|h
  ·cases o<;>simp only [renM]<;>first|(simp [AObj.ro] at hro;done)|simp [look]
  ·have ih:=mq (π:=π) h hro
   cases o<;>simp only [renM]<;>first|exact ih|(simp only [look];split<;>first|(simp;done)|exact ih)
def nodupM:List (Nat × AObj)→Prop
 | []=>True
 |(l,_)::r=>look r l=none∧nodupM r
theorem aA:∀ {m:List (Nat × AObj)},nodupM m→∀ {p:Nat × AObj},p∈m→look m p.1=some p.2
 | [],_,p,h=>by cases h
 |(i,q)::m,hn,p,h=>by
  rcases List.mem_cons.1 h with rfl|h
  ·simp [look]
  ·have ih:=aA hn.2 h
   simp only [look]
   split
   ·rename_i hi;subst hi;rw [hn.1] at ih;cases ih
   ·exact ih
theorem iV {X:Ctx} {E:Env} {s s':ASt} {a:Act} {w:World} (hE:aG X E s' a w):∀(xs:List Operand) (ts:List Nat),(∀p∈rsOf s xs,get s'.t p.1=p.2)→AVrs w E (evA X.C s xs ts) (xs.map a.eval)
 | [],ts,_=>by cases ts<;>rfl
 |x::xs,ts,h=>by
  have hx:∀ty,aQ w E (aev X.C ty s x) (a.eval x):=fun ty=>hE.evs h _ _ (by simp)
  have ht:∀p∈rsOf s xs,get s'.t p.1=p.2:=fun p hp=>h p (by cases x<;>simp [rsOf,hp])
  cases ts with
  |nil=>exact ⟨_,_,rfl,hx 0,iV hE xs [] ht⟩
  |cons t ts=>exact ⟨_,_,rfl,hx t,iV hE xs ts ht⟩
theorem ck {P:Program} {f:FuncId} {fn:Func} {c:Code} (hf:P.funcs[f]? =some fn) (hname:(fn.name== "runtime.NumGoroutine")=false) (hb:fn.body=some c) (args:Array Value) (w:World):
 (callFunc f args).run P w= .ok (.enter f args) w:=by
 have h1:fn.name≠ "runtime.NumGoroutine" :=by simpa using hname
 simp [callFunc,hf,h1,hb]
section
variable {X:Ctx} {o:Oper} {s:ASt} {K:LA→Prop}
structure Over (π:Nat→Nat) (mm m:List (Nat × AObj)) (m':List (Nat × AObj)) (res:AV):Prop where
 hm:∀p∈m,(π p.1,p.2.ren π)∈mm∨∃cells,p.2= .rob cells∧(π p.1, .box (AV.rens π cells))∈mm
 nd:nodupM m
 IW:nodupM m'
 pl:∀p∈m,p.1<20000∧p.2.isNest=false
 IX:∀p∈m',p.1<20000∧p.2.isNest=false
 inj:∀l l',(look m l≠none∨look m' l≠none)→(look m l'≠none∨look m' l'≠none)→π l=π l'→l=l'
 new:∀p∈m',look m p.1=none→π p.1<10000
 ro:∀p∈m',p.2.ro=true→look m p.1=some p.2
 IY:∀p∈m,p.2.ro=true→look m' p.1=some p.2
 IZ:∀l∈res.ids,look m' l≠none
 I1:∀p∈m',∀l∈p.2.ids,look m' l≠none
section
variable {π:Nat→Nat} {mm m m':List (Nat × AObj)} {res:AV} {E:Env} {w:World} {s':ASt}
theorem Over.obj (h:Over π mm m m' res) (hg:Good s'.m E w) (hmm:∀p∈mm,look s'.m p.1=some p.2):∀l q,look m l=some q→∃q',look s'.m (π l)=some q'∧(q.ro=false→q'=q.ren π)∧aF w (E.pre π) l q:=by
 intro l q hl
 rcases h.hm _ (aH hl) with h0|⟨cells,h1,h2⟩
 ·have:=hmm _ h0
  exact ⟨_,this,fun _=>rfl,(iP (h.pl _ (aH hl)).2).2 (hg.obj _ _ this)⟩
 ·simp only at h1
  subst h1
  have:=hmm _ h2
  exact ⟨_,this,fun h=>by simp [AObj.ro] at h,(iP rfl).2 (show aF w E (π l) (.box (AV.rens π cells)) from hg.obj _ _ this)⟩
theorem Over.good (h:Over π mm m m' res) (hg:Good s'.m E w) (hmm:∀p∈mm,look s'.m p.1=some p.2):Good m (E.pre π) w:=by
 have pl:∀ {l o},aJ m l=some o→look m l=some o:=fun hl=>(de (fun p hp=>(h.pl p hp).2) hl).1
 refine ⟨fun l hl=> ?_,fun l l' b hl hl' hb hb'=> ?_,fun l q hl=> ?_,hg.fresh⟩
 ·obtain ⟨q,hq⟩:=Option.ne_none_iff_exists'.1 hl
  exact (h.pl _ (aH hq)).1
 ·obtain ⟨q,hq⟩:=Option.ne_none_iff_exists'.1 hl
  obtain ⟨q',fU⟩:=Option.ne_none_iff_exists'.1 hl'
  have hq:=pl hq
  have fU:=pl fU
  obtain ⟨r,h1,_⟩:=h.obj hg hmm l q hq
  obtain ⟨r',j9,_⟩:=h.obj hg hmm l' q' fU
  exact h.inj l l' (.inl (by simp [hq])) (.inl (by simp [fU])) (hg.inj _ _ b (by simp [hg.aJ h1]) (by simp [hg.aJ j9]) hb hb')
 ·obtain ⟨q',_,_,h⟩:=h.obj hg hmm l q (pl hl);exact h
end
theorem Post.core (hX:X.Ok) {π:Nat→Nat} {mm m m':List (Nat × AObj)} {res:AV} (ho:Over π mm m m' res) {rs:List (Nat × AV)} {dst:Option Nat} {s':ASt} {E:Env} {a:Act} {w w':World} (hdn:∀d,dst=some d→d<X.n)
 (hE:aG X E s' a w) (hmm:∀p∈mm,look s'.m p.1=some p.2) {v:Value} {E':Env} (hst:yw m (E.pre π) w E' w') (hg':Good m' E' w') (mu:∀l o b,aJ m' l=some o→o.ro=false→E'.ρ l=some b→w.heap.size≤b∨tZ m (E.pre π) b) (hres:aQ w' E' res v):
 ∃E2:Env,aG X E2 ((⟨rs,mm,killM π m m'++killM π m' m,renM π m',dst,res.ren π⟩:LA).app s') (a.put dst v) w'∧E2.z=E'.z∧∀k,look m' k≠none→E2.ρ (π k)=E'.ρ k∧E2.σ (π k)=E'.σ k:=by
 obtain ⟨hm,hnm,l5,iK,oJ,hinj,hnew,hro,qu,sV,oK⟩:=ho
 have Bp:=Over.obj (res:=res) ⟨hm,hnm,l5,iK,oJ,hinj,hnew,hro,qu,sV,oK⟩ hE.good hmm
 have pl:∀ {l o},aJ m l=some o→look m l=some o:=fun hl=>(de (fun p hp=>(iK p hp).2) hl).1
 have up:∀ {l o},look m l=some o→aJ m l=some o:=fun hl=>by rw [bP (by have:=(iK _ (aH hl)).1;omega)];exact hl
 have up':∀ {l o},look m' l=some o→aJ m' l=some o:=fun hl=>by rw [bP (by have:=(oJ _ (aH hl)).1;omega)];exact hl
 have Bq:∃pick:Nat→Option Nat,(∀k,look m' k≠none→pick (π k)=some k)∧∀l k,pick l=some k→look m' k≠none∧π k=l:=by
  classical
  refine ⟨fun l=>if h:∃k,look m' k≠none∧π k=l then some h.choose else none,fun k hk=> ?_,fun l k hl=> ?_⟩
  ·have h:∃k',look m' k'≠none∧π k'=π k:=⟨k,hk,rfl⟩
   simp only [h,dif_pos,Option.some.injEq]
   have:=h.choose_spec
   exact hinj _ _ (.inr this.1) (.inr hk) this.2
  ·simp only at hl
   split at hl
   ·rename_i h;cases hl;exact h.choose_spec
   ·cases hl
 obtain ⟨pick,hp1,hp2⟩:=Bq
 let E2:Env:=⟨fun l=>match pick l with|some k=>E'.ρ k|none=>E.ρ l,fun l=>match pick l with|some k=>E'.σ k|none=>E.σ l,E'.z⟩
 have e1:∀k,look m' k≠none→E2.ρ (π k)=E'.ρ k∧E2.σ (π k)=E'.σ k:=fun k hk=>by simp [E2,hp1 k hk]
 have rR:∀l,look m' l≠none→(E2.pre π).ρ l=E'.ρ l∧(E2.pre π).σ l=E'.σ l:=fun l hl=>e1 l hl
 have sW:∀l,kl (killM π m m'++killM π m' m) l=none→kl (killM π m m') l=none∧kl (killM π m' m) l=none:=by
  intro l hl
  rw [eP] at hl
  split at hl
  ·cases hl
  ·exact ⟨by assumption,hl⟩
 have uN:∀b,tZ m (E.pre π) b→∃l0 q0,aJ s'.m l0=some q0∧q0.ro=false∧E.ρ l0=some b∧(kl (killM π m m'++killM π m' m) l0≠none∨look (renM π m') l0≠none):=by
  rintro b ⟨l,q,hl,xJ,hb⟩
  have hl:=pl hl
  obtain ⟨q',h1,h2,_⟩:=Bp l q hl
  refine ⟨π l,q',hE.good.aJ h1,by rw [h2 xJ,AObj.uJ];exact xJ,hb, ?_⟩
  cases hq:look m' l with
  |none=>
   left
   rw [eP]
   split
   ·simp
   ·exact kU (by simp [hl]) hq
  |some r=>
   right
   have DL:r.ro=false:=by
    cases hr:r.ro with
    |false=>rfl
    |true=>
     have:=hro _ (aH hq) hr
     simp only at this
     rw [hl] at this;cases this
     rw [hr] at xJ;cases xJ
   exact mq (p:=(l,r)) (aH hq) DL
 have C5:∀k,look m k≠none∨look m' k≠none→π k<20000:=by
  intro k hk
  by_cases hkm:look m k=none
  ·obtain ⟨q,hq⟩:=Option.ne_none_iff_exists'.1 (hk.resolve_left (by simp [hkm]))
   have:=hnew _ (aH hq) hkm
   simp only at this;omega
  ·obtain ⟨q,hq⟩:=Option.ne_none_iff_exists'.1 hkm
   obtain ⟨q',h1,_⟩:=Bp k q hq
   exact hE.good.low _ (by simp [h1])
 have xK:∀l,kl (killM π m m'++killM π m' m) l≠none→l<20000:=by
  intro l hl
  rw [eP] at hl
  split at hl
  ·rename_i y hy
   obtain ⟨k,h1,h2,h3⟩:=iU (k:=l) (by rw [hy];simp)
   rw [← h3];exact C5 k (.inr h1)
  ·obtain ⟨k,h1,h2,h3⟩:=iU hl
   rw [← h3];exact C5 k (.inl h1)
 refine ⟨E2,hE.app' ⟨rs,mm,killM π m m'++killM π m' m,renM π m',dst,res.ren π⟩ E2 w' v hst.st hst.os hst.tape hst.output hst.size (fun l hl=> ?_) (fun l x hl=> ?_) (fun l hl=> ?_) xK (fun l q hl=> ?_) (fun b hb=> ?_) (fun l q hl=> ?_) (fun l l' b hl hl' hb hb'=> ?_) (fun l b hl hb=> ?_) hg'.fresh ?_ hdn,rfl,e1⟩
 ·
  obtain ⟨k1,k2⟩:=sW l hl
  simp only [E2]
  cases hpk:pick l with
  |none=>exact ⟨rfl,rfl⟩
  |some k=>
   obtain ⟨h1,h2⟩:=hp2 l k hpk
   subst h2
   have hkm:look m k≠none:=by
    intro hkm
    exact kU (π:=π) h1 hkm k1
   obtain ⟨q,hq⟩:=Option.ne_none_iff_exists'.1 hkm
   exact hst.yx k (by simp [up hq])
 ·rw [eP] at hl
  split at hl
  ·rename_i y hy;cases hl;exact absurd hy iy
  ·exact absurd hl iy
 ·
  have j5:=hX.low l hl
  simp only [E2]
  cases hpk:pick l with
  |none=>exact ⟨rfl,rfl⟩
  |some k=>
   obtain ⟨h1,h2⟩:=hp2 l k hpk
   subst h2
   by_cases hkm:look m k=none
   ·obtain ⟨q,hq⟩:=Option.ne_none_iff_exists'.1 h1
    have:=hnew _ (aH hq) hkm
    simp only at this;omega
   ·obtain ⟨q,hq⟩:=Option.ne_none_iff_exists'.1 hkm
    exact hst.yx k (by simp [up hq])
 ·obtain ⟨p,h1,h2,h3,rfl⟩:=dA hl
  subst h3
  have hl':=aA l5 h1
  exact ⟨C5 _ (.inr (by simp [hl'])),by rw [AObj.kR];exact (oJ p h1).2⟩
 ·by_cases Br:tZ m (E.pre π) b
  ·exact .inr (uN b Br)
  ·exact .inl (hst.frame b hb Br)
 ·obtain ⟨p,h1,h2,h3,rfl⟩:=dA hl
  subst h3
  have hl':=aA l5 h1
  have hn:=(oJ p h1).2
  refine (iP hn).1 (aF.congr (live:=fun l=>look m' l≠none) (E:=E') (E':=E2.pre π) rfl (fun l hl=>(rR l hl).1) (fun l hl=>(rR l hl).2) hn (by simp [hl']) (oK p h1) (hg'.obj _ _ hl'))
 ·obtain ⟨q,hq⟩:=Option.ne_none_iff_exists'.1 hl
  obtain ⟨q',fU⟩:=Option.ne_none_iff_exists'.1 hl'
  obtain ⟨p,h1,h2,h3,_⟩:=dA hq
  obtain ⟨p',j9,qc,A9,_⟩:=dA fU
  subst h3;subst A9
  have g1:=aA l5 h1
  have C4:=aA l5 j9
  rw [(e1 _ (by simp [g1])).1] at hb
  rw [(e1 _ (by simp [C4])).1] at hb'
  rw [hg'.inj _ _ b (by simp [up' g1]) (by simp [up' C4]) hb hb']
 ·obtain ⟨q,hq⟩:=Option.ne_none_iff_exists'.1 hl
  obtain ⟨p,h1,h2,h3,_⟩:=dA hq
  subst h3
  have g1:=aA l5 h1
  rw [(e1 _ (by simp [g1])).1] at hb
  rcases mu _ _ b (up' g1) h2 hb with h|h
  ·exact .inl h
  ·exact .inr (uN b h)
 ·refine kj.1 (aQ.mono (live:=fun l=>look m' l≠none) (E:=E') (E':=E2.pre π) ⟨ak.refl _ _,fun l hl=>(rR l hl).1,fun l hl=>(rR l hl).2⟩ sV hres)
theorem Post.back (hX:X.Ok) {π:Nat→Nat} {mm m m':List (Nat × AObj)} {res:AV} (ho:Over π mm m m' res) {rs:List (Nat × AV)} {dst:Option Nat} {s':ASt} {E:Env} {a:Act} {w w':World} {e:Ending} (hdn:∀d,dst=some d→d<X.n)
 (hE:aG X E s' a w) (hmm:∀p∈mm,look s'.m p.1=some p.2) (hp:Post m (E.pre π) w res m' e w'):
 ∃v E2,e= .returned v∧aG X E2 ((⟨rs,mm,killM π m m'++killM π m' m,renM π m',dst,res.ren π⟩:LA).app s') (a.put dst v) w':=by
 obtain ⟨v,E',rfl,hst,hg',mu,hres⟩:=hp
 obtain ⟨E2,h,_⟩:=Post.core hX ho (rs:=rs) hdn hE hmm hst hg' mu hres
 exact ⟨v,E2,rfl,h⟩
theorem mw (hX:X.Ok) {c:Call} {fo:Operand} {f:Nat} {first caps as:List AV} (π:Nat→Nat) {A:Env→World→List Value→Prop} {m:List (Nat × AObj)} {res:AV} {m':List (Nat × AObj)} (mm:List (Nat × AObj))
 (hs:Spec X.P f A m res m') (ho:o.op= .call c) (hc:c.callee= .value fo) (hf:aev X.C 0 s fo= .fn f first caps) (has:evA X.C s c.args.toList c.argTypes.toList=as)
 (hmm:∀p∈mm,look s.m p.1=some p.2)
 (hm:∀p∈m,(π p.1,p.2.ren π)∈mm∨∃cells,p.2= .rob cells∧(π p.1, .box (AV.rens π cells))∈mm)
 (hnm:nodupM m) (l5:nodupM m') (iK:∀p∈m,p.1<20000∧p.2.isNest=false) (oJ:∀p∈m',p.1<20000∧p.2.isNest=false)
 (hinj:∀l l',(look m l≠none∨look m' l≠none)→(look m l'≠none∨look m' l'≠none)→π l=π l'→l=l')
 (hnew:∀p∈m',look m p.1=none→π p.1<10000)
 (hro:∀p∈m',p.2.ro=true→look m p.1=some p.2) (qu:∀p∈m,p.2.ro=true→look m' p.1=some p.2)
 (sV:∀l∈res.ids,look m' l≠none) (oK:∀p∈m',∀l∈p.2.ids,look m' l≠none)
 (hA:∀s' E a w,(∀p∈mm,look s'.m p.1=some p.2)→aG X E s' a w→∀vals,AVrs w E (first++as++caps) vals→A (E.pre π) w vals)
 (hK:K ⟨rsOf s (fo::c.args.toList),mm,killM π m m'++killM π m' m,renM π m',o.dst,res.ren π⟩):∃la,aj X o la∧Sat la s∧K la:=by
 refine ⟨_,⟨rfl, ?_⟩,⟨ai s _,hmm⟩,hK⟩
 rintro s' a w hdn dJ ⟨E,hE⟩
 have hfo:=hE.evs dJ.1 X.C 0 (x:=fo) (by simp)
 rw [hf] at hfo
 obtain ⟨us,vs,hfo,om,wZ⟩:=hfo
 have hargs:=iV (s:=s) hE c.args.toList c.argTypes.toList (fun p hp=>dJ.1 p (by cases fo<;>simp [rsOf,hp]))
 rw [has] at hargs
 have oL:AVrs w E (first++as++caps) (us++c.args.toList.map a.eval++vs):=(om.append hargs).append wZ
 obtain ⟨fn,cd,hfn,hname,hbody⟩:=hs.can
 have hrun:(execOp a.eval o).run X.P w= .ok (.enter f (us++c.args.toList.map a.eval++vs).toArray) w:=by
  have h1:us.toArray++c.args.map a.eval++vs.toArray=(us++c.args.toList.map a.eval++vs).toArray:=by
   apply Array.toList_inj.1;simp
  have h2:=ck (P:=X.P) hfn hname hbody (us.toArray++c.args.map a.eval++vs.toArray) w
  rw [h1] at h2
  simp only [execOp,ho,resolve,hc,hfo,Deferred.ofValue,Sem.run_bind,Sem.run_pure,Result.andThen_ok,invoke]
  rw [h1];exact h2
 have ho:Over π mm m m' res:=⟨hm,hnm,l5,iK,oJ,hinj,hnew,hro,qu,sV,oK⟩
 unfold Oper.wp
 rw [hrun]
 refine (hs.calls (E.pre π) w _ (ho.good hE.good dJ.2) (hA s' E a w dJ.2 hE _ oL)).mono ?_
 rintro e w' hp
 obtain ⟨v,E2,rfl,C6⟩:=hp.back hX ho hdn hE dJ.2
 exact ⟨E2,C6⟩
end
end Go.Ab
end
section
namespace Go.Ab
inductive Key where
 |slot (t:Nat)
 |obj (l:Nat)
 |cell (l q:Nat)
 deriving DecidableEq
inductive KV where
 |av (a:AV)
 |ob (o:Option AObj)
def bh (o:Option AObj) (q:Nat):KV:=match o with
 |some (.box cells)|some (.rob cells)=>match cells[q]? with|some v=> .av v|none=> .ob none
 |_=> .ob none
def aq (s:ASt):Key→KV
 | .slot t=> .av (get s.t t)
 | .obj l=> .ob (look s.m l)
 | .cell l q=>if q<16 then bh (look s.m l) q else .ob none
def KV.sub (k:List (Nat × Option D)):KV→KV
 | .av a=> .av (a.sub k)
 | .ob o=> .ob (o.map (AObj.sub k))
def KV.ids:KV→List Nat
 | .av a=>a.ids
 | .ob (some o)=>o.ids
 | .ob none=> []
structure Rec where
 la:LA
 hs:List (Nat × AV)
 hm:List (Nat × AObj)
 cs:List (Nat × Nat × AV)
def Rec.rs (r:Rec):List (Key × KV):=(r.la.rs++r.hs).map (fun p=>(.slot p.1, .av p.2))++(r.la.ms++r.hm).map (fun p=>(.obj p.1, .ob (some p.2)))++r.cs.map (fun p=>(.cell p.1 p.2.1, .av p.2.2))
def Rec.fT (r:Rec):List Key:=(match r.la.dst with|some d=> [Key.slot d]|none=> [])++r.hs.map (fun p=> .slot p.1)++r.la.cz.map (fun p=> .obj p.1)++r.la.kill.map (fun p=> .obj p.1)++r.hm.map (fun p=> .obj p.1)
def Rec.aO (r:Rec):List Nat:=r.la.kill.map (·.1)
def meets (a b:List Nat):Bool:=a.any fun x=>b.contains x
def Rec.zn (r:Rec):List Key:=(r.la.cz.map (·.1)++r.aO).flatMap (fun l=>(List.range 16).map (Key.cell l))++r.hm.flatMap (fun p=>((List.range 16).filter fun q=>meets (bh (some p.2) q).ids r.aO).map (Key.cell p.1))
def Rec.wr (r:Rec):List Key:=r.fT++r.zn
def Rec.names (r:Rec):List Nat:=(r.rs.flatMap fun p=>p.2.ids)++r.la.v.ids++(r.la.cz.flatMap fun p=>p.2.ids)
def cM (a b:List Key):Bool:=a.any fun x=>b.contains x
def Rec.oM (r:Rec):Key→Bool
 | .cell l q=>(r.la.cz.any fun p=>p.1==l)||r.aO.contains l||r.hm.any fun p=>p.1==l&&meets (bh (some p.2) q).ids r.aO
 |k=>r.fT.contains k
def bV (i j:Rec):Bool:=
 (j.rs.any fun p=>i.oM p.1)||cM i.fT j.fT||(i.rs.any fun p=>j.oM p.1)||meets i.aO j.names||meets j.aO i.names
def ee (o:Oper) (j:Nat):Bool:=o.after.toList.any fun e=>Region.binds .any e&&e.on==j
def fh (l:List Oper):Nat→Oper→Nat→Bool
 |0,o,j=>ee o j
 |n+1,o,j=>ee o j||o.after.toList.any fun e=>Region.binds .any e&&decide (j<e.on)&&match l[e.on]? with|some o'=>fh l n o' j|none=>false
def bR (l:List Oper) (log:List Rec):List (Nat × Oper × Rec)→Bool
 | []=>true
 |(j,o,r)::rest=>(log.zipIdx.all fun p=>decide (j≤p.2)||fh l 4 o p.2|| !(bV p.1 r)||fh l 9 o p.2)&&(o.after.toList.all fun e=> !(Region.binds .any e)||decide (e.on<j))&&bR l log rest
def jU (l:List Oper) (log:List Rec):Bool:=log.length==l.length&&bR l log ((l.zip log).zipIdx.map fun p=>(p.2,p.1.1,p.1.2))
inductive iW:List Rec→ASt→ASt→Prop
 |nil (s):iW [] s s
 |cons {r rs s s' e} (dJ:∀p∈r.rs,aq s p.1=p.2) (hs:∀k,aq s' k=aq (r.la.app s) k) (hw:∀k,k∉r.wr→aq s' k=aq s k∧∀x∈(aq s k).ids,x∉r.aO) (h:iW rs s' e):iW (r::rs) s e
mutual
theorem AV.eo {k:List (Nat × Option D)} :∀ {a:AV},(∀x∈a.ids,kl k x=none)→a.sub k=a
 | .cK,_=>rfl
 | .nil _,_=>rfl
 | .emp _,_=>rfl
 | .d _,_=>rfl
 | .cV _,_=>rfl
 | .mref l,h=>by simp only [AV.sub,h l (by simp [AV.ids])]
 | .ref l,h=>by simp only [AV.sub,h l (by simp [AV.ids])]
 | .ptr l o,h=>by simp only [AV.sub,h l (by simp [AV.ids])]
 | .ep l sz i o,h=>by simp only [AV.sub,h l (by simp [AV.ids])]
 | .vw l sz a,h=>by simp only [AV.sub,h l (by simp [AV.ids])]
 | .agg vs,h=>by simp only [AV.sub,AV.eR (fun x hx=>h x (by simpa [AV.ids] using hx))]
 | .tup vs,h=>by simp only [AV.sub,AV.eR (fun x hx=>h x (by simpa [AV.ids] using hx))]
 | .fn f us vs,h=>by simp only [AV.sub,AV.eR (as:=us) (fun x hx=>h x (by simp [AV.ids,hx])),AV.eR (as:=vs) (fun x hx=>h x (by simp [AV.ids,hx]))]
theorem AV.eR {k:List (Nat × Option D)} :∀ {as:List AV},(∀x∈AV.idss as,kl k x=none)→AV.subs k as=as
 | [],_=>rfl
 |a::as,h=>by simp only [AV.subs,AV.eo (a:=a) (fun x hx=>h x (by simp [AV.idss,hx])),AV.eR (as:=as) (fun x hx=>h x (by simp [AV.idss,hx]))]
end
mutual
theorem AV.fA {k:List (Nat × Option D)} :∀ {a:AV} {x:Nat},x∈(a.sub k).ids→x∈a.ids
 | .cK,_,h=>h
 | .nil _,_,h=>h
 | .emp _,_,h=>h
 | .d _,_,h=>h
 | .cV _,_,h=>h
 | .mref l,x,h=>by
   simp only [AV.sub] at h
   split at h<;>first|exact h|simp [AV.ids] at h
 | .ref l,x,h=>by
   simp only [AV.sub] at h
   split at h<;>first|exact h|simp [AV.ids] at h
 | .ptr l o,x,h=>by
   simp only [AV.sub] at h
   split at h<;>first|exact h|simp [AV.ids] at h
 | .ep l sz i o,x,h=>by
   simp only [AV.sub] at h
   split at h<;>first|exact h|simp [AV.ids] at h
 | .vw l sz a,x,h=>by
   simp only [AV.sub] at h
   split at h<;>first|exact h|simp [AV.ids] at h
 | .agg vs,x,h=>by simp only [AV.sub,AV.ids] at h ⊢;exact AV.eS h
 | .tup vs,x,h=>by simp only [AV.sub,AV.ids] at h ⊢;exact AV.eS h
 | .fn f us vs,x,h=>by
   simp only [AV.sub,AV.ids,List.mem_append] at h ⊢
   exact h.imp AV.eS AV.eS
theorem AV.eS {k:List (Nat × Option D)} :∀ {as:List AV} {x:Nat},x∈AV.idss (AV.subs k as)→x∈AV.idss as
 | [],_,h=>h
 |a::as,x,h=>by
  simp only [AV.subs,AV.idss,List.mem_append] at h ⊢
  exact h.imp AV.fA AV.eS
end
theorem AObj.eo {k:List (Nat × Option D)} {o:AObj} (h:∀x∈o.ids,kl k x=none):o.sub k=o:=by
 cases o<;>first|(simp only [AObj.sub];done)|(simp only [AObj.sub];rw [AV.eR];exact h)|skip
 rename_i e rows i g
 cases g with
 |none=>rfl
 |some g=>simp only [AObj.sub,h g (by simp [AObj.ids])]
theorem AObj.fA {k:List (Nat × Option D)} {o:AObj} {x:Nat} (h:x∈(o.sub k).ids):x∈o.ids:=by
 cases o<;>first|(simp only [AObj.sub,AObj.ids] at h ⊢;first|exact AV.eS h|exact h)|skip
 rename_i e rows i g
 cases g with
 |none=>exact h
 |some g=>
  simp only [AObj.sub] at h
  split at h<;>first|exact h|simp [AObj.ids] at h
theorem fB {k:List (Nat × Option D)} :∀ {x:Nat},x∉k.map (·.1)→kl k x=none:=by
 induction k with
 |nil=>intro x _;rfl
 |cons p k ih=>
  intro x h
  obtain ⟨i,y⟩:=p
  simp only [List.map_cons,List.mem_cons,not_or] at h
  simp only [kl]
  rw [if_neg (fun e=>h.1 e.symm)]
  exact ih h.2
theorem KV.eo {k:List (Nat × Option D)} {v:KV} (h:∀x∈v.ids,x∉k.map (·.1)):v.sub k=v:=by
 cases v with
 |av a=>simp only [KV.sub,AV.eo (fun x hx=>fB (h x hx))]
 |ob o=>
  cases o with
  |none=>rfl
  |some o=>simp only [KV.sub,Option.map_some,AObj.eo (fun x hx=>fB (h x hx))]
theorem KV.fA {k:List (Nat × Option D)} {v:KV} {x:Nat} (h:x∈(v.sub k).ids):x∈v.ids:=by
 cases v with
 |av a=>exact AV.fA h
 |ob o=>cases o with
  |none=>exact h
  |some o=>exact AObj.fA h
theorem fC:∀ {m:List (Nat × AObj)} {l:Nat},l∉m.map (·.1)→look m l=none
 | [],l,_=>rfl
 |(i,o)::m,l,h=>by
  simp only [List.map_cons,List.mem_cons,not_or] at h
  simp only [look]
  rw [if_neg (fun e=>h.1 e.symm)]
  exact fC h.2
theorem dK {a b:List Nat} {x:Nat} (ha:x∈a) (hb:x∈b):meets a b=true:=by
 unfold meets;rw [List.any_eq_true];exact ⟨x,ha,by simpa using hb⟩
theorem kX {r:Rec} {k:Key} (h:k∈r.zn):∃l q,k= .cell l q∧q<16∧Key.obj l∈r.fT:=by
 simp only [Rec.zn,List.mem_append,List.mem_flatMap,List.mem_map,List.mem_range,List.mem_filter] at h
 rcases h with ⟨l,hl,q,hq,rfl⟩|⟨p,hp,q,⟨hq,_⟩,rfl⟩
 ·refine ⟨l,q,rfl,hq, ?_⟩
  simp only [Rec.fT,List.mem_append,List.mem_map]
  rcases hl with ⟨p,hp,rfl⟩|hl
  ·exact .inl (.inl (.inr ⟨p,hp,rfl⟩))
  ·obtain ⟨p,hp,rfl⟩:=List.mem_map.1 hl
   exact .inl (.inr ⟨p,hp,rfl⟩)
 ·refine ⟨p.1,q,rfl,hq, ?_⟩
  simp only [Rec.fT,List.mem_append,List.mem_map]
  exact .inr ⟨p,hp,rfl⟩
theorem iX {r:Rec} {t:Nat} (h:Key.slot t∈r.wr):Key.slot t∈r.fT:=by
 rcases List.mem_append.1 h with h|h
 ·exact h
 ·obtain ⟨l,q,e,_⟩:=kX h;cases e
theorem kY {r:Rec} {l:Nat} (h:Key.obj l∈r.wr):Key.obj l∈r.fT:=by
 rcases List.mem_append.1 h with h|h
 ·exact h
 ·obtain ⟨l',q,e,_⟩:=kX h;cases e
theorem ko {r:Rec} {l q:Nat} (h:Key.cell l q∈r.wr):Key.obj l∈r.fT:=by
 rcases List.mem_append.1 h with h|h
 ·simp only [Rec.fT,List.mem_append,List.mem_map] at h
  rcases h with (((h|⟨p,_,e⟩)|⟨p,_,e⟩)|⟨p,_,e⟩)|⟨p,_,e⟩
  ·split at h<;>simp at h
  ·cases e
  ·cases e
  ·cases e
  ·cases e
 ·obtain ⟨l',q',e,_,h2⟩:=kX h;cases e;exact h2
theorem Bt {r:Rec} {k:Key} (h:k∈r.wr):r.oM k=true:=by
 cases k with
 |slot t=>simpa [Rec.oM] using iX h
 |obj l=>simpa [Rec.oM] using kY h
 |cell l q=>
  rcases List.mem_append.1 h with h|h
  ·exfalso
   simp only [Rec.fT,List.mem_append,List.mem_map] at h
   rcases h with (((h|⟨p,_,e⟩)|⟨p,_,e⟩)|⟨p,_,e⟩)|⟨p,_,e⟩
   ·split at h<;>simp at h
   ·cases e
   ·cases e
   ·cases e
   ·cases e
  ·simp only [Rec.zn,List.mem_append,List.mem_flatMap,List.mem_map,List.mem_range,List.mem_filter] at h
   simp only [Rec.oM,Bool.or_eq_true,List.any_eq_true]
   rcases h with ⟨l',hl,q',hq,e⟩|⟨p,hp,q',⟨hq,hm⟩,e⟩
   ·cases e
    rcases hl with ⟨p,hp,rfl⟩|hl
    ·exact .inl (.inl ⟨p,hp,by simp⟩)
    ·exact .inl (.inr (by simpa using hl))
   ·cases e
    exact .inr ⟨p,hp,by simp [hm]⟩
theorem oN {a b:List Key} {x:Key} (ha:x∈a) (hb:x∈b):cM a b=true:=by
 unfold cM;rw [List.any_eq_true];exact ⟨x,ha,by simpa using hb⟩
theorem uO {i j:Rec} {k:Key} {v:KV} (h:k∈i.wr) (h2:(k,v)∈j.rs):bV i j=true:=by
 simp only [bV,Bool.or_eq_true,List.any_eq_true]
 exact .inl (.inl (.inl (.inl ⟨_,h2,Bt h⟩)))
theorem uP {i j:Rec} {k:Key} {v:KV} (h:(k,v)∈i.rs) (h2:k∈j.wr):bV i j=true:=by
 simp only [bV,Bool.or_eq_true,List.any_eq_true]
 exact .inl (.inl (.inr ⟨_,h,Bt h2⟩))
theorem uQ {i j:Rec} {k:Key} (h:k∈i.wr) (h2:k∈j.wr):bV i j=true:=by
 have:∃k,k∈i.fT∧k∈j.fT:=by
  cases k with
  |slot t=>exact ⟨_,iX h,iX h2⟩
  |obj l=>exact ⟨_,kY h,kY h2⟩
  |cell l q=>exact ⟨_,ko h,ko h2⟩
 obtain ⟨k,g1,g2⟩:=this
 simp only [bV,Bool.or_eq_true]
 exact .inl (.inl (.inl (.inr (oN g1 g2))))
theorem uR {i j:Rec} {x:Nat} (h:x∈i.aO) (h2:x∈j.names):bV i j=true:=by
 simp only [bV,Bool.or_eq_true]
 exact .inl (.inr (dK h h2))
theorem uS {i j:Rec} {x:Nat} (h:x∈j.aO) (h2:x∈i.names):bV i j=true:=by
 simp only [bV,Bool.or_eq_true]
 exact .inr (dK h h2)
theorem AV.kZ {k:List (Nat × Option D)} :∀ {as:List AV} {q:Nat},(AV.subs k as)[q]? =(as[q]?).map (AV.sub k)
 | [],q=>by simp [AV.subs]
 |a::as,0=>by simp [AV.subs]
 |a::as,q+1=>by simp [AV.subs,AV.kZ (as:=as)]
theorem qv {k:List (Nat × Option D)} {o:Option AObj} {q:Nat} :bh (o.map (AObj.sub k)) q=(bh o q).sub k:=by
 cases o with
 |none=>rfl
 |some o=>
  cases o with
  |box cells=>simp only [Option.map_some,AObj.sub,bh,AV.kZ];cases cells[q]? <;>rfl
  |rob cells=>simp only [Option.map_some,AObj.sub,bh,AV.kZ];cases cells[q]? <;>rfl
  |orh e rows i g=>
   cases g with
   |none=>rfl
   |some g'=>simp only [Option.map_some,AObj.sub];split<;>rfl
  |_=>rfl
theorem AV.oO {as:List AV} {q x:Nat} {v:AV} (h:as[q]? =some v) (hx:x∈v.ids):x∈AV.idss as:=by
 induction as generalizing q with
 |nil=>simp at h
 |cons a as ih=>
  simp only [AV.idss,List.mem_append]
  cases q with
  |zero=>simp at h;subst h;exact .inl hx
  |succ q=>exact .inr (ih (by simpa using h))
theorem k9 {o:Option AObj} {q x:Nat} (h:x∈(bh o q).ids):∃o',o=some o'∧x∈o'.ids:=by
 cases o with
 |none=>simp [bh,KV.ids] at h
 |some o=>
  refine ⟨o,rfl, ?_⟩
  unfold bh at h
  split at h
  ·rename_i cells e
   cases e
   split at h
   ·rename_i v hv;exact AV.oO hv h
   ·simp [KV.ids] at h
  ·rename_i cells e
   cases e
   split at h
   ·rename_i v hv;exact AV.oO hv h
   ·simp [KV.ids] at h
  ·simp [KV.ids] at h
theorem lg {r:Rec} {s:ASt} {k:Key} (h:k∉r.wr):aq (r.la.app s) k=(aq s k).sub r.la.kill:=by
 have hm:(r.la.app s).m=putM r.la.cz (s.kill r.la.kill).m:=by unfold LA.app ASt.put;split<;>rfl
 have hw:=h
 have h:k∉r.fT:=fun h'=>h (List.mem_append.2 (.inl h'))
 simp only [Rec.fT,List.mem_append,List.mem_map,not_or,not_exists,not_and] at h
 obtain ⟨⟨⟨⟨h1,_⟩,h3⟩,h4⟩,_⟩:=h
 cases k with
 |cell l q=>
  simp only [aq]
  by_cases hq:q<16
  ·rw [if_pos hq,if_pos hq]
   have hnot:l∉r.la.cz.map (·.1)∧l∉r.la.kill.map (·.1):=by
    constructor
    ·intro hl
     refine hw (List.mem_append.2 (.inr ?_))
     simp only [Rec.zn,List.mem_append,List.mem_flatMap,List.mem_map,List.mem_range]
     exact .inl ⟨l, .inl (by simpa using hl),q,hq,rfl⟩
    ·intro hl
     refine hw (List.mem_append.2 (.inr ?_))
     simp only [Rec.zn,List.mem_append,List.mem_flatMap,List.mem_map,List.mem_range]
     exact .inl ⟨l, .inr hl,q,hq,rfl⟩
   rw [hm,bF,fC hnot.1,b8,fB hnot.2]
   simp only [if_true]
   exact qv
  ·rw [if_neg hq,if_neg hq];rfl
 |slot t=>
  simp only [aq,KV.sub]
  congr 1
  unfold LA.app ASt.put
  split
  ·rename_i d hd
   simp only [hd,List.mem_singleton,Key.slot.injEq] at h1
   simp only [get]
   rw [if_neg (fun e=>h1 e.symm),bY]
  ·exact bY _ _ _
 |obj l=>
  simp only [aq,KV.sub]
  congr 1
  rw [hm,bF,fC (fun hm=>by obtain ⟨p,hp,iK⟩:=List.mem_map.1 hm;exact h3 p hp (by rw [iK])),b8,fB (fun hm=>by obtain ⟨p,hp,iK⟩:=List.mem_map.1 hm;exact h4 p hp (by rw [iK]))]
  simp
theorem fD {r:Rec} {s s':ASt} (h:∀p∈r.rs,aq s p.1=p.2) (h':∀p∈r.rs,aq s' p.1=p.2) {k:Key} (hk:k∈r.fT):aq (r.la.app s) k=aq (r.la.app s') k:=by
 have hm:∀s:ASt,(r.la.app s).m=putM r.la.cz (s.kill r.la.kill).m:=fun s=>by unfold LA.app ASt.put;split<;>rfl
 have same:∀p∈r.rs,aq s p.1=aq s' p.1:=fun p hp=>(h p hp).trans (h' p hp).symm
 cases k with
 |cell l q=>
  exfalso
  simp only [Rec.fT,List.mem_append,List.mem_map] at hk
  rcases hk with (((hk|⟨p,_,e⟩)|⟨p,_,e⟩)|⟨p,_,e⟩)|⟨p,_,e⟩
  ·split at hk<;>simp at hk
  ·cases e
  ·cases e
  ·cases e
  ·cases e
 |slot t=>
  simp only [aq]
  congr 1
  by_cases hd:r.la.dst=some t
  ·unfold LA.app ASt.put
   simp [hd,get]
  ·have hin:∃v,(Key.slot t,KV.av v)∈r.rs:=by
    simp only [Rec.fT,List.mem_append,List.mem_map] at hk
    rcases hk with (((hk|⟨p,hp,hpt⟩)|⟨p,hp,hpt⟩)|⟨p,hp,hpt⟩)|⟨p,hp,hpt⟩
    ·split at hk
     ·rename_i d hd'
      simp only [List.mem_singleton,Key.slot.injEq] at hk
      subst hk;exact absurd hd' hd
     ·simp at hk
    ·simp only [Key.slot.injEq] at hpt
     refine ⟨p.2, ?_⟩
     simp only [Rec.rs,List.mem_append,List.mem_map]
     exact .inl (.inl ⟨p, .inr hp,by rw [hpt]⟩)
    ·cases hpt
    ·cases hpt
    ·cases hpt
   obtain ⟨v,hv⟩:=hin
   have hsame:=same _ hv
   simp only [aq,KV.av.injEq] at hsame
   unfold LA.app ASt.put
   cases hq:r.la.dst with
   |none=>simp only [bY,hsame]
   |some d=>
    have hdt:d≠t:=fun e=>hd (by rw [hq,e])
    simp only [get,hdt,if_false,bY,hsame]
 |obj l=>
  simp only [aq]
  congr 1
  rw [hm,hm,bF,bF]
  cases hu:look r.la.cz l with
  |some o=>rfl
  |none=>
   simp only [b8]
   by_cases bp:kl r.la.kill l=none
   ·simp only [bp,if_true]
    have hin:∃v,(Key.obj l,v)∈r.rs:=by
     simp only [Rec.fT,List.mem_append,List.mem_map] at hk
     rcases hk with (((hk|⟨p,hp,hpt⟩)|⟨p,hp,hpt⟩)|⟨p,hp,hpt⟩)|⟨p,hp,hpt⟩
     ·split at hk
      ·simp at hk
      ·simp at hk
     ·cases hpt
     ·exfalso
      simp only [Key.obj.injEq] at hpt
      have:∀(m:List (Nat × AObj)),p∈m→look m p.1≠none:=by
       intro m
       induction m with
       |nil=>intro h;cases h
       |cons q m ih=>
        intro h
        obtain ⟨i,o⟩:=q
        simp only [look]
        rcases List.mem_cons.1 h with rfl|h
        ·simp
        ·split
         ·simp
         ·exact ih h
      exact this _ hp (by rw [hpt];exact hu)
     ·exfalso
      simp only [Key.obj.injEq] at hpt
      have:∀(m:List (Nat × Option D)),p∈m→kl m p.1≠none:=by
       intro m
       induction m with
       |nil=>intro h;cases h
       |cons q m ih=>
        intro h
        obtain ⟨i,o⟩:=q
        simp only [kl]
        rcases List.mem_cons.1 h with rfl|h
        ·simp
        ·split
         ·simp
         ·exact ih h
      exact this _ hp (by rw [hpt];exact bp)
     ·simp only [Key.obj.injEq] at hpt
      refine ⟨.ob (some p.2), ?_⟩
      simp only [Rec.rs,List.mem_append,List.mem_map]
      exact .inl (.inr ⟨p, .inr hp,by rw [hpt]⟩)
    obtain ⟨v,hv⟩:=hin
    have hsame:=same _ hv
    simp only [aq,KV.ob.injEq] at hsame
    rw [hsame]
   ·simp only [bp,if_false]
theorem oR {r:Rec} {s s':ASt} (h:∀p∈r.rs,aq s p.1=p.2) (h':∀p∈r.rs,aq s' p.1=p.2) {k:Key} (hk:k∈r.wr):aq (r.la.app s) k=aq (r.la.app s') k:=by
 cases k with
 |slot t=>exact fD h h' (iX hk)
 |obj l=>exact fD h h' (kY hk)
 |cell l q=>
  have:=fD h h' (ko hk)
  simp only [aq,KV.ob.injEq] at this ⊢
  rw [this]
end Go.Ab
end
section
namespace Go.Ab
theorem iY {l:List Oper} {log:List Rec} :∀ {q:List (Nat × Oper × Rec)},bR l log q=true→∀t∈q,
 (∀i r,log[i]? =some r→i<t.1→bV r t.2.2=true→∃n,fh l n t.2.1 i=true)∧∀e∈t.2.1.after.toList,Region.binds .any e=true→e.on<t.1
 | [],_,t,ht=>by cases ht
 |(j,o,r)::rest,h,t,ht=>by
  simp only [bR,Bool.and_eq_true] at h
  obtain ⟨⟨h1,h2⟩,h3⟩:=h
  rcases List.mem_cons.1 ht with rfl|ht
  ·refine ⟨fun i q hq hi hc=> ?_,fun e he hb=> ?_⟩
   ·rw [List.all_eq_true] at h1
    have:=h1 (q,i) (by
     rw [List.mem_iff_getElem?]
     exact ⟨i,by simp [List.getElem?_zipIdx,hq]⟩)
    simp only [Bool.or_eq_true,decide_eq_true_eq,Bool.not_eq_true'] at this
    rcases this with ((h|h)|h)|h
    ·simp only at hi;omega
    ·exact ⟨4,h⟩
    ·rw [hc] at h;cases h
    ·exact ⟨9,h⟩
   ·rw [List.all_eq_true] at h2
    have:=h2 e he
    simp only [hb,Bool.not_true,Bool.false_or,decide_eq_true_eq] at this
    exact this
  ·exact iY h3 t ht
theorem oS {l:List Oper} {log:List Rec} (h:jU l log=true):log.length=l.length∧
 (∀(i j:Nat) ri rj o,log[i]? =some ri→log[j]? =some rj→l[j]? =some o→i<j→bV ri rj=true→∃n,fh l n o i=true)∧
 ∀(j:Nat) o,l[j]? =some o→∀e∈o.after.toList,Region.binds .any e=true→e.on<j:=by
 simp only [jU,Bool.and_eq_true,beq_iff_eq] at h
 obtain ⟨h1,h2⟩:=h
 have hs:=iY h2
 have mem:∀(j:Nat) o r,l[j]? =some o→log[j]? =some r→(j,o,r)∈((l.zip log).zipIdx.map fun p=>(p.2,p.1.1,p.1.2)):=by
  intro j o r ho hr
  rw [List.mem_map]
  refine ⟨((o,r),j), ?_,rfl⟩
  rw [List.mem_iff_getElem?]
  exact ⟨j,by simp [List.getElem?_zipIdx,List.getElem?_zip_eq_some,ho,hr]⟩
 refine ⟨h1,fun i j ri rj o hi hj ho hij hc=>(hs _ (mem j o rj ho hj)).1 i ri hi hij hc,fun j o ho e he hb=> ?_⟩
 have hjl:j<log.length:=by rw [h1];exact (List.getElem?_eq_some_iff.1 ho).1
 exact (hs _ (mem j o log[j] ho (List.getElem?_eq_getElem hjl))).2 e he hb
theorem iW.states:∀ {log:List Rec} {s e:ASt},iW log s e→∃st:Nat→ASt,st 0=s∧st log.length=e∧∀i r,log[i]? =some r→
 (∀p∈r.rs,aq (st i) p.1=p.2)∧(∀k,aq (st (i+1)) k=aq (r.la.app (st i)) k)∧∀k,k∉r.wr→aq (st (i+1)) k=aq (st i) k∧∀x∈(aq (st i) k).ids,x∉r.aO
 | [],s,e,h=>by cases h;exact ⟨fun _=>s,rfl,rfl,fun i r h=>by simp at h⟩
 |r::log,s,e,h=>by
  cases h with
  |cons dJ hs hw h=>
   rename_i s'
   obtain ⟨st,h0,h1,h2⟩:=h.states
   refine ⟨fun i=>match i with|0=>s|i+1=>st i,rfl,h1,fun i q hq=> ?_⟩
   cases i with
   |zero=>
    simp only [List.getElem?_cons_zero,Option.some.injEq] at hq
    subst hq
    simp only [h0]
    exact ⟨dJ,hs,hw⟩
   |succ i=>exact h2 i q (by simpa using hq)
theorem nj {r:Rec} {s:ASt} (h:∀p∈r.rs,aq s p.1=p.2) {k:Key} (hk:k∈r.fT) {x:Nat} (hx:x∈(aq (r.la.app s) k).ids):x∈r.names:=by
 have Bu:∀p∈r.rs,∀x∈p.2.ids,x∈r.names:=by
  intro p hp x hx
  simp only [Rec.names,List.mem_append,List.mem_flatMap]
  exact .inl (.inl ⟨p,hp,hx⟩)
 cases k with
 |cell l q=>
  exfalso
  simp only [Rec.fT,List.mem_append,List.mem_map] at hk
  rcases hk with (((hk|⟨p,_,e⟩)|⟨p,_,e⟩)|⟨p,_,e⟩)|⟨p,_,e⟩
  ·split at hk<;>simp at hk
  ·cases e
  ·cases e
  ·cases e
  ·cases e
 |slot t=>
  by_cases hd:r.la.dst=some t
  ·have:aq (r.la.app s) (.slot t)= .av r.la.v:=by
    simp only [aq]
    unfold LA.app ASt.put
    simp [hd,get]
   rw [this] at hx
   simp only [Rec.names,List.mem_append]
   exact .inl (.inr hx)
  ·have hin:∃v,(Key.slot t,KV.av v)∈r.rs:=by
    simp only [Rec.fT,List.mem_append,List.mem_map] at hk
    rcases hk with (((hk|⟨p,hp,hpt⟩)|⟨p,hp,hpt⟩)|⟨p,hp,hpt⟩)|⟨p,hp,hpt⟩
    ·split at hk
     ·rename_i d hd'
      simp only [List.mem_singleton,Key.slot.injEq] at hk
      subst hk;exact absurd hd' hd
     ·simp at hk
    ·simp only [Key.slot.injEq] at hpt
     refine ⟨p.2, ?_⟩
     simp only [Rec.rs,List.mem_append,List.mem_map]
     exact .inl (.inl ⟨p, .inr hp,by rw [hpt]⟩)
    ·cases hpt
    ·cases hpt
    ·cases hpt
   obtain ⟨v,hv⟩:=hin
   refine Bu _ hv x ?_
   have hsame:=h _ hv
   simp only [aq,KV.av.injEq] at hsame
   have:aq (r.la.app s) (.slot t)= .av ((get s.t t).sub r.la.kill):=by
    simp only [aq]
    unfold LA.app ASt.put
    cases hq:r.la.dst with
    |none=>simp only [bY]
    |some d=>
     have hdt:d≠t:=fun e=>hd (by rw [hq,e])
     simp only [get,hdt,if_false,bY]
   rw [this,hsame] at hx
   exact AV.fA hx
 |obj l=>
  have hm:(r.la.app s).m=putM r.la.cz (s.kill r.la.kill).m:=by unfold LA.app ASt.put;split<;>rfl
  have hval:aq (r.la.app s) (.obj l)= .ob (match look r.la.cz l with|some o=>some o|none=>if kl r.la.kill l=none then (look s.m l).map (AObj.sub r.la.kill) else none):=by
   simp only [aq];rw [hm,bF,b8];cases look r.la.cz l<;>rfl
  rw [hval] at hx
  cases hu:look r.la.cz l with
  |some o=>
   simp only [hu,KV.ids] at hx
   simp only [Rec.names,List.mem_append,List.mem_flatMap]
   exact .inr ⟨(l,o),aH hu,hx⟩
  |none=>
   by_cases bp:kl r.la.kill l=none
   ·simp only [hu,bp,if_true] at hx
    have hin:∃o,(Key.obj l,KV.ob (some o))∈r.rs:=by
     simp only [Rec.fT,List.mem_append,List.mem_map] at hk
     rcases hk with (((hk|⟨p,hp,hpt⟩)|⟨p,hp,hpt⟩)|⟨p,hp,hpt⟩)|⟨p,hp,hpt⟩
     ·split at hk<;>simp at hk
     ·cases hpt
     ·exfalso
      simp only [Key.obj.injEq] at hpt
      subst hpt
      have:∀(m:List (Nat × AObj)),p∈m→look m p.1≠none:=by
       intro m
       induction m with
       |nil=>intro h;cases h
       |cons q m ih=>
        intro h
        obtain ⟨i,o⟩:=q
        simp only [look]
        rcases List.mem_cons.1 h with rfl|h
        ·simp
        ·split
         ·simp
         ·exact ih h
      exact this _ hp hu
     ·exfalso
      simp only [Key.obj.injEq] at hpt
      subst hpt
      have:∀(m:List (Nat × Option D)),p∈m→kl m p.1≠none:=by
       intro m
       induction m with
       |nil=>intro h;cases h
       |cons q m ih=>
        intro h
        obtain ⟨i,o⟩:=q
        simp only [kl]
        rcases List.mem_cons.1 h with rfl|h
        ·simp
        ·split
         ·simp
         ·exact ih h
      exact this _ hp bp
     ·simp only [Key.obj.injEq] at hpt
      refine ⟨p.2, ?_⟩
      simp only [Rec.rs,List.mem_append,List.mem_map]
      exact .inl (.inr ⟨p, .inr hp,by rw [hpt]⟩)
    obtain ⟨o,ho⟩:=hin
    have hsame:=h _ ho
    simp only [aq,KV.ob.injEq] at hsame
    simp only [hsame,Option.map_some,KV.ids] at hx
    exact Bu _ ho x (AObj.fA hx)
   ·simp [hu,bp,KV.ids] at hx
theorem zo {r:Rec} {s:ASt} (h:∀p∈r.rs,aq s p.1=p.2) {k:Key} (hk:k∈r.wr) {x:Nat} (hx:x∈(aq (r.la.app s) k).ids):x∈r.names:=by
 cases k with
 |slot t=>exact nj h (iX hk) hx
 |obj l=>exact nj h (kY hk) hx
 |cell l q=>
  refine nj h (ko hk) ?_
  simp only [aq] at hx ⊢
  split at hx
  ·obtain ⟨o,ho,zq⟩:=k9 hx
   rw [ho];exact zq
  ·simp [KV.ids] at hx
section
variable {l:List Oper} {log:List Rec} {st:Nat→ASt}
def Inv (log:List Rec) (st:Nat→ASt) (done:Nat→Prop) (s:ASt):Prop:=∀k,k≤log.length→¬done k→∀(key:Key) (v:KV),
 ((∃r,log[k]? =some r∧(key,v)∈r.rs)∨(k=log.length∧v=aq (st k) key))→(∀j,j<k→¬done j→∀r,log[j]? =some r→key∉r.wr)→aq s key=v
theorem uT {l:List Oper} {n:Nat} {o:Oper} {j:Nat} (h:ee o j=true):fh l n o j=true:=by
 cases n<;>simp [fh,h]
theorem lp {l:List Oper} {done:Nat→Prop} (hD:∀i j o,done j→l[j]? =some o→ee o i=true→done i):∀ {n:Nat} {o:Oper} {j:Nat},fh l n o j=true→(∀k,ee o k=true→done k)→done j
 |0,o,j,h,hr=>hr j h
 |n+1,o,j,h,hr=>by
  simp only [fh,Bool.or_eq_true] at h
  rcases h with h|h
  ·exact hr j h
  ·obtain ⟨e,he,h⟩:=List.any_eq_true.1 h
   simp only [Bool.and_eq_true] at h
   obtain ⟨⟨hb,_⟩,h⟩:=h
   have hd:done e.on:=hr e.on (by unfold ee;rw [List.any_eq_true];exact ⟨e,he,by simp [hb]⟩)
   cases ho:l[e.on]? with
   |none=>rw [ho] at h;cases h
   |some o'=>rw [ho] at h;exact lp hD h fun k hk=>hD k _ _ hd ho hk
theorem iZ (xL:jU l log=true)
 (hst:∀i r,log[i]? =some r→(∀p∈r.rs,aq (st i) p.1=p.2)∧(∀k,aq (st (i+1)) k=aq (r.la.app (st i)) k)∧∀k,k∉r.wr→aq (st (i+1)) k=aq (st i) k∧∀x∈(aq (st i) k).ids,x∉r.aO)
 {done:Nat→Prop} {s:ASt} (hinv:Inv log st done s) (hD:∀i j o,done j→l[j]? =some o→ee o i=true→done i) {i:Nat} {r:Rec} {o:Oper} (hi:log[i]? =some r) (ho:l[i]? =some o) (bG:¬done i)
 (gq:∀j,ee o j=true→done j):(∀p∈r.rs,aq s p.1=p.2)∧Inv log st (fun k=>done k∨k=i) (r.la.app s):=by
 obtain ⟨hlen,fV,_⟩:=oS xL
 have hD:∀i j o,done j→l[j]? =some o→(∃n,fh l n o i=true)→done i:=fun i j o hj ho ⟨_,hp⟩=>lp hD hp fun k hk=>hD k j o hj ho hk
 have gq:∀j,(∃n,fh l n o j=true)→done j:=fun j ⟨_,hp⟩=>lp (fun i j o h1 h2 h3=>hD i j o h1 h2 ⟨4,uT h3⟩) hp gq
 have hil:i<log.length:=(List.getElem?_eq_some_iff.1 hi).1
 have oper:∀j,j<log.length→∃o,l[j]? =some o:=fun j hj=>⟨l[j]'(by omega),List.getElem?_eq_getElem (by omega)⟩
 have dJ:∀p∈r.rs,aq s p.1=p.2:=by
  intro p hp
  refine hinv i (Nat.le_of_lt hil) bG p.1 p.2 (.inl ⟨r,hi,hp⟩) (fun j hj zu rj lU hw=>zu (gq j (fV j i rj r o lU hi ho hj (uO hw hp))))
 refine ⟨dJ, ?_⟩
 intro k hk Bv key v jX hC
 have uU:¬done k:=fun h=>Bv (.inl h)
 have hki:k≠i:=fun h=>Bv (.inr h)
 have yF:v=aq (st k) key:=by
  rcases jX with ⟨rk,Bw,hin⟩|⟨_,hv⟩
  ·exact ((hst k rk Bw).1 _ hin).symm
  ·exact hv
 have oT:∀j,i<j→j<k→∀rj,log[j]? =some rj→key∈rj.wr→bV r rj=true→False:=by
  intro j hij hjk rj lU hw hc
  obtain ⟨oj,FT⟩:=oper j (by omega)
  have Bx:=fV i j r rj oj hi lU FT hij hc
  by_cases hdj:done j
  ·exact bG (hD i j oj hdj FT Bx)
  ·exact hC j hjk (fun h=>by rcases h with h|h;exact hdj h;omega) rj lU hw
 by_cases hwi:key∈r.wr
 ·
  rcases Nat.lt_or_ge k i with hlt|hge
  ·exfalso
   rcases jX with ⟨rk,Bw,hin⟩|⟨hkn,_⟩
   ·exact uU (gq k (fV k i rk r o Bw hi ho hlt (uP hin hwi)))
   ·omega
  ·have hik:i<k:=by omega
   rw [oR dJ (hst i r hi).1 hwi, ← (hst i r hi).2.1 key,yF]
   have:∀d,i+1+d≤k→aq (st (i+1+d)) key=aq (st (i+1)) key:=by
    intro d
    induction d with
    |zero=>intro _;rfl
    |succ d ih=>
     intro hd
     rw [← ih (by omega)]
     have hjl:i+1+d<log.length:=by omega
     have lU:log[i+1+d]? =some log[i+1+d]:=List.getElem?_eq_getElem hjl
     have He:key∉log[i+1+d].wr:=fun hw=>oT (i+1+d) (by omega) (by omega) _ lU hw (uQ hwi hw)
     exact ((hst _ _ lU).2.2 key He).1
   have:=this (k - (i+1)) (by omega)
   rw [show i+1+(k - (i+1))=k from by omega] at this
   exact this.symm
 ·rw [lg hwi]
  have By:aq s key=v:=hinv k hk uU key v jX (fun j hj zu rj lU=>by
   by_cases hji:j=i
   ·subst hji;rw [hi] at lU;cases lU;exact hwi
   ·exact hC j hj (fun h=>by rcases h with h|h;exact zu h;exact hji h) rj lU)
  rw [By]
  refine KV.eo fun x hx hkx=> ?_
  rcases Nat.lt_or_ge k i with hlt|hge
  ·rcases jX with ⟨rk,Bw,hin⟩|⟨hkn,_⟩
   ·refine uU (gq k (fV k i rk r o Bw hi ho hlt (uS hkx ?_)))
    simp only [Rec.names,List.mem_append,List.mem_flatMap]
    exact .inl (.inl ⟨_,hin,hx⟩)
   ·omega
  ·have hik:i<k:=by omega
   have:∀d,i+1+d≤k→∀x∈(aq (st (i+1+d)) key).ids,x∉r.aO:=by
    intro d
    induction d with
    |zero=>
     intro _ x hx
     rw [Nat.add_zero,((hst i r hi).2.2 key hwi).1] at hx
     exact ((hst i r hi).2.2 key hwi).2 x hx
    |succ d ih=>
     intro hd x hx
     have hjl:i+1+d<log.length:=by omega
     have lU:log[i+1+d]? =some log[i+1+d]:=List.getElem?_eq_getElem hjl
     by_cases hw:key∈log[i+1+d].wr
     ·intro hkx
      rw [show i+1+(d+1)=i+1+d+1 from by omega,(hst _ _ lU).2.1 key] at hx
      have hn:=zo (hst _ _ lU).1 hw hx
      exact oT (i+1+d) (by omega) (by omega) _ lU hw (uR hkx hn)
     ·rw [show i+1+(d+1)=i+1+d+1 from by omega,((hst _ _ lU).2.2 key hw).1] at hx
      exact ih (by omega) x hx
   have:=this (k - (i+1)) (by omega)
   rw [show i+1+(k - (i+1))=k from by omega, ← yF] at this
   exact this x hx hkx
end
end Go.Ab
end
