/- A part of the proof. -/
import Derived.RangeFuncLeaves
import Derived.RangeFuncRecord
import Derived.Below
import Derived.Test.YtameldglfobjkaaL5P6
set_option linter.unusedSimpArgs false
set_option linter.unusedVariables false
section
namespace Go.Ab
mutual
def AV.ren (π:Nat→Nat):AV→AV
 | .ref l=> .ref (π l)
 | .ptr l o=> .ptr (π l) o
 | .ep l sz i o=> .ep (π l) sz i o
 | .vw l sz a=> .vw (π l) sz a
 | .agg vs=> .agg (AV.rens π vs)
 | .tup vs=> .tup (AV.rens π vs)
 | .fn f us vs=> .fn f (AV.rens π us) (AV.rens π vs)
 | .cB=> .cB
 | .nil e=> .nil e
 | .d x=> .d x
 | .cM p=> .cM p
 | .mref l=> .mref (π l)
 | .emp e=> .emp e
def AV.rens (π:Nat→Nat):List AV→List AV
 | []=> []
 |a::as=>AV.ren π a::AV.rens π as
end
def AObj.ren (π:Nat→Nat):AObj→AObj
 | .box cells=> .box (AV.rens π cells)
 | .rob cells=> .rob (AV.rens π cells)
 | .own e sz rows=> .own e sz rows
 | .tip e sz rows=> .tip e sz rows
 | .mp n aa=> .mp n aa
 | .part e sz rows=> .part e sz rows
 | .nest e' e sz rows h=> .nest e' e sz rows h
 | .nils e' e sz n=> .nils e' e sz n
 | .orh e rows i g=> .orh e rows i (g.map π)
def Env.pre (E:Env) (π:Nat→Nat):Env:=⟨fun l=>E.ρ (π l),fun l=>E.σ (π l),E.z⟩
mutual
theorem jB {w:World} {E:Env} {π:Nat→Nat} :∀ {a:AV} {v:Value},aN w (E.pre π) a v↔aN w E (a.ren π) v
 | .cB,_=>Iff.rfl
 | .nil _,_=>Iff.rfl
 | .emp _,_=>Iff.rfl
 | .d _,_=>Iff.rfl
 | .cM _,_=>Iff.rfl
 | .mref _,_=>Iff.rfl
 | .ref _,_=>Iff.rfl
 | .ptr _ _,_=>Iff.rfl
 | .ep _ _ _ _,_=>Iff.rfl
 | .vw _ _ _,_=>Iff.rfl
 | .agg vs,v=>⟨fun ⟨us,h1,h2⟩=>⟨us,h1,aT.1 h2⟩,fun ⟨us,h1,h2⟩=>⟨us,h1,aT.2 h2⟩⟩
 | .tup vs,v=>⟨fun ⟨us,h1,h2⟩=>⟨us,h1,aT.1 h2⟩,fun ⟨us,h1,h2⟩=>⟨us,h1,aT.2 h2⟩⟩
 | .fn f as bs,v=>⟨fun ⟨us,vs,h1,h2,h3⟩=>⟨us,vs,h1,aT.1 h2,aT.1 h3⟩,fun ⟨us,vs,h1,h2,h3⟩=>⟨us,vs,h1,aT.2 h2,aT.2 h3⟩⟩
theorem aT {w:World} {E:Env} {π:Nat→Nat} :∀ {as:List AV} {us:List Value},AVrs w (E.pre π) as us↔AVrs w E (AV.rens π as) us
 | [],_=>Iff.rfl
 |a::as,us=>⟨fun ⟨u,us',h1,h2,h3⟩=>⟨u,us',h1,jB.1 h2,aT.1 h3⟩,fun ⟨u,us',h1,h2,h3⟩=>⟨u,us',h1,jB.2 h2,aT.2 h3⟩⟩
end
theorem ic {w:World} {E:Env} {π:Nat→Nat} {l:Nat} {o:AObj} (hn:o.isNest=false):az w (E.pre π) l o↔az w E (π l) (o.ren π):=by
 cases o with
 |box cells=>exact ⟨fun ⟨b,vs,e,h1,h2,h3,h4,h5⟩=>⟨b,vs,e,h1,h2,h3,aT.1 h4,h5⟩,fun ⟨b,vs,e,h1,h2,h3,h4,h5⟩=>⟨b,vs,e,h1,h2,h3,aT.2 h4,h5⟩⟩
 |rob cells=>exact ⟨fun ⟨b,vs,e,h1,h2,h3,h4,h5⟩=>⟨b,vs,e,h1,h2,h3,aT.1 h4,h5⟩,fun ⟨b,vs,e,h1,h2,h3,h4,h5⟩=>⟨b,vs,e,h1,h2,h3,aT.2 h4,h5⟩⟩
 |own e sz rows=>exact Iff.rfl
 |tip e sz rows=>exact Iff.rfl
 |mp n aa=>exact Iff.rfl
 |part e sz rows=>exact Iff.rfl
 |nils e' e sz n=>exact Iff.rfl
 |orh e rows i g=>
  cases g with
  |none=>exact ⟨fun ⟨k1,k2,b,cur,cap,h1,h2,h3,h4,h5,h6,h7,h8,_⟩=>⟨k1,k2,b,cur,cap,h1,h2,h3,h4,h5,h6,h7,h8,fun _ e=>by cases e⟩,fun ⟨k1,k2,b,cur,cap,h1,h2,h3,h4,h5,h6,h7,h8,_⟩=>⟨k1,k2,b,cur,cap,h1,h2,h3,h4,h5,h6,h7,h8,fun _ e=>by cases e⟩⟩
  |some g=>exact ⟨fun ⟨k1,k2,b,cur,cap,h1,h2,h3,h4,h5,h6,h7,h8,h9⟩=>⟨k1,k2,b,cur,cap,h1,h2,h3,h4,h5,h6,h7,h8,fun _ e=>by cases e;exact h9 g rfl⟩,fun ⟨k1,k2,b,cur,cap,h1,h2,h3,h4,h5,h6,h7,h8,h9⟩=>⟨k1,k2,b,cur,cap,h1,h2,h3,h4,h5,h6,h7,h8,fun _ e=>by cases e;exact h9 (π g) rfl⟩⟩
 |nest e' e sz rows h=>simp [AObj.isNest] at hn
theorem AObj.tr (π:Nat→Nat) (o:AObj):(o.ren π).ro=o.ro:=by cases o<;>rfl
theorem az.congr {w:World} {E E':Env} {live:Nat→Prop} (hz:E'.z=E.z) (hρ:∀l,live l→E'.ρ l=E.ρ l) (hσ:∀l,live l→E'.σ l=E.σ l) {l:Nat} {o:AObj} (hn:o.isNest=false) (hl:live l) (hi:∀k∈o.ids,live k) (h:az w E l o):az w E' l o:=by
 have hk:jI w E w E' live:=⟨by rw [hz];exact aj.refl _ _,hρ,hσ⟩
 cases o with
 |box cells=>
  obtain ⟨b,vs,e,h1,h2,h3,h4,h5⟩:=h
  exact ⟨b,vs,e,by rw [hρ l hl];exact h1,h2,by rw [hz];exact h3,AVrs.mono hk hi h4,h5⟩
 |rob cells=>
  obtain ⟨b,vs,e,h1,h2,h3,h4,h5⟩:=h
  exact ⟨b,vs,e,by rw [hρ l hl];exact h1,h2,by rw [hz];exact h3,AVrs.mono hk hi h4,h5⟩
 |own e sz rows=>simp only [az] at h ⊢;rw [hρ l hl,hσ l hl,hz];exact h
 |tip e sz rows=>simp only [az] at h ⊢;rw [hρ l hl,hσ l hl,hz];exact h
 |mp n aa=>simp only [az] at h ⊢;rw [hρ l hl,hz];exact h
 |part e sz rows=>simp only [az] at h ⊢;rw [hρ l hl,hσ l hl,hz];exact h
 |nils e' e sz n=>simp only [az] at h ⊢;rw [hρ l hl,hσ l hl,hz];exact h
 |orh e rows i g=>
  obtain ⟨k1,k2,b,cur,cap,h1,h2,h3,h4,h5,h6,h7,h8,h9⟩:=h
  refine ⟨k1,k2,b,cur,cap,by rw [hρ l hl];exact h1,h2,by rw [hσ l hl];exact h3,h4,h5,h6,by rw [hz];exact h7,by rw [hz];exact h8,fun g' e=> ?_⟩
  subst e
  rw [hσ g' (hi g' (by simp [AObj.ids]))]
  exact h9 g' rfl
 |nest e' e sz rows h=>simp [AObj.isNest] at hn
theorem AObj.jZ (π:Nat→Nat) (o:AObj):(o.ren π).isNest=o.isNest:=by cases o<;>rfl
mutual
theorem AV.e9:∀a:AV,a.ren id=a
 | .cB=>rfl
 | .nil _=>rfl
 | .emp _=>rfl
 | .d _=>rfl
 | .ref _=>rfl
 | .ptr _ _=>rfl
 | .ep _ _ _ _=>rfl
 | .vw _ _ _=>rfl
 | .cM _=>rfl
 | .mref _=>rfl
 | .agg vs=>by simp only [AV.ren,AV.gp vs]
 | .tup vs=>by simp only [AV.ren,AV.gp vs]
 | .fn f us vs=>by simp only [AV.ren,AV.gp us,AV.gp vs]
theorem AV.gp:∀as:List AV,AV.rens id as=as
 | []=>rfl
 |a::as=>by simp only [AV.rens,AV.e9 a,AV.gp as]
end
theorem AObj.e9 (o:AObj):o.ren id=o:=by cases o<;>simp [AObj.ren,AV.gp]
def asN:List (Nat × Nat)→Nat→Nat
 | [],l=>l
 |(i,j)::r,l=>if i=l then j else asN r l
def renA (rn:List (Nat × Nat)) (a:AV):AV:=match rn with| []=>a|_=>a.ren (asN rn)
def renO (rn:List (Nat × Nat)) (o:AObj):AObj:=match rn with| []=>o|_=>o.ren (asN rn)
theorem qx:asN []=id:=rfl
theorem vK (rn:List (Nat × Nat)) (a:AV):renA rn a=a.ren (asN rn):=by
 cases rn with
 |nil=>rw [qx,AV.e9];rfl
 |cons=>rfl
theorem vM (rn:List (Nat × Nat)) (o:AObj):renO rn o=o.ren (asN rn):=by
 cases rn with
 |nil=>rw [qx,AObj.e9];rfl
 |cons=>rfl
def vN (P:Program) (f:Nat):Prop:=∃fn c,P.funcs[f]? =some fn∧(fn.name== "runtime.NumGoroutine")=false∧fn.body=some c
def Post (m:List (Nat × AObj)) (E:Env) (w:World) (res:AV) (m':List (Nat × AObj)):Ending→World→Prop:=fun e w'=>∃v E',e= .returned v∧wV m E w E' w'∧Good m' E' w'∧
 (∀l o b,aD m' l=some o→o.ro=false→E'.ρ l=some b→w.heap.size≤b∨sK m E b)∧aN w' E' res v
structure Spec (P:Program) (f:Nat) (A:Env→World→List Value→Prop) (m:List (Nat × AObj)) (res:AV) (m':List (Nat × AObj)):Prop where
 can:vN P f
 calls:∀E w vals,Good m E w→A E w vals→Calls P f vals.toArray w (Post m E w res m')
def Args (as:List AV):Env→World→List Value→Prop:=fun E w vals=>AVrs w E as vals
def cvtD (s:ASt) (a:AV) (x:D):Prop:=
 match a with
 | .ref l=>match look s.m l with|some (.tip _ sz rows)=>x= .sl sz rows|_=>False
 | .nil _=>match x with| .sl _ rows=>rows= []|_=>False
 | .emp _=>match x with| .sl _ rows=>rows= []|_=>False
 | .d y=>y=x
 |_=>False
def allSome:List (Option D)→Option (List D)
 | []=>some []
 |some x::r=>match allSome r with|some xs=>some (x::xs)|none=>none
 |none::_=>none
def rdX (C:Cfg) (bad:Nat→Bool) (dB:Bool) (m:List (Nat × AObj)):Nat→AV→Option D
 |_, .d x=>some x
 |_, .nil e=>some (.sl (C.sz e) [])
 |_, .emp e=>some (.sl (C.sz e) [])
 |_, .ref l=>match look m l with
  |some (.tip _ sz rows)=>some (.sl sz rows)
  |some (.own _ sz rows)=>if bad l=true then none else some (.sl sz rows)
  |some (.part _ sz rows)=>if bad l=true then none else some (.sl sz rows)
  |some (.nest _ _ sz rows none)=>if bad l=true then none else some (.sl 1 (rows.map fun r=> [.sl sz r]))
  |some (.nils _ _ sz n)=>if bad l=true then none else some (.sl 1 (List.replicate n [.sl sz []]))
  |_=>none
 |_, .vw l sz a=>match look m l with
  |some (.own _ sz' rows)=>if bad l=true then none else if sz'=sz then some (.sl sz (rows.drop a)) else none
  |_=>none
 |n+1, .ptr l o=>match look m l with
  |some (.box cells)=>if bad l=true then none else match allSome (cells.map fun a=>rdX C bad dB m n a) with|some ds=>if o≤ds.length then some (.pt (ds.drop o)) else none|none=>none
  |some (.rob cells)=>if dB=true then match allSome (cells.map fun a=>rdX C bad dB m n a) with|some ds=>if o≤ds.length then some (.pt (ds.drop o)) else none|none=>none else none
  |_=>none
 |_,_=>none
mutual
def cvt (rd:AV→D→Prop) (a:AV):AV→Prop
 | .cB=>True
 | .d x=>rd a x
 | .agg bs=>match a with| .agg as=>cvts rd as bs|_=>False
 | .tup bs=>match a with| .tup as=>cvts rd as bs|_=>False
 | .nil e=>a= .nil e
 | .ref l=>a= .ref l
 | .ptr l o=>a= .ptr l o
 | .ep l sz i o=>a= .ep l sz i o
 | .vw l sz i=>a= .vw l sz i
 | .fn f us vs=>match a with| .fn f' us' vs'=>f'=f∧cvts rd us' us∧cvts rd vs' vs|_=>False
 | .cM p=>a= .cM p
 | .mref l=>a= .mref l
 | .emp e=>a= .emp e∨a= .nil e
def cvts (rd:AV→D→Prop) (as:List AV):List AV→Prop
 | []=>as= []
 |b::bs=>match as with|a::as=>cvt rd a b∧cvts rd as bs| []=>False
end
section
variable {rd:AV→D→Prop} {E E':Env} {w:World}
mutual
theorem qy (hk:jI w E w E' fun _=>True) (hrd:∀a x v,rd a x→aN w E a v→Rd w E'.z v x):∀ {b a:AV} {v:Value},cvt rd a b→aN w E a v→aN w E' b v
 | .cB,_,_,_,_=>trivial
 | .d x,a,v,h,hr=>by unfold cvt at h;exact hrd a x v h hr
 | .agg bs,a,v,h,hr=>by
   unfold cvt at h
   split at h
   ·obtain ⟨us,rfl,hr⟩:=hr
    exact ⟨us,rfl,cC hk hrd h hr⟩
   ·exact h.elim
 | .tup bs,a,v,h,hr=>by
   unfold cvt at h
   split at h
   ·obtain ⟨us,rfl,hr⟩:=hr
    exact ⟨us,rfl,cC hk hrd h hr⟩
   ·exact h.elim
 | .nil e,a,v,h,hr=>by simp only [cvt] at h;subst h;exact hr
 | .ref l,a,v,h,hr=>by simp only [cvt] at h;subst h;exact aN.mono hk (fun _ _=>trivial) hr
 | .ptr l o,a,v,h,hr=>by simp only [cvt] at h;subst h;exact aN.mono hk (fun _ _=>trivial) hr
 | .ep l sz i o,a,v,h,hr=>by simp only [cvt] at h;subst h;exact aN.mono hk (fun _ _=>trivial) hr
 | .vw l sz i,a,v,h,hr=>by simp only [cvt] at h;subst h;exact aN.mono hk (fun _ _=>trivial) hr
 | .fn f us vs,a,v,h,hr=>by
   unfold cvt at h
   split at h
   ·obtain ⟨us',vs',rfl,h1,h2⟩:=hr
    obtain ⟨rfl,k1,k2⟩:=h
    exact ⟨us',vs',rfl,cC hk hrd k1 h1,cC hk hrd k2 h2⟩
   ·exact h.elim
 | .cM p,a,v,h,hr=>by simp only [cvt] at h;subst h;exact hr
 | .mref l,a,v,h,hr=>by simp only [cvt] at h;subst h;exact aN.mono hk (fun _ _=>trivial) hr
 | .emp e,a,v,h,hr=>by
   simp only [cvt] at h
   rcases h with rfl|rfl
   ·exact hr
   ·exact ⟨none,hr⟩
theorem cC (hk:jI w E w E' fun _=>True) (hrd:∀a x v,rd a x→aN w E a v→Rd w E'.z v x):∀ {bs as:List AV} {vs:List Value},cvts rd as bs→AVrs w E as vs→AVrs w E' bs vs
 | [],as,vs,h,hr=>by simp only [cvts] at h;subst h;exact hr
 |b::bs,as,vs,h,hr=>by
  unfold cvts at h
  split at h
  ·obtain ⟨u,us,rfl,h1,h2⟩:=hr
   exact ⟨u,us,rfl,qy hk hrd h.1 h1,cC hk hrd h.2 h2⟩
  ·exact h.elim
end
end
theorem tu {s:ASt} {E:Env} {w:World} (hm:∀l o,look s.m l=some o→az w E l o) (a:AV) (x:D) (v:Value) (h:cvtD s a x) (hr:aN w E a v):Rd w E.z v x:=by
 simp only [cvtD] at h
 split at h
 ·split at h
  ·rename_i e sz rows hl
   subst h
   simp only [aN] at hr
   rw [hr.1];exact fz (hm _ _ hl)
  ·exact h.elim
 ·split at h
  ·subst h
   simp only [aN] at hr
   subst hr
   exact .nil _ _
  ·exact h.elim
 ·split at h
  ·subst h
   obtain ⟨p,rfl⟩:=hr
   exact .nil _ _
  ·exact h.elim
 ·subst h;exact hr
 ·exact h.elim
def aU (w:World) (b:Nat):Nat:=match w.heap[b]? with|some (.cells cs _ _)=>cs.size|_=>0
theorem ig:∀ {l:List (Option D)} {ds:List D},allSome l=some ds→l=ds.map some
 | [],ds,h=>by simp [allSome] at h;subst h;rfl
 |none::r,ds,h=>by simp [allSome] at h
 |some x::r,ds,h=>by
  simp only [allSome] at h
  cases hr:allSome r with
  |none=>simp [hr] at h
  |some xs=>
   simp [hr] at h
   subst h
   rw [ig hr];rfl
theorem ij {C:Cfg} {bad:Nat→Bool} {dB:Bool} {m:List (Nat × AObj)} {E:Env} {w:World} {z:Nat→Nat} (hg:Good m E w) (hst:aj w E.z w z)
 (mS:∀l o b,look m l=some o→(o.ro=false∨dB=true)→(o.ro=false→bad l=false)→E.ρ l=some b→aU w b≤z b):∀ {n:Nat} {a:AV} {x:D} {v:Value},rdX C bad dB m n a=some x→aN w E a v→Rd w z v x:=by
 have flat:∀ {a:AV} {x:D} {v:Value} (n:Nat),(∀l o,a≠ .ptr l o)→rdX C bad dB m n a=some x→aN w E a v→Rd w z v x:=by
  intro a x v n hne h hr
  unfold rdX at h
  split at h
  ·cases h;exact Rd.mono hst hr
  ·cases h;simp only [aN] at hr;subst hr;exact .nil _ _
  ·cases h;obtain ⟨p,rfl⟩:=hr;exact .nil _ _
  ·rename_i l
   have hv:=hr.1
   subst hv
   split at h
   ·rename_i e sz rows hl
    cases h
    exact Rd.mono hst (fz (hg.obj _ _ hl))
   ·rename_i e sz rows hl
    split at h
    ·cases h
    ·rename_i hb
     cases h
     obtain ⟨g1,g2,⟨h1,h2,p,h3⟩|⟨b,cur,cap,h1,h2,h3,h4,h5,h6,h7,h8⟩⟩:=hg.obj _ _ hl
     ·rw [h3,h2];exact .nil p sz
     ·have hz:=mS _ _ b hl (.inl rfl) (fun _=>by simpa using hb) h1
      simp only [aU,h2] at hz
      rw [h3]
      have hle:rows.length*sz≤cap*sz:=Nat.mul_le_mul_right sz h4
      refine .sl b 0 rows.length cap sz rows (fun k=>cur.getD k undef) rfl g1 (by omega) h4 (fun k hk=> ?_) (fun i j r x hi hj=> ?_)
      ·have:k<cur.size:=by omega
       simp [World.cell?,h2,Array.getElem?_eq_getElem this]
      ·obtain ⟨v,hv,hx⟩:=h8 i j r x hi hj
       have:cur.getD (i*sz+j) undef=v:=by simp [hv]
       rw [this];exact hx.mono hst
   ·rename_i e sz rows hl
    split at h
    ·cases h
    ·rename_i hb
     cases h
     obtain ⟨g1,g2,⟨h1,h2,p,h3⟩|⟨b,off,cur,cap,h1,h2,h3,h4,h5,h6,h7,h8⟩⟩:=hg.obj _ _ hl
     ·rw [h3,h2];exact .nil p sz
     ·have hz:=mS _ _ b hl (.inl rfl) (fun _=>by simpa using hb) h1
      simp only [aU,h2] at hz
      rw [h3]
      have hle:rows.length*sz≤cap*sz:=Nat.mul_le_mul_right sz h4
      refine .sl b off rows.length cap sz rows (fun k=>cur.getD (off+k) undef) rfl g1 (by omega) h4 (fun k hk=> ?_) (fun i j r x hi hj=> ?_)
      ·have:off+k<cur.size:=by omega
       simp [World.cell?,h2,Array.getElem?_eq_getElem this]
      ·obtain ⟨v,hv,hx⟩:=h8 i j r x hi hj
       have:cur.getD (off+(i*sz+j)) undef=v:=by simp [hv]
       rw [this];exact hx.mono hst
   ·rename_i e' e sz rows hl
    split at h
    ·cases h
    ·rename_i hb
     cases h
     obtain ⟨b,cur,cap,h1,h2,h3,h4,h5,h6,h7,h8⟩:=hg.obj _ _ hl
     have hz:=mS _ _ b hl (.inl rfl) (fun _=>by simpa using hb) h1
     simp only [aU,h2] at hz
     have eY:=hg.low _ (by rw [hl];simp)
     rw [h3]
     refine .sl b 0 _ cap 1 _ (fun k=>cur.getD k undef) (by simp) (by simp) (by omega) h4 (fun k hk=> ?_) (fun i j r x hi hj=> ?_)
     ·have:k<cur.size:=by omega
      simp [World.cell?,h2,Array.getElem?_eq_getElem this]
     ·rw [List.getElem?_map] at hi
      obtain ⟨rr,Bw,rfl⟩:=Option.map_eq_some_iff.1 hi
      have hil:i<rows.length:=(List.getElem?_eq_some_iff.1 Bw).1
      obtain ⟨c1,c2⟩:=h8 i hil (by simp)
      have hs:aD m (nn l i)=some (.tip e sz rr):=by rw [fL eY,hl];simp [inner,Bw]
      cases j with
      |succ j=>simp at hj
      |zero=>
       simp at hj
       subst hj
       have:cur.getD (i*1+0) undef=E.σ (nn l i):=by simp [c1]
       rw [this]
       exact Rd.mono hst (fz (hg.dQ _ _ hs))
   ·rename_i e' e sz k hl
    split at h
    ·cases h
    ·rename_i hb
     cases h
     obtain ⟨b,cur,cap,h1,h2,h3,h4,h5,h6,h7,h8,h9⟩:=hg.obj _ _ hl
     have hz:=mS _ _ b hl (.inl rfl) (fun _=>by simpa using hb) h1
     simp only [aU,h2] at hz
     rw [h3]
     refine .sl b 0 k cap 1 _ (fun k=>cur.getD k undef) (by simp) (fun r hr=>by rw [(List.mem_replicate.1 hr).2];rfl) (by omega) h4 (fun j hj=> ?_) (fun i j r x hi hj=> ?_)
     ·have:j<cur.size:=by omega
      simp [World.cell?,h2,Array.getElem?_eq_getElem this]
     ·rw [List.getElem?_replicate] at hi
      split at hi
      ·rename_i hik
       cases hi
       cases j with
       |succ j=>simp at hj
       |zero=>
        simp at hj
        subst hj
        have:cur.getD (i*1+0) undef= .slice none 0 0:=by simp [h9 i hik]
        rw [this]
        exact .nil _ _
      ·cases hi
   ·cases h
  ·rename_i l sz a
   obtain ⟨b0,Fs,n0,Ck,hs0,G6,hv⟩:=hr
   subst hv
   split at h
   ·rename_i e sz' rows hl
    split at h
    ·cases h
    rename_i hb
    split at h
    rotate_left
    ·cases h
    ·rename_i hsz
     subst hsz
     cases h
     obtain ⟨g1,g2,⟨h1,h2,p,h3⟩|⟨b,cur,cap,h1,h2,h3,h4,h5,h6,h7,h8⟩⟩:=hg.obj _ _ hl
     ·rw [hs0] at h3;cases h3;omega
     ·rw [hs0] at h3
      simp only [Value.slice.injEq,Option.some.injEq,Addr.mk.injEq,and_true] at h3
      obtain ⟨⟨rfl,rfl⟩,rfl,rfl⟩:=h3
      have hz:=mS _ _ b0 hl (.inl rfl) (fun _=>by simpa using hb) h1
      simp only [aU,h2] at hz
      have hle:rows.length*sz'≤Ck*sz':=Nat.mul_le_mul_right sz' h4
      have hsp:a*sz'+(rows.length - a)*sz'=rows.length*sz':=by rw [← Nat.add_mul];congr 1;omega
      refine .sl b0 _ _ _ sz' _ (fun k=>cur.getD (0+a*sz'+k) undef) (by simp) (fun r hr=>g1 r (List.mem_of_mem_drop hr)) (by omega) (by omega) (fun k hk=> ?_) (fun i j r x hi hj=> ?_)
      ·have:0+a*sz'+k<cur.size:=by omega
       simp only [World.cell?,h2]
       simp [Array.getElem?_eq_getElem (show a*sz'+k<cur.size by omega)]
      ·rw [List.getElem?_drop] at hi
       obtain ⟨v,hv,hx⟩:=h8 (a+i) j r x hi hj
       have:cur.getD (0+a*sz'+(i*sz'+j)) undef=v:=by
        have e1:0+a*sz'+(i*sz'+j)=(a+i)*sz'+j:=by rw [Nat.add_mul];omega
        rw [e1]
        simp [hv]
       rw [this];exact hx.mono hst
   ·cases h
  ·exact absurd rfl (hne _ _)
  ·cases h
 intro n
 induction n with
 |zero=>
  intro a x v h hr
  cases a with
  |ptr l o=>simp [rdX] at h
  |_=>exact flat 0 (fun _ _ e=>by cases e) h hr
 |succ n ih=>
  intro a x v h hr
  have key:∀(l o b:Nat) (vs:List Value) (e:Nat) (cells:List AV),E.ρ l=some b→w.heap[b]? =some (.cells vs.toArray e (0,0))→AVrs w E cells vs→aU w b≤z b→v= .pointer (some ⟨b,o,none⟩)→
   (match allSome (cells.map fun a=>rdX C bad dB m n a) with|some ds=>if o≤ds.length then some (D.pt (ds.drop o)) else none|none=>none)=some x→Rd w z v x:=by
   intro l o b vs e cells h1 h2 h3 hz hv h
   cases hs:allSome (cells.map fun a=>rdX C bad dB m n a) with
   |none=>rw [hs] at h;cases h
   |some ds=>
    rw [hs] at h
    simp only at h
    split at h
    ·rename_i ho
     cases h
     subst hv
     have hd:=ig hs
     have hlen:cells.length=ds.length:=by have:=congrArg List.length hd;simpa using this
     have hvl:=h3.length
     simp only [aU,h2,List.size_toArray] at hz
     refine .pt b o _ (fun k=>vs.getD (o+k) undef) (by simp;omega) (fun k hk=> ?_) (fun j x hj=> ?_)
     ·simp only [List.length_drop] at hk
      have:o+k<vs.length:=by omega
      simp [World.cell?,h2,List.getD_eq_getElem?_getD,List.getElem?_eq_getElem this]
     ·rw [List.getElem?_drop] at hj
      have hjl:o+j<cells.length:=by rw [hlen];exact (List.getElem?_eq_some_iff.1 hj).1
      have hrd:rdX C bad dB m n cells[o+j]=some x:=by
       have:=congrArg (·[o+j]?) hd
       simp only [List.getElem?_map,List.getElem?_eq_getElem hjl,Option.map_some,hj,Option.some.injEq] at this
       exact this
      obtain ⟨u,hu,zj⟩:=h3.get (List.getElem?_eq_getElem hjl)
      have:vs.getD (o+j) undef=u:=by rw [List.getD_eq_getElem?_getD,hu];rfl
      rw [this]
      exact ih hrd zj
    ·cases h
  cases a with
  |ptr l o=>
   obtain ⟨b,hb,hv⟩:=hr
   unfold rdX at h
   split at h
   ·rename_i cells hl
    split at h
    ·cases h
    ·rename_i qY
     obtain ⟨b',vs,e,h1,h2,h3,h4,h5⟩:=hg.obj _ _ hl
     rw [h1] at hb;cases hb
     exact key l o b vs e cells h1 h2 h4 (mS _ _ b hl (.inl rfl) (fun _=>by simpa using qY) h1) hv h
   ·rename_i cells hl
    split at h
    ·rename_i hle
     obtain ⟨b',vs,e,h1,h2,h3,h4,h5⟩:=hg.obj _ _ hl
     rw [h1] at hb;cases hb
     exact key l o b vs e cells h1 h2 h4 (mS _ _ b hl (.inr hle) (fun h=>by simp [AObj.ro] at h) h1) hv h
    ·cases h
   ·cases h
  |_=>exact flat _ (fun _ _ e=>by cases e) h hr
inductive RV where
 |t (n:Nat)
 |c (a ty:Nat)
def RV.rv:RV→ResultVar
 | .t n=> .tmp n
 | .c a ty=> .cell a ty
def resK (C:Cfg) (s:ASt) (rs:List RV) (K:List AV→Prop):Prop:=
 match rs with
 | []=>K []
 | .t n::rs=>resK C s rs fun vs=>K (get s.t n::vs)
 | .c a ty::rs=>match get s.t a with
   | .ptr l q=>match look s.m l with
     |some (.box cells)=>vcLoad (C.T ty) cells q fun v=>resK C s rs fun vs=>K (v::vs)
     |_=>False
   |_=>False
def tupOf:List AV→AV
 | [r]=>r
 |rs=> .tup rs
def leR (m:List (Nat × AObj)) (rn:List (Nat × Nat)):List (Nat × AObj)→Prop
 | []=>True
 |(l,o)::r=>look m (asN rn l)=some (renO rn o)∧leR m rn r
def Fin (C:Cfg) (rs:List RV) (rn:List (Nat × Nat)) (res:AV) (m':List (Nat × AObj)) (e:Exit) (s:ASt):Prop:=
 match e with
 | .ret| .normal=>resK C s rs fun vs=>cvt (fun a x=>rdX C (fun l=>m'.any fun p=>asN rn p.1==l) false s.m 4 a=some x) (tupOf vs) (renA rn res)∧leR s.m rn m'
 |_=>False
def params:Nat→List AV→List (Nat × AV)
 |_, []=> []
 |k,a::as=>(k,a)::params (k+1) as
theorem j0:∀(as:List AV) (k i:Nat),get (params k as) (k+i)=(as[i]?).getD .cB
 | [],k,i=>by simp [params,get]
 |a::as,k,0=>by simp [params,get]
 |a::as,k,i+1=>by
  simp only [params,get,List.getElem?_cons_succ]
  rw [if_neg (by omega),show k+(i+1)=k+1+i from by omega]
  exact j0 as (k+1) i
def j3:List Value→Value
 | [r]=>r
 |rs=> .tuple rs.toArray
def iS (tmps:Array Value):ResultVar→Sem Value
 | .tmp t=>pure (tmps.getD t undef)
 | .cell a t=>do loadVar t (← asAddr (tmps.getD a undef))
theorem gK {X:Ctx} (hX:X.Ok) {E:Env} {s:ASt} {a:Act} {w:World} (h:aA X E s a w):∀ {rs:List RV} {K:List AV→Prop},resK X.C s rs K→
 ∃vs us,K vs∧AVrs w E vs us∧((rs.map RV.rv).mapM (iS a.tmps)).run X.P w= .ok us w
 | [],K,hK=>⟨[], [],hK,rfl,by simp⟩
 | .t n::rs,K,hK=>by
   simp only [resK] at hK
   obtain ⟨vs,us,h1,h2,h3⟩:=gK hX h hK
   refine ⟨_,_::us,h1,⟨_,_,rfl,h.slot n,h2⟩, ?_⟩
   rw [List.map_cons,List.mapM_cons]
   simp only [Sem.run_bind,RV.rv,iS,Sem.run_pure,Result.andThen_ok,h3]
 | .c n ty::rs,K,hK=>by
   unfold resK at hK
   split at hK
   ·rename_i l q hg
    split at hK
    ·rename_i cells hl
     obtain ⟨av,hK,hr⟩:=gj (P:=X.P) (t:=ty) (fun ti gU=>hX.C.T ty ti gU) hK
     obtain ⟨vs,us,h1,h2,h3⟩:=gK hX h hK
     obtain ⟨b,cs,g1,g2,g3⟩:=jM (h.good.obj l _ hl)
     have jQ:=h.slot n
     rw [hg] at jQ
     obtain ⟨b',hb',jQ⟩:=jQ
     rw [g1] at hb';cases hb'
     obtain ⟨v,hv,mY⟩:=hr w E b 0 cs g2 (fun j u hu=>by rw [Nat.zero_add];exact g3 j u hu)
     rw [Nat.zero_add] at hv
     refine ⟨_,v::us,h1,⟨_,_,rfl,mY,h2⟩, ?_⟩
     have s9:(loadVar ty ⟨b,q,none⟩).run X.P w= .ok v w:=by simpa [Instr.loadAt,Instr.sureAddr] using hv
     rw [List.map_cons,List.mapM_cons]
     simp only [Sem.run_bind,RV.rv,iS,jQ,asAddr,Sem.run_pure,Result.andThen_ok,s9,h3]
    ·exact hK.elim
   ·exact hK.elim
theorem nw {P:Program} {fn:Func} {rs:List RV} (h:fn.results=(rs.map RV.rv).toArray) {tmps:Array Value} {w:World} {us:List Value} (hr:((rs.map RV.rv).mapM (iS tmps)).run P w= .ok us w):
 (results fn tmps).run P w= .ok (j3 us) w:=by
 have e:results fn tmps=(do
  let vs ← fn.results.mapM (iS tmps)
  pure (if h:vs.size=1 then vs[0] else .tuple vs)):=by
  rfl
 rw [e]
 simp only [h,Array.mapM_eq_mapM_toList,Sem.run_bind,Sem.run_map,hr,Result.andThen_ok,Sem.run_pure]
 match us with
 | []=>simp [j3]
 | [r]=>simp [j3]
 |r::q::rs=>simp [j3]
theorem aB:∀ {m:List (Nat × AObj)} {l:Nat} {o:AObj},look m l=some o→(l,o)∈m
 | [],l,o,h=>by simp [look] at h
 |(i,q)::m,l,o,h=>by
  simp only [look] at h
  split at h
  ·rename_i hi;subst hi;cases h;exact List.mem_cons_self
  ·exact List.mem_cons_of_mem _ (aB h)
theorem cO {m:List (Nat × AObj)} (hm:∀p∈m,p.2.isNest=false) {l:Nat} {o:AObj} (h:aD m l=some o):look m l=some o∧nd l=none:=by
 unfold aD at h
 cases bU:nd l with
 |none=>rw [bU] at h;exact ⟨h,rfl⟩
 |some p=>
  obtain ⟨b,i⟩:=p
  rw [bU] at h
  exfalso
  simp only at h
  cases hq:look m b with
  |none=>rw [hq] at h;simp [inner] at h
  |some q=>
   have:=hm _ (aB hq)
   rw [hq] at h
   cases q<;>simp [inner] at h<;>simp [AObj.isNest] at this
theorem nx {m:List (Nat × AObj)} {rn:List (Nat × Nat)} :∀ {m':List (Nat × AObj)},leR m rn m'→∀ {l o},look m' l=some o→look m (asN rn l)=some (o.ren (asN rn))
 | [],_,l,o,h=>by simp [look] at h
 |(i,q)::m',hr,l,o,h=>by
  simp only [look] at h
  split at h
  ·rename_i hi;subst hi;cases h;rw [← vM];exact hr.1
  ·exact nx hr.2 h
structure Bk (w0 w w':World):Prop where
 os:w'.os=w.os
 tape:w'.tape=w.tape
 output:w'.output=w.output
 size:w.heap.size≤w'.heap.size
 blk:∀b,b<w.heap.size→w'.heap[b]? =w.heap[b]? ∨(w0.heap.size≤b∧(∃q,w.heap[b]? =some q∧bE q=true)∧∃q,w'.heap[b]? =some q∧bE q=true)
theorem Bk.refl (w0 w:World):Bk w0 w w:=⟨rfl,rfl,rfl,Nat.le_refl _,fun _ _=> .inl rfl⟩
theorem Bk.trans {w0 w w' w'':World} (h:Bk w0 w w') (k:Bk w0 w' w''):Bk w0 w w'':=
 ⟨k.os.trans h.os,k.tape.trans h.tape,k.output.trans h.output,Nat.le_trans h.size k.size,fun b hb=>by
   rcases h.blk b hb with h1|⟨h1,h2,h3⟩
   ·rcases k.blk b (Nat.lt_of_lt_of_le hb h.size) with k1|⟨k1,k2,k3⟩
    ·exact .inl (k1.trans h1)
    ·exact .inr ⟨k1,by rw [← h1];exact k2,k3⟩
   ·rcases k.blk b (Nat.lt_of_lt_of_le hb h.size) with k1|⟨k1,k2,k3⟩
    ·exact .inr ⟨h1,h2,by rw [k1];exact h3⟩
    ·exact .inr ⟨h1,h2,k3⟩⟩
theorem Bk.one {w0 w:World} {D:Nat} {q q':Obj} (h0:w0.heap.size≤D) (h:w.heap[D]? =some q) (hq:bE q=true) (fH:bE q'=true):Bk w0 w (w.putObj D q'):=
 ⟨rfl,rfl,rfl,by simp [World.putObj],fun b _=>by
   by_cases hb:b=D
   ·subst hb
    exact .inr ⟨h0,⟨q,h,hq⟩,q',World.putObj_heap_same (Array.getElem?_eq_some_iff.1 h).1,fH⟩
   ·exact .inl (World.putObj_heap_other hb)⟩
theorem Bk.new (w0 w:World) (q:Obj):Bk w0 w (w.alloc q):=
 ⟨rfl,rfl,rfl,by simp,fun b hb=> .inl (RowKit.Below.heap_alloc w q b hb)⟩
theorem iq {P:Program} {fn:Func} {tmps:Array Value} {R:Ending→World→Prop} {w0:World} :∀ {ds:List Deferred} {w:World},(∀d∈ds,∃D,d= {target:= .collected D,args:= #[]} ∧w0.heap.size≤D∧w.heap[D]? =some (.deferred (some [])))→ds.Nodup→
 (∀w',Bk w0 w w'→∃v,(results fn tmps).run P w'= .ok v w'∧R (.returned v) w')→LeavesInM Fence.wide 0 P fn tmps R ds .returning w
 | [],w,_,_,h=>h w (Bk.refl _ _)
 |d::ds,w,ha,hn,h=>by
  obtain ⟨D,h1,h2,h3⟩:=ha d List.mem_cons_self
  refine ⟨by simp, .inl ⟨D,_,by rw [h1],run_takeDeferred h3, ?_⟩⟩
  refine iq (fun d' hd'=> ?_) (List.nodup_cons.1 hn).2 fun w' Ft=>h w' ((Bk.one (q':= .deferred none) h2 h3 rfl rfl).trans Ft)
  obtain ⟨D',k1,k2,k3⟩:=ha d' (List.mem_cons_of_mem _ hd')
  refine ⟨D',k1,k2, ?_⟩
  rw [World.putObj_heap_other]
  ·exact k3
  ·rintro rfl
   exact (List.nodup_cons.1 hn).1 (by rw [h1, ← k1];exact hd')
theorem ir {q:Obj} (h:bE q=true) {w:World} {b o:Nat} (hb:w.heap[b]? =some q):w.cell? ⟨b,o,none⟩=none:=by
 unfold World.cell?
 cases q<;>simp [bE] at h<;>simp [hb]
theorem Bk.xT {w0 w w':World} (h:Bk w0 w w') {z:Nat→Nat} (hz:∀b,w.heap.size≤b→z b=0):aj w z w' z:=fun b=>⟨Nat.le_refl _,fun o ho=>by
 have hb:b<w.heap.size:=by
  rcases Nat.lt_or_ge b w.heap.size with h1|h1
  ·exact h1
  ·rw [hz b h1] at ho;omega
 rcases h.blk b hb with h1|⟨_,⟨q,h2,h4⟩,q',h3,h5⟩
 ·simp [World.cell?,h1]
 ·rw [ir h4 h2,ir h5 h3]⟩
theorem aA.bk {X:Ctx} {E:Env} {s:ASt} {a:Act} {w w':World} {ds:List Deferred} (h:aA X E s a w) (hs:Bk X.w0 w w') (hd:Marks X.lo X.bk ds w'):aA X E s {a with defers:=ds} w':=by
 have hst:=hs.xT h.good.fresh
 have hblk:∀ {l o b},aD s.m l=some o→E.ρ l=some b→w'.heap[b]? =w.heap[b]? :=fun {l o b} hl hb=>by
  have ho:=h.good.dQ l o hl
  rcases hs.blk b (ho.lt hb) with h1|⟨_,⟨q,h2,h3⟩,_⟩
  ·exact h1
  ·exact absurd h2 (ho.sO hb q h3)
 refine ⟨hd,h.size,⟨h.good.low,h.good.inj,fun l o hl=> ?_,fun b hb=>h.good.fresh b (Nat.le_trans hs.size hb)⟩,⟨hs.os.trans h.dR.os,hs.tape.trans h.dR.tape,hs.output.trans h.dR.output,Nat.le_trans h.dR.size hs.size,h.dR.st.trans hst,fun b hb hn=> ?_,h.dR.wW⟩,h.mine,fun k=> ?_⟩
 ·have:=az.keep (k:= []) hst (fun _ _=>⟨rfl,rfl⟩) (fun l x hl=>by simp [kl] at hl) rfl (fun _ _=>rfl) (fun b hb=>⟨hblk hl hb,rfl⟩) (h.good.dQ l o hl)
  rwa [AObj.eX] at this
 ·have hf:=h.dR.frame b hb hn
  rcases hs.blk b (Nat.lt_of_lt_of_le hb h.dR.size) with h1|⟨h1,_⟩
  ·exact ⟨h1.trans hf.1,hf.2⟩
  ·omega
 ·exact aN.mono (live:=fun _=>True) ⟨hst,fun _ _=>rfl,fun _ _=>rfl⟩ (fun _ _=>trivial) (h.slot k)
theorem tv {P:Program} {C:Cfg} {n:Nat} {rs:List RV} {rn:List (Nat × Nat)} {m:List (Nat × AObj)} {res:AV} {m':List (Nat × AObj)} {E E':Env} {w w':World} {s:ASt} {a':Act}
 (hX:Ctx.Ok ⟨P,C,n,m,E,w, [],w.heap.size⟩) (hE:aA ⟨P,C,n,m,E,w, [],w.heap.size⟩ E' s a' w') (hf:Fin C rs rn res m' .ret s)
 (jr:∀p∈m,10000≤p.1∧p.2.isNest=false) (hm':∀p∈m',p.1<20000∧p.2.isNest=false) (zL:∀l,look m l≠none→asN rn l=l) (hinj:∀p∈m',∀q∈m',asN rn p.1=asN rn q.1→p.1=q.1):
 ∃us,((rs.map RV.rv).mapM (iS a'.tmps)).run P w'= .ok us w'∧Post m E w res m' (.returned (j3 us)) w':=by
 have hplain:∀ {l o},aD m l=some o→look m l=some o:=fun hl=>(cO (fun p hp=>(jr p hp).2) hl).1
 obtain ⟨vs,us,⟨h1,h2⟩,h3,h4⟩:=gK hX hE hf
 have cV:∀ {l o},aD m' l=some o→aD s.m (asN rn l)=some (o.ren (asN rn))∧(o.ren (asN rn)).isNest=false∧(l,o)∈m':=fun hl=>by
  have hl':=(cO (fun p hp=>(hm' p hp).2) hl).1
  exact ⟨hE.good.aD (nx h2 hl'),by rw [AObj.jZ];exact (hm' _ (aB hl')).2,aB hl'⟩
 obtain ⟨z,hz⟩:∃z:Nat→Nat,∀b,((∃l o,aD s.m l=some o∧(∃p∈m',asN rn p.1=l)∧E'.ρ l=some b)∨(b<w.heap.size∧¬sK m E b)→z b=E'.z b)∧
  (¬((∃l o,aD s.m l=some o∧(∃p∈m',asN rn p.1=l)∧E'.ρ l=some b)∨(b<w.heap.size∧¬sK m E b))→z b=max (E'.z b) (aU w' b)):=by
  classical
  exact ⟨fun b=>if ((∃l o,aD s.m l=some o∧(∃p∈m',asN rn p.1=l)∧E'.ρ l=some b)∨(b<w.heap.size∧¬sK m E b)) then E'.z b else max (E'.z b) (aU w' b),fun b=>⟨fun h=>by simp only [if_pos h],fun h=>by simp only [if_neg h]⟩⟩
 have vH:∀b,E'.z b≤z b:=fun b=>by
  by_cases h:(∃l o,aD s.m l=some o∧(∃p∈m',asN rn p.1=l)∧E'.ρ l=some b)∨(b<w.heap.size∧¬sK m E b)
  ·rw [(hz b).1 h];exact Nat.le_refl _
  ·rw [(hz b).2 h];exact Nat.le_max_left _ _
 have hst:aj w' E'.z w' z:=fun b=>⟨vH b,fun _ _=>rfl⟩
 have hkeep:jI w' E' w' ⟨E'.ρ,E'.σ,z⟩ fun _=>True:=⟨hst,fun _ _=>rfl,fun _ _=>rfl⟩
 have mS:∀l o b,look s.m l=some o→(o.ro=false∨false=true)→(o.ro=false→(m'.any fun p=>asN rn p.1==l)=false)→E'.ρ l=some b→aU w' b≤z b:=by
  intro l o b hl hro qY hb
  have hro:o.ro=false:=hro.resolve_right (by simp)
  have qY:=qY hro
  rw [(hz b).2 ?_]
  ·exact Nat.le_max_right _ _
  ·rintro (⟨l',o',h1,⟨p,hp,gl⟩,h2⟩|⟨h1,h2⟩)
   ·have:=hE.good.inj l l' b (by rw [hE.good.aD hl];simp) (by rw [h1];simp) hb h2
    subst this
    rw [List.any_eq_false] at qY
    exact qY p hp (by simp [gl])
   ·rcases hE.mine l o b (hE.good.aD hl) hro hb with h3|h3
    ·simp only at h3;omega
    ·exact h2 h3
 refine ⟨us,h4,_,(⟨E'.ρ,E'.σ,z⟩:Env).pre (asN rn),rfl,⟨hE.dR.os,hE.dR.tape,hE.dR.output,hE.dR.size,hE.dR.st.trans hst,fun b hb hnm=> ?_,fun l hl=> ?_⟩,⟨fun l hl=> ?_,fun l l' b hl hl' hb hb'=> ?_,fun l o hl=> ?_,fun b hb=> ?_⟩,fun l o b hl hro hb'=> ?_, ?_⟩
 ·have:=hE.dR.frame b hb hnm
  exact ⟨this.1,((hz b).1 (.inr ⟨hb,hnm⟩)).trans this.2⟩
 ·obtain ⟨o,ho⟩:=Option.ne_none_iff_exists'.1 hl
  have:=zL l (by rw [hplain ho];simp)
  simp only [Env.pre,this]
  exact hE.dR.wW l hl
 ·obtain ⟨o,ho⟩:=Option.ne_none_iff_exists'.1 hl
  exact (hm' _ (aB ho)).1
 ·obtain ⟨o,ho⟩:=Option.ne_none_iff_exists'.1 hl
  obtain ⟨o',ho'⟩:=Option.ne_none_iff_exists'.1 hl'
  obtain ⟨g1,_,g2⟩:=cV ho
  obtain ⟨BE,_,Fu⟩:=cV ho'
  exact hinj _ g2 _ Fu (hE.good.inj (asN rn l) (asN rn l') b (by simp [g1]) (by simp [BE]) hb hb')
 ·obtain ⟨g1,g3,g2⟩:=cV hl
  refine (ic (by rw [AObj.jZ] at g3;exact g3)).2 ?_
  have:=az.keep (k:= []) (E':=⟨E'.ρ,E'.σ,z⟩) hst (fun _ _=>⟨rfl,rfl⟩) (fun l x hl=>by simp [kl] at hl) rfl (fun _ _=>rfl) (fun b hb=>⟨rfl,(hz b).1 (.inl ⟨_,_,g1,⟨_,g2,rfl⟩,hb⟩)⟩) (hE.good.dQ _ _ g1)
  rwa [AObj.eX] at this
 ·by_cases h:(∃l o,aD s.m l=some o∧(∃p∈m',asN rn p.1=l)∧E'.ρ l=some b)∨(b<w.heap.size∧¬sK m E b)
  ·exact ((hz b).1 h).trans (hE.good.fresh b hb)
  ·refine ((hz b).2 h).trans ?_
   rw [hE.good.fresh b hb]
   simp [aU,Array.getElem?_eq_none hb]
 ·obtain ⟨g1,_,_⟩:=cV hl
  exact hE.mine _ _ b g1 (by rw [AObj.tr];exact hro) hb'
 ·refine jB.2 ?_
  rw [← vK]
  refine qy hkeep (fun a x v w9 hr=>ij hE.good hst mS w9 hr) h1 ?_
  match vs,us,h3 with
  | [],us,h3=>simp only [AVrs] at h3;subst h3;exact ⟨[],rfl,rfl⟩
  | [v],us,h3=>obtain ⟨u,us',rfl,g1,g2⟩:=h3;simp only [AVrs] at g2;subst g2;exact g1
  |v::v'::vs,us,h3=>
   obtain ⟨u,us',rfl,g1,u',zM,rfl,g2⟩:=h3
   exact ⟨u::u'::zM,rfl,⟨u,_,rfl,g1,u',_,rfl,g2⟩⟩
theorem Spec.tw {P:Program} {C:Cfg} {f:Nat} {fn:Func} {c:Code} {n:Nat} {rs:List RV} (rn:List (Nat × Nat)) {A:Env→World→List Value→Prop} {m:List (Nat × AObj)} {res:AV} {m':List (Nat × AObj)}
 (hC:C.Ok P) (hf:P.funcs[f]? =some fn) (hb:fn.body=some c) (hname:(fn.name== "runtime.NumGoroutine")=false) (hn:fn.ntmps=n) (oN:fn.results=(rs.map RV.rv).toArray)
 (jr:∀p∈m,10000≤p.1∧p.2.isNest=false) (hm':∀p∈m',p.1<20000∧p.2.isNest=false) (zL:∀l,look m l≠none→asN rn l=l) (hinj:∀p∈m',∀q∈m',asN rn p.1=asN rn q.1→p.1=q.1) (hk:mq n c=true)
 (h:∀X:Ctx,X.Ok→X.P=P→X.C=C→X.n=n→X.m0=m→∀vals,A X.E0 X.w0 vals→∃args,args.length≤n∧AVrs X.w0 X.E0 args vals∧bA X c (Fin C rs rn res m') ⟨params 0 args,m⟩):Spec P f A m res m':=by
 refine ⟨⟨fn,c,hf,hname,hb⟩,fun E w vals hg hA=> ?_⟩
 have hplain:∀ {l o},aD m l=some o→look m l=some o:=fun hl=>(cO (fun p hp=>(jr p hp).2) hl).1
 have hX:Ctx.Ok ⟨P,C,n,m,E,w, [],w.heap.size⟩:=⟨hC,fun l hl=>by
  obtain ⟨o,ho⟩:=Option.ne_none_iff_exists'.1 hl
  exact (jr _ (aB (hplain ho))).1,Nat.le_refl _⟩
 obtain ⟨args,hlen,hargs,hwp⟩:=h ⟨P,C,n,m,E,w, [],w.heap.size⟩ hX rfl rfl rfl rfl vals hA
 have hvl:=hargs.length
 have hsz:(vals.toArray++Array.replicate (fn.ntmps - vals.toArray.size) undef).size=n:=by simp [hn];omega
 refine callsIn_wide.1 (callsIn_of_wp_marks (n:=0) (F:=Fence.wide) hf hb trivial (wpIn_wide.2 (wp_mono (hwp.run hk _ _ ⟨E,Marks.nil,hsz,hg,wV.refl _ _ _,fun l o b hl hro hb'=> .inr ⟨l,o,hl,hro,hb'⟩,fun k=> ?_⟩) ?_)))
 ·have Ek:=j0 args 0 k
  rw [Nat.zero_add] at Ek
  rw [Ek]
  cases ha:args[k]? with
  |none=>trivial
  |some av=>
   obtain ⟨u,hu,hr⟩:=hargs.get ha
   have:(vals.toArray++Array.replicate (fn.ntmps - vals.toArray.size) undef).getD k undef=u:=by
    have bp:k<vals.length:=(List.getElem?_eq_some_iff.1 hu).1
    rw [Array.getD_eq_getD_getElem?,Array.getElem?_append_left (by simpa using bp)]
    simp [hu]
   rw [this];exact hr
 ·rintro e a0 w1 ⟨s,hq,E',yS⟩
  have fin:Fin C rs rn res m' .ret s→LeavesInM Fence.wide 0 P fn a0.tmps (Post m E w res m') a0.defers .returning w1:=by
   intro hf
   refine iq yS.defers.all yS.defers.nd fun w' hsh=> ?_
   have hE:=yS.bk hsh Marks.nil
   obtain ⟨a',El⟩:∃a':Act,a'= {a0 with defers:= []} :=⟨_,rfl⟩
   rw [← El] at hE
   rw [show a0.tmps=a'.tmps by rw [El]]
   obtain ⟨us,h1,h2⟩:=tv hX hE hf jr hm' zL hinj
   exact ⟨_,nw oN h1,h2⟩
  cases e with
  |ret=>exact fin hq
  |normal=>exact fin hq
  |_=>exact hq.elim
theorem Spec.intro {P:Program} {C:Cfg} {f:Nat} {fn:Func} {c:Code} {n:Nat} {rs:List RV} {A:Env→World→List Value→Prop} {m:List (Nat × AObj)} {res:AV} {m':List (Nat × AObj)}
 (hC:C.Ok P) (hf:P.funcs[f]? =some fn) (hb:fn.body=some c) (hname:(fn.name== "runtime.NumGoroutine")=false) (hn:fn.ntmps=n) (oN:fn.results=(rs.map RV.rv).toArray)
 (jr:∀p∈m,10000≤p.1∧p.2.isNest=false) (hm':∀p∈m',p.1<20000∧p.2.isNest=false) (hk:mq n c=true)
 (h:∀X:Ctx,X.Ok→X.P=P→X.C=C→X.n=n→X.m0=m→∀vals,A X.E0 X.w0 vals→∃args,args.length≤n∧AVrs X.w0 X.E0 args vals∧bA X c (Fin C rs [] res m') ⟨params 0 args,m⟩):Spec P f A m res m':=
 Spec.tw [] hC hf hb hname hn oN jr hm' (fun _ _=>rfl) (fun p _ q _ h=>h) hk h
end Go.Ab
end
section
namespace Go.Ab
def renM (π:Nat→Nat):List (Nat × AObj)→List (Nat × AObj)
 | []=> []
 |(l,o)::r=>match o with
  | .rob _=>renM π r
  |o=>(π l,o.ren π)::renM π r
def killM (π:Nat→Nat) (m':List (Nat × AObj)):List (Nat × AObj)→List (Nat × Option D)
 | []=> []
 |(l,_)::r=>match look m' l with
  |none=>(π l,none)::killM π m' r
  |some _=>killM π m' r
theorem iu {π:Nat→Nat} {m':List (Nat × AObj)} :∀ {m:List (Nat × AObj)} {k:Nat},kl (killM π m' m) k≠none→∃l,look m l≠none∧look m' l=none∧π l=k
 | [],k,h=>absurd rfl h
 |(l,o)::r,k,h=>by
  simp only [killM] at h
  split at h
  ·rename_i hl
   simp only [kl] at h
   split at h
   ·rename_i hk;exact ⟨l,by simp [look],hl,hk⟩
   ·obtain ⟨l',h1,h2,h3⟩:=iu h
    exact ⟨l',by simp only [look];split<;>simp_all,h2,h3⟩
  ·obtain ⟨l',h1,h2,h3⟩:=iu h
   exact ⟨l',by simp only [look];split<;>simp_all,h2,h3⟩
theorem j4 {π:Nat→Nat} {m':List (Nat × AObj)} :∀ {m:List (Nat × AObj)} {l:Nat},look m l≠none→look m' l=none→kl (killM π m' m) (π l)≠none
 | [],l,h,_=>absurd rfl h
 |(i,o)::r,l,h,h'=>by
  simp only [look] at h
  simp only [killM]
  by_cases hil:i=l
  ·subst hil
   simp [h',kl]
  ·simp only [hil,if_false] at h
   have ih:=j4 (π:=π) h h'
   split
   ·simp only [kl];split
    ·simp
    ·exact ih
   ·exact ih
theorem gL {π:Nat→Nat} {m':List (Nat × AObj)} :∀ {m:List (Nat × AObj)} {k:Nat} {x:D},kl (killM π m' m) k≠some (some x)
 | [],k,x=>by simp [killM,kl]
 |(i,o)::r,k,x=>by
  simp only [killM]
  have ih:=gL (π:=π) (m':=m') (m:=r) (k:=k) (x:=x)
  split
  ·simp only [kl];split
   ·simp
   ·exact ih
  ·exact ih
theorem eC:∀(a b:List (Nat × Option D)) (k:Nat),kl (a++b) k=match kl a k with|some x=>some x|none=>kl b k
 | [],b,k=>rfl
 |(i,x)::a,b,k=>by
  simp only [List.cons_append,kl]
  split
  ·rfl
  ·exact eC a b k
theorem dw {π:Nat→Nat} :∀ {m:List (Nat × AObj)} {k:Nat} {o':AObj},look (renM π m) k=some o'→∃p∈m,p.2.ro=false∧π p.1=k∧o'=p.2.ren π
 | [],k,o',h=>by simp [renM,look] at h
 |(l,o)::r,k,o',h=>by
  have step:look (renM π r) k=some o'→∃p∈(l,o)::r,p.2.ro=false∧π p.1=k∧o'=p.2.ren π:=fun h=>by
   obtain ⟨p,h1,h2⟩:=dw h
   exact ⟨p,by simp [h1],h2⟩
  cases o<;>simp only [renM] at h
  case rob cells=>exact step h
  all_goals
   simp only [look] at h
   split at h
   ·rename_i hk;cases h;exact ⟨_,List.mem_cons_self,rfl,hk,rfl⟩
   ·exact step h
theorem lB {π:Nat→Nat} :∀ {m:List (Nat × AObj)} {p:Nat × AObj},p∈m→p.2.ro=false→look (renM π m) (π p.1)≠none
 | [],p,h,_=>by cases h
 |(l,o)::r,p,h,hro=>by
  rcases List.mem_cons.1 h with rfl|h
  ·cases o<;>simp only [renM]<;>first|(simp [AObj.ro] at hro;done)|simp [look]
  ·have ih:=lB (π:=π) h hro
   cases o<;>simp only [renM]<;>first|exact ih|(simp only [look];split<;>first|(simp;done)|exact ih)
def nodupM:List (Nat × AObj)→Prop
 | []=>True
 |(l,_)::r=>look r l=none∧nodupM r
theorem aF:∀ {m:List (Nat × AObj)},nodupM m→∀ {p:Nat × AObj},p∈m→look m p.1=some p.2
 | [],_,p,h=>by cases h
 |(i,q)::m,hn,p,h=>by
  rcases List.mem_cons.1 h with rfl|h
  ·simp [look]
  ·have ih:=aF hn.2 h
   simp only [look]
   split
   ·rename_i hi;subst hi;rw [hn.1] at ih;cases ih
   ·exact ih
theorem iw {X:Ctx} {E:Env} {s s':ASt} {a:Act} {w:World} (hE:aA X E s' a w):∀(xs:List Operand) (ts:List Nat),(∀p∈rsOf s xs,get s'.t p.1=p.2)→AVrs w E (evA X.C s xs ts) (xs.map a.eval)
 | [],ts,_=>by cases ts<;>rfl
 |x::xs,ts,h=>by
  have hx:∀ty,aN w E (aev X.C ty s x) (a.eval x):=fun ty=>hE.evs h _ _ (by simp)
  have ht:∀p∈rsOf s xs,get s'.t p.1=p.2:=fun p hp=>h p (by cases x<;>simp [rsOf,hp])
  cases ts with
  |nil=>exact ⟨_,_,rfl,hx 0,iw hE xs [] ht⟩
  |cons t ts=>exact ⟨_,_,rfl,hx t,iw hE xs ts ht⟩
theorem bV {P:Program} {f:FuncId} {fn:Func} {c:Code} (hf:P.funcs[f]? =some fn) (hname:(fn.name== "runtime.NumGoroutine")=false) (hb:fn.body=some c) (args:Array Value) (w:World):
 (callFunc f args).run P w= .ok (.enter f args) w:=by
 have h1:fn.name≠ "runtime.NumGoroutine" :=by simpa using hname
 simp [callFunc,hf,h1,hb]
section
variable {X:Ctx} {o:Oper} {s:ASt} {K:LA→Prop}
structure Over (π:Nat→Nat) (mm m:List (Nat × AObj)) (m':List (Nat × AObj)) (res:AV):Prop where
 hm:∀p∈m,(π p.1,p.2.ren π)∈mm∨∃cells,p.2= .rob cells∧(π p.1, .box (AV.rens π cells))∈mm
 nd:nodupM m
 G7:nodupM m'
 pl:∀p∈m,p.1<20000∧p.2.isNest=false
 G8:∀p∈m',p.1<20000∧p.2.isNest=false
 inj:∀l l',(look m l≠none∨look m' l≠none)→(look m l'≠none∨look m' l'≠none)→π l=π l'→l=l'
 new:∀p∈m',look m p.1=none→π p.1<10000
 ro:∀p∈m',p.2.ro=true→look m p.1=some p.2
 G9:∀p∈m,p.2.ro=true→look m' p.1=some p.2
 He:∀l∈res.ids,look m' l≠none
 Hf:∀p∈m',∀l∈p.2.ids,look m' l≠none
section
variable {π:Nat→Nat} {mm m m':List (Nat × AObj)} {res:AV} {E:Env} {w:World} {s':ASt}
theorem Over.obj (h:Over π mm m m' res) (hg:Good s'.m E w) (hmm:∀p∈mm,look s'.m p.1=some p.2):∀l q,look m l=some q→∃q',look s'.m (π l)=some q'∧(q.ro=false→q'=q.ren π)∧az w (E.pre π) l q:=by
 intro l q hl
 rcases h.hm _ (aB hl) with h0|⟨cells,h1,h2⟩
 ·have:=hmm _ h0
  exact ⟨_,this,fun _=>rfl,(ic (h.pl _ (aB hl)).2).2 (hg.obj _ _ this)⟩
 ·simp only at h1
  subst h1
  have:=hmm _ h2
  exact ⟨_,this,fun h=>by simp [AObj.ro] at h,(ic rfl).2 (show az w E (π l) (.box (AV.rens π cells)) from hg.obj _ _ this)⟩
theorem Over.good (h:Over π mm m m' res) (hg:Good s'.m E w) (hmm:∀p∈mm,look s'.m p.1=some p.2):Good m (E.pre π) w:=by
 have pl:∀ {l o},aD m l=some o→look m l=some o:=fun hl=>(cO (fun p hp=>(h.pl p hp).2) hl).1
 refine ⟨fun l hl=> ?_,fun l l' b hl hl' hb hb'=> ?_,fun l q hl=> ?_,hg.fresh⟩
 ·obtain ⟨q,hq⟩:=Option.ne_none_iff_exists'.1 hl
  exact (h.pl _ (aB hq)).1
 ·obtain ⟨q,hq⟩:=Option.ne_none_iff_exists'.1 hl
  obtain ⟨q',fH⟩:=Option.ne_none_iff_exists'.1 hl'
  have hq:=pl hq
  have fH:=pl fH
  obtain ⟨r,h1,_⟩:=h.obj hg hmm l q hq
  obtain ⟨r',jK,_⟩:=h.obj hg hmm l' q' fH
  exact h.inj l l' (.inl (by simp [hq])) (.inl (by simp [fH])) (hg.inj _ _ b (by simp [hg.aD h1]) (by simp [hg.aD jK]) hb hb')
 ·obtain ⟨q',_,_,h⟩:=h.obj hg hmm l q (pl hl);exact h
end
theorem Post.core (hX:X.Ok) {π:Nat→Nat} {mm m m':List (Nat × AObj)} {res:AV} (ho:Over π mm m m' res) {rs:List (Nat × AV)} {dst:Option Nat} {s':ASt} {E:Env} {a:Act} {w w':World} (hdn:∀d,dst=some d→d<X.n)
 (hE:aA X E s' a w) (hmm:∀p∈mm,look s'.m p.1=some p.2) {v:Value} {E':Env} (hst:wV m (E.pre π) w E' w') (hg':Good m' E' w') (lC:∀l o b,aD m' l=some o→o.ro=false→E'.ρ l=some b→w.heap.size≤b∨sK m (E.pre π) b) (hres:aN w' E' res v):
 ∃E2:Env,aA X E2 ((⟨rs,mm,killM π m m'++killM π m' m,renM π m',dst,res.ren π⟩:LA).app s') (a.put dst v) w'∧E2.z=E'.z∧∀k,look m' k≠none→E2.ρ (π k)=E'.ρ k∧E2.σ (π k)=E'.σ k:=by
 obtain ⟨hm,hnm,kX,gl,nA,hinj,hnew,hro,pK,qZ,nB⟩:=ho
 have zN:=Over.obj (res:=res) ⟨hm,hnm,kX,gl,nA,hinj,hnew,hro,pK,qZ,nB⟩ hE.good hmm
 have pl:∀ {l o},aD m l=some o→look m l=some o:=fun hl=>(cO (fun p hp=>(gl p hp).2) hl).1
 have up:∀ {l o},look m l=some o→aD m l=some o:=fun hl=>by rw [bD (by have:=(gl _ (aB hl)).1;omega)];exact hl
 have up':∀ {l o},look m' l=some o→aD m' l=some o:=fun hl=>by rw [bD (by have:=(nA _ (aB hl)).1;omega)];exact hl
 have zO:∃pick:Nat→Option Nat,(∀k,look m' k≠none→pick (π k)=some k)∧∀l k,pick l=some k→look m' k≠none∧π k=l:=by
  classical
  refine ⟨fun l=>if h:∃k,look m' k≠none∧π k=l then some h.choose else none,fun k hk=> ?_,fun l k hl=> ?_⟩
  ·have h:∃k',look m' k'≠none∧π k'=π k:=⟨k,hk,rfl⟩
   simp only [h,dif_pos,Option.some.injEq]
   have:=h.choose_spec
   exact hinj _ _ (.inr this.1) (.inr hk) this.2
  ·simp only at hl
   split at hl
   ·rename_i h;cases hl;exact h.choose_spec
   ·cases hl
 obtain ⟨pick,hp1,hp2⟩:=zO
 let E2:Env:=⟨fun l=>match pick l with|some k=>E'.ρ k|none=>E.ρ l,fun l=>match pick l with|some k=>E'.σ k|none=>E.σ l,E'.z⟩
 have e1:∀k,look m' k≠none→E2.ρ (π k)=E'.ρ k∧E2.σ (π k)=E'.σ k:=fun k hk=>by simp [E2,hp1 k hk]
 have qz:∀l,look m' l≠none→(E2.pre π).ρ l=E'.ρ l∧(E2.pre π).σ l=E'.σ l:=fun l hl=>e1 l hl
 have q6:∀l,kl (killM π m m'++killM π m' m) l=none→kl (killM π m m') l=none∧kl (killM π m' m) l=none:=by
  intro l hl
  rw [eC] at hl
  split at hl
  ·cases hl
  ·exact ⟨by assumption,hl⟩
 have tA:∀b,sK m (E.pre π) b→∃l0 q0,aD s'.m l0=some q0∧q0.ro=false∧E.ρ l0=some b∧(kl (killM π m m'++killM π m' m) l0≠none∨look (renM π m') l0≠none):=by
  rintro b ⟨l,q,hl,vO,hb⟩
  have hl:=pl hl
  obtain ⟨q',h1,h2,_⟩:=zN l q hl
  refine ⟨π l,q',hE.good.aD h1,by rw [h2 vO,AObj.tr];exact vO,hb, ?_⟩
  cases hq:look m' l with
  |none=>
   left
   rw [eC]
   split
   ·simp
   ·exact j4 (by simp [hl]) hq
  |some r=>
   right
   have Cl:r.ro=false:=by
    cases hr:r.ro with
    |false=>rfl
    |true=>
     have:=hro _ (aB hq) hr
     simp only at this
     rw [hl] at this;cases this
     rw [hr] at vO;cases vO
   exact lB (p:=(l,r)) (aB hq) Cl
 have BF:∀k,look m k≠none∨look m' k≠none→π k<20000:=by
  intro k hk
  by_cases hkm:look m k=none
  ·obtain ⟨q,hq⟩:=Option.ne_none_iff_exists'.1 (hk.resolve_left (by simp [hkm]))
   have:=hnew _ (aB hq) hkm
   simp only at this;omega
  ·obtain ⟨q,hq⟩:=Option.ne_none_iff_exists'.1 hkm
   obtain ⟨q',h1,_⟩:=zN k q hq
   exact hE.good.low _ (by simp [h1])
 have vP:∀l,kl (killM π m m'++killM π m' m) l≠none→l<20000:=by
  intro l hl
  rw [eC] at hl
  split at hl
  ·rename_i y hy
   obtain ⟨k,h1,h2,h3⟩:=iu (k:=l) (by rw [hy];simp)
   rw [← h3];exact BF k (.inr h1)
  ·obtain ⟨k,h1,h2,h3⟩:=iu hl
   rw [← h3];exact BF k (.inl h1)
 refine ⟨E2,hE.app' ⟨rs,mm,killM π m m'++killM π m' m,renM π m',dst,res.ren π⟩ E2 w' v hst.st hst.os hst.tape hst.output hst.size (fun l hl=> ?_) (fun l x hl=> ?_) (fun l hl=> ?_) vP (fun l q hl=> ?_) (fun b hb=> ?_) (fun l q hl=> ?_) (fun l l' b hl hl' hb hb'=> ?_) (fun l b hl hb=> ?_) hg'.fresh ?_ hdn,rfl,e1⟩
 ·
  obtain ⟨k1,k2⟩:=q6 l hl
  simp only [E2]
  cases hpk:pick l with
  |none=>exact ⟨rfl,rfl⟩
  |some k=>
   obtain ⟨h1,h2⟩:=hp2 l k hpk
   subst h2
   have hkm:look m k≠none:=by
    intro hkm
    exact j4 (π:=π) h1 hkm k1
   obtain ⟨q,hq⟩:=Option.ne_none_iff_exists'.1 hkm
   exact hst.wW k (by simp [up hq])
 ·rw [eC] at hl
  split at hl
  ·rename_i y hy;cases hl;exact absurd hy gL
  ·exact absurd hl gL
 ·
  have jr:=hX.low l hl
  simp only [E2]
  cases hpk:pick l with
  |none=>exact ⟨rfl,rfl⟩
  |some k=>
   obtain ⟨h1,h2⟩:=hp2 l k hpk
   subst h2
   by_cases hkm:look m k=none
   ·obtain ⟨q,hq⟩:=Option.ne_none_iff_exists'.1 h1
    have:=hnew _ (aB hq) hkm
    simp only at this;omega
   ·obtain ⟨q,hq⟩:=Option.ne_none_iff_exists'.1 hkm
    exact hst.wW k (by simp [up hq])
 ·obtain ⟨p,h1,h2,h3,rfl⟩:=dw hl
  subst h3
  have hl':=aF kX h1
  exact ⟨BF _ (.inr (by simp [hl'])),by rw [AObj.jZ];exact (nA p h1).2⟩
 ·by_cases zP:sK m (E.pre π) b
  ·exact .inr (tA b zP)
  ·exact .inl (hst.frame b hb zP)
 ·obtain ⟨p,h1,h2,h3,rfl⟩:=dw hl
  subst h3
  have hl':=aF kX h1
  have hn:=(nA p h1).2
  refine (ic hn).1 (az.congr (live:=fun l=>look m' l≠none) (E:=E') (E':=E2.pre π) rfl (fun l hl=>(qz l hl).1) (fun l hl=>(qz l hl).2) hn (by simp [hl']) (nB p h1) (hg'.obj _ _ hl'))
 ·obtain ⟨q,hq⟩:=Option.ne_none_iff_exists'.1 hl
  obtain ⟨q',fH⟩:=Option.ne_none_iff_exists'.1 hl'
  obtain ⟨p,h1,h2,h3,_⟩:=dw hq
  obtain ⟨p',jK,oS,zy,_⟩:=dw fH
  subst h3;subst zy
  have g1:=aF kX h1
  have BE:=aF kX jK
  rw [(e1 _ (by simp [g1])).1] at hb
  rw [(e1 _ (by simp [BE])).1] at hb'
  rw [hg'.inj _ _ b (by simp [up' g1]) (by simp [up' BE]) hb hb']
 ·obtain ⟨q,hq⟩:=Option.ne_none_iff_exists'.1 hl
  obtain ⟨p,h1,h2,h3,_⟩:=dw hq
  subst h3
  have g1:=aF kX h1
  rw [(e1 _ (by simp [g1])).1] at hb
  rcases lC _ _ b (up' g1) h2 hb with h|h
  ·exact .inl h
  ·exact .inr (tA b h)
 ·refine jB.1 (aN.mono (live:=fun l=>look m' l≠none) (E:=E') (E':=E2.pre π) ⟨aj.refl _ _,fun l hl=>(qz l hl).1,fun l hl=>(qz l hl).2⟩ qZ hres)
theorem Post.back (hX:X.Ok) {π:Nat→Nat} {mm m m':List (Nat × AObj)} {res:AV} (ho:Over π mm m m' res) {rs:List (Nat × AV)} {dst:Option Nat} {s':ASt} {E:Env} {a:Act} {w w':World} {e:Ending} (hdn:∀d,dst=some d→d<X.n)
 (hE:aA X E s' a w) (hmm:∀p∈mm,look s'.m p.1=some p.2) (hp:Post m (E.pre π) w res m' e w'):
 ∃v E2,e= .returned v∧aA X E2 ((⟨rs,mm,killM π m m'++killM π m' m,renM π m',dst,res.ren π⟩:LA).app s') (a.put dst v) w':=by
 obtain ⟨v,E',rfl,hst,hg',lC,hres⟩:=hp
 obtain ⟨E2,h,_⟩:=Post.core hX ho (rs:=rs) hdn hE hmm hst hg' lC hres
 exact ⟨v,E2,rfl,h⟩
theorem lD (hX:X.Ok) {c:Call} {fo:Operand} {f:Nat} {first caps as:List AV} (π:Nat→Nat) {A:Env→World→List Value→Prop} {m:List (Nat × AObj)} {res:AV} {m':List (Nat × AObj)} (mm:List (Nat × AObj))
 (hs:Spec X.P f A m res m') (ho:o.op= .call c) (hc:c.callee= .value fo) (hf:aev X.C 0 s fo= .fn f first caps) (has:evA X.C s c.args.toList c.argTypes.toList=as)
 (hmm:∀p∈mm,look s.m p.1=some p.2)
 (hm:∀p∈m,(π p.1,p.2.ren π)∈mm∨∃cells,p.2= .rob cells∧(π p.1, .box (AV.rens π cells))∈mm)
 (hnm:nodupM m) (kX:nodupM m') (gl:∀p∈m,p.1<20000∧p.2.isNest=false) (nA:∀p∈m',p.1<20000∧p.2.isNest=false)
 (hinj:∀l l',(look m l≠none∨look m' l≠none)→(look m l'≠none∨look m' l'≠none)→π l=π l'→l=l')
 (hnew:∀p∈m',look m p.1=none→π p.1<10000)
 (hro:∀p∈m',p.2.ro=true→look m p.1=some p.2) (pK:∀p∈m,p.2.ro=true→look m' p.1=some p.2)
 (qZ:∀l∈res.ids,look m' l≠none) (nB:∀p∈m',∀l∈p.2.ids,look m' l≠none)
 (hA:∀s' E a w,(∀p∈mm,look s'.m p.1=some p.2)→aA X E s' a w→∀vals,AVrs w E (first++as++caps) vals→A (E.pre π) w vals)
 (hK:K ⟨rsOf s (fo::c.args.toList),mm,killM π m m'++killM π m' m,renM π m',o.dst,res.ren π⟩):∃la,ah X o la∧Sat la s∧K la:=by
 refine ⟨_,⟨rfl, ?_⟩,⟨ag s _,hmm⟩,hK⟩
 rintro s' a w hdn dD ⟨E,hE⟩
 have hfo:=hE.evs dD.1 X.C 0 (x:=fo) (by simp)
 rw [hf] at hfo
 obtain ⟨us,vs,hfo,nh,vf⟩:=hfo
 have hargs:=iw (s:=s) hE c.args.toList c.argTypes.toList (fun p hp=>dD.1 p (by cases fo<;>simp [rsOf,hp]))
 rw [has] at hargs
 have nC:AVrs w E (first++as++caps) (us++c.args.toList.map a.eval++vs):=(nh.append hargs).append vf
 obtain ⟨fn,cd,hfn,hname,hbody⟩:=hs.can
 have hrun:(execOp a.eval o).run X.P w= .ok (.enter f (us++c.args.toList.map a.eval++vs).toArray) w:=by
  have h1:us.toArray++c.args.map a.eval++vs.toArray=(us++c.args.toList.map a.eval++vs).toArray:=by
   apply Array.toList_inj.1;simp
  have h2:=bV (P:=X.P) hfn hname hbody (us.toArray++c.args.map a.eval++vs.toArray) w
  rw [h1] at h2
  simp only [execOp,ho,resolve,hc,hfo,Deferred.ofValue,Sem.run_bind,Sem.run_pure,Result.andThen_ok,invoke]
  rw [h1];exact h2
 have ho:Over π mm m m' res:=⟨hm,hnm,kX,gl,nA,hinj,hnew,hro,pK,qZ,nB⟩
 unfold Oper.wp
 rw [hrun]
 refine (hs.calls (E.pre π) w _ (ho.good hE.good dD.2) (hA s' E a w dD.2 hE _ nC)).mono ?_
 rintro e w' hp
 obtain ⟨v,E2,rfl,BG⟩:=hp.back hX ho hdn hE dD.2
 exact ⟨E2,BG⟩
end
end Go.Ab
end
section
namespace Go.Ab
inductive Key where
 |slot (t:Nat)
 |obj (l:Nat)
 |cell (l q:Nat)
 deriving DecidableEq
inductive KV where
 |av (a:AV)
 |ob (o:Option AObj)
def aV (o:Option AObj) (q:Nat):KV:=match o with
 |some (.box cells)|some (.rob cells)=>match cells[q]? with|some v=> .av v|none=> .ob none
 |_=> .ob none
def an (s:ASt):Key→KV
 | .slot t=> .av (get s.t t)
 | .obj l=> .ob (look s.m l)
 | .cell l q=>if q<16 then aV (look s.m l) q else .ob none
def KV.sub (k:List (Nat × Option D)):KV→KV
 | .av a=> .av (a.sub k)
 | .ob o=> .ob (o.map (AObj.sub k))
def KV.ids:KV→List Nat
 | .av a=>a.ids
 | .ob (some o)=>o.ids
 | .ob none=> []
structure Rec where
 la:LA
 hs:List (Nat × AV)
 hm:List (Nat × AObj)
 cs:List (Nat × Nat × AV)
def Rec.rs (r:Rec):List (Key × KV):=(r.la.rs++r.hs).map (fun p=>(.slot p.1, .av p.2))++(r.la.ms++r.hm).map (fun p=>(.obj p.1, .ob (some p.2)))++r.cs.map (fun p=>(.cell p.1 p.2.1, .av p.2.2))
def Rec.fG (r:Rec):List Key:=(match r.la.dst with|some d=> [Key.slot d]|none=> [])++r.hs.map (fun p=> .slot p.1)++r.la.b8.map (fun p=> .obj p.1)++r.la.kill.map (fun p=> .obj p.1)++r.hm.map (fun p=> .obj p.1)
def Rec.aK (r:Rec):List Nat:=r.la.kill.map (·.1)
def meets (a b:List Nat):Bool:=a.any fun x=>b.contains x
def Rec.xU (r:Rec):List Key:=(r.la.b8.map (·.1)++r.aK).flatMap (fun l=>(List.range 16).map (Key.cell l))++r.hm.flatMap (fun p=>((List.range 16).filter fun q=>meets (aV (some p.2) q).ids r.aK).map (Key.cell p.1))
def Rec.wr (r:Rec):List Key:=r.fG++r.xU
def Rec.names (r:Rec):List Nat:=(r.rs.flatMap fun p=>p.2.ids)++r.la.v.ids++(r.la.b8.flatMap fun p=>p.2.ids)
def cD (a b:List Key):Bool:=a.any fun x=>b.contains x
def Rec.nD (r:Rec):Key→Bool
 | .cell l q=>(r.la.b8.any fun p=>p.1==l)||r.aK.contains l||r.hm.any fun p=>p.1==l&&meets (aV (some p.2) q).ids r.aK
 |k=>r.fG.contains k
def bI (i j:Rec):Bool:=
 (j.rs.any fun p=>i.nD p.1)||cD i.fG j.fG||(i.rs.any fun p=>j.nD p.1)||meets i.aK j.names||meets j.aK i.names
def dS (o:Oper) (j:Nat):Bool:=o.after.toList.any fun e=>Region.binds .any e&&e.on==j
def eW (l:List Oper):Nat→Oper→Nat→Bool
 |0,o,j=>dS o j
 |n+1,o,j=>dS o j||o.after.toList.any fun e=>Region.binds .any e&&decide (j<e.on)&&match l[e.on]? with|some o'=>eW l n o' j|none=>false
def bF (l:List Oper) (log:List Rec):List (Nat × Oper × Rec)→Bool
 | []=>true
 |(j,o,r)::rest=>(log.zipIdx.all fun p=>decide (j≤p.2)||eW l 4 o p.2|| !(bI p.1 r)||eW l 9 o p.2)&&(o.after.toList.all fun e=> !(Region.binds .any e)||decide (e.on<j))&&bF l log rest
def jh (l:List Oper) (log:List Rec):Bool:=log.length==l.length&&bF l log ((l.zip log).zipIdx.map fun p=>(p.2,p.1.1,p.1.2))
inductive iy:List Rec→ASt→ASt→Prop
 |nil (s):iy [] s s
 |cons {r rs s s' e} (dD:∀p∈r.rs,an s p.1=p.2) (hs:∀k,an s' k=an (r.la.app s) k) (hw:∀k,k∉r.wr→an s' k=an s k∧∀x∈(an s k).ids,x∉r.aK) (h:iy rs s' e):iy (r::rs) s e
mutual
theorem AV.dV {k:List (Nat × Option D)} :∀ {a:AV},(∀x∈a.ids,kl k x=none)→a.sub k=a
 | .cB,_=>rfl
 | .nil _,_=>rfl
 | .emp _,_=>rfl
 | .d _,_=>rfl
 | .cM _,_=>rfl
 | .mref l,h=>by simp only [AV.sub,h l (by simp [AV.ids])]
 | .ref l,h=>by simp only [AV.sub,h l (by simp [AV.ids])]
 | .ptr l o,h=>by simp only [AV.sub,h l (by simp [AV.ids])]
 | .ep l sz i o,h=>by simp only [AV.sub,h l (by simp [AV.ids])]
 | .vw l sz a,h=>by simp only [AV.sub,h l (by simp [AV.ids])]
 | .agg vs,h=>by simp only [AV.sub,AV.eD (fun x hx=>h x (by simpa [AV.ids] using hx))]
 | .tup vs,h=>by simp only [AV.sub,AV.eD (fun x hx=>h x (by simpa [AV.ids] using hx))]
 | .fn f us vs,h=>by simp only [AV.sub,AV.eD (as:=us) (fun x hx=>h x (by simp [AV.ids,hx])),AV.eD (as:=vs) (fun x hx=>h x (by simp [AV.ids,hx]))]
theorem AV.eD {k:List (Nat × Option D)} :∀ {as:List AV},(∀x∈AV.idss as,kl k x=none)→AV.subs k as=as
 | [],_=>rfl
 |a::as,h=>by simp only [AV.subs,AV.dV (a:=a) (fun x hx=>h x (by simp [AV.idss,hx])),AV.eD (as:=as) (fun x hx=>h x (by simp [AV.idss,hx]))]
end
mutual
theorem AV.fc {k:List (Nat × Option D)} :∀ {a:AV} {x:Nat},x∈(a.sub k).ids→x∈a.ids
 | .cB,_,h=>h
 | .nil _,_,h=>h
 | .emp _,_,h=>h
 | .d _,_,h=>h
 | .cM _,_,h=>h
 | .mref l,x,h=>by
   simp only [AV.sub] at h
   split at h<;>first|exact h|simp [AV.ids] at h
 | .ref l,x,h=>by
   simp only [AV.sub] at h
   split at h<;>first|exact h|simp [AV.ids] at h
 | .ptr l o,x,h=>by
   simp only [AV.sub] at h
   split at h<;>first|exact h|simp [AV.ids] at h
 | .ep l sz i o,x,h=>by
   simp only [AV.sub] at h
   split at h<;>first|exact h|simp [AV.ids] at h
 | .vw l sz a,x,h=>by
   simp only [AV.sub] at h
   split at h<;>first|exact h|simp [AV.ids] at h
 | .agg vs,x,h=>by simp only [AV.sub,AV.ids] at h ⊢;exact AV.eH h
 | .tup vs,x,h=>by simp only [AV.sub,AV.ids] at h ⊢;exact AV.eH h
 | .fn f us vs,x,h=>by
   simp only [AV.sub,AV.ids,List.mem_append] at h ⊢
   exact h.imp AV.eH AV.eH
theorem AV.eH {k:List (Nat × Option D)} :∀ {as:List AV} {x:Nat},x∈AV.idss (AV.subs k as)→x∈AV.idss as
 | [],_,h=>h
 |a::as,x,h=>by
  simp only [AV.subs,AV.idss,List.mem_append] at h ⊢
  exact h.imp AV.fc AV.eH
end
theorem AObj.dV {k:List (Nat × Option D)} {o:AObj} (h:∀x∈o.ids,kl k x=none):o.sub k=o:=by
 cases o<;>first|(simp only [AObj.sub];done)|(simp only [AObj.sub];rw [AV.eD];exact h)|skip
 rename_i e rows i g
 cases g with
 |none=>rfl
 |some g=>simp only [AObj.sub,h g (by simp [AObj.ids])]
theorem AObj.fc {k:List (Nat × Option D)} {o:AObj} {x:Nat} (h:x∈(o.sub k).ids):x∈o.ids:=by
 cases o<;>first|(simp only [AObj.sub,AObj.ids] at h ⊢;first|exact AV.eH h|exact h)|skip
 rename_i e rows i g
 cases g with
 |none=>exact h
 |some g=>
  simp only [AObj.sub] at h
  split at h<;>first|exact h|simp [AObj.ids] at h
theorem fe {k:List (Nat × Option D)} :∀ {x:Nat},x∉k.map (·.1)→kl k x=none:=by
 induction k with
 |nil=>intro x _;rfl
 |cons p k ih=>
  intro x h
  obtain ⟨i,y⟩:=p
  simp only [List.map_cons,List.mem_cons,not_or] at h
  simp only [kl]
  rw [if_neg (fun e=>h.1 e.symm)]
  exact ih h.2
theorem KV.dV {k:List (Nat × Option D)} {v:KV} (h:∀x∈v.ids,x∉k.map (·.1)):v.sub k=v:=by
 cases v with
 |av a=>simp only [KV.sub,AV.dV (fun x hx=>fe (h x hx))]
 |ob o=>
  cases o with
  |none=>rfl
  |some o=>simp only [KV.sub,Option.map_some,AObj.dV (fun x hx=>fe (h x hx))]
theorem KV.fc {k:List (Nat × Option D)} {v:KV} {x:Nat} (h:x∈(v.sub k).ids):x∈v.ids:=by
 cases v with
 |av a=>exact AV.fc h
 |ob o=>cases o with
  |none=>exact h
  |some o=>exact AObj.fc h
theorem ff:∀ {m:List (Nat × AObj)} {l:Nat},l∉m.map (·.1)→look m l=none
 | [],l,_=>rfl
 |(i,o)::m,l,h=>by
  simp only [List.map_cons,List.mem_cons,not_or] at h
  simp only [look]
  rw [if_neg (fun e=>h.1 e.symm)]
  exact ff h.2
theorem dF {a b:List Nat} {x:Nat} (ha:x∈a) (hb:x∈b):meets a b=true:=by
 unfold meets;rw [List.any_eq_true];exact ⟨x,ha,by simpa using hb⟩
theorem j5 {r:Rec} {k:Key} (h:k∈r.xU):∃l q,k= .cell l q∧q<16∧Key.obj l∈r.fG:=by
 simp only [Rec.xU,List.mem_append,List.mem_flatMap,List.mem_map,List.mem_range,List.mem_filter] at h
 rcases h with ⟨l,hl,q,hq,rfl⟩|⟨p,hp,q,⟨hq,_⟩,rfl⟩
 ·refine ⟨l,q,rfl,hq, ?_⟩
  simp only [Rec.fG,List.mem_append,List.mem_map]
  rcases hl with ⟨p,hp,rfl⟩|hl
  ·exact .inl (.inl (.inr ⟨p,hp,rfl⟩))
  ·obtain ⟨p,hp,rfl⟩:=List.mem_map.1 hl
   exact .inl (.inr ⟨p,hp,rfl⟩)
 ·refine ⟨p.1,q,rfl,hq, ?_⟩
  simp only [Rec.fG,List.mem_append,List.mem_map]
  exact .inr ⟨p,hp,rfl⟩
theorem iz {r:Rec} {t:Nat} (h:Key.slot t∈r.wr):Key.slot t∈r.fG:=by
 rcases List.mem_append.1 h with h|h
 ·exact h
 ·obtain ⟨l,q,e,_⟩:=j5 h;cases e
theorem j6 {r:Rec} {l:Nat} (h:Key.obj l∈r.wr):Key.obj l∈r.fG:=by
 rcases List.mem_append.1 h with h|h
 ·exact h
 ·obtain ⟨l',q,e,_⟩:=j5 h;cases e
theorem jC {r:Rec} {l q:Nat} (h:Key.cell l q∈r.wr):Key.obj l∈r.fG:=by
 rcases List.mem_append.1 h with h|h
 ·simp only [Rec.fG,List.mem_append,List.mem_map] at h
  rcases h with (((h|⟨p,_,e⟩)|⟨p,_,e⟩)|⟨p,_,e⟩)|⟨p,_,e⟩
  ·split at h<;>simp at h
  ·cases e
  ·cases e
  ·cases e
  ·cases e
 ·obtain ⟨l',q',e,_,h2⟩:=j5 h;cases e;exact h2
theorem zQ {r:Rec} {k:Key} (h:k∈r.wr):r.nD k=true:=by
 cases k with
 |slot t=>simpa [Rec.nD] using iz h
 |obj l=>simpa [Rec.nD] using j6 h
 |cell l q=>
  rcases List.mem_append.1 h with h|h
  ·exfalso
   simp only [Rec.fG,List.mem_append,List.mem_map] at h
   rcases h with (((h|⟨p,_,e⟩)|⟨p,_,e⟩)|⟨p,_,e⟩)|⟨p,_,e⟩
   ·split at h<;>simp at h
   ·cases e
   ·cases e
   ·cases e
   ·cases e
  ·simp only [Rec.xU,List.mem_append,List.mem_flatMap,List.mem_map,List.mem_range,List.mem_filter] at h
   simp only [Rec.nD,Bool.or_eq_true,List.any_eq_true]
   rcases h with ⟨l',hl,q',hq,e⟩|⟨p,hp,q',⟨hq,hm⟩,e⟩
   ·cases e
    rcases hl with ⟨p,hp,rfl⟩|hl
    ·exact .inl (.inl ⟨p,hp,by simp⟩)
    ·exact .inl (.inr (by simpa using hl))
   ·cases e
    exact .inr ⟨p,hp,by simp [hm]⟩
theorem nE {a b:List Key} {x:Key} (ha:x∈a) (hb:x∈b):cD a b=true:=by
 unfold cD;rw [List.any_eq_true];exact ⟨x,ha,by simpa using hb⟩
theorem tB {i j:Rec} {k:Key} {v:KV} (h:k∈i.wr) (h2:(k,v)∈j.rs):bI i j=true:=by
 simp only [bI,Bool.or_eq_true,List.any_eq_true]
 exact .inl (.inl (.inl (.inl ⟨_,h2,zQ h⟩)))
theorem tC {i j:Rec} {k:Key} {v:KV} (h:(k,v)∈i.rs) (h2:k∈j.wr):bI i j=true:=by
 simp only [bI,Bool.or_eq_true,List.any_eq_true]
 exact .inl (.inl (.inr ⟨_,h,zQ h2⟩))
theorem tD {i j:Rec} {k:Key} (h:k∈i.wr) (h2:k∈j.wr):bI i j=true:=by
 have:∃k,k∈i.fG∧k∈j.fG:=by
  cases k with
  |slot t=>exact ⟨_,iz h,iz h2⟩
  |obj l=>exact ⟨_,j6 h,j6 h2⟩
  |cell l q=>exact ⟨_,jC h,jC h2⟩
 obtain ⟨k,g1,g2⟩:=this
 simp only [bI,Bool.or_eq_true]
 exact .inl (.inl (.inl (.inr (nE g1 g2))))
theorem tE {i j:Rec} {x:Nat} (h:x∈i.aK) (h2:x∈j.names):bI i j=true:=by
 simp only [bI,Bool.or_eq_true]
 exact .inl (.inr (dF h h2))
theorem tF {i j:Rec} {x:Nat} (h:x∈j.aK) (h2:x∈i.names):bI i j=true:=by
 simp only [bI,Bool.or_eq_true]
 exact .inr (dF h h2)
theorem AV.j7 {k:List (Nat × Option D)} :∀ {as:List AV} {q:Nat},(AV.subs k as)[q]? =(as[q]?).map (AV.sub k)
 | [],q=>by simp [AV.subs]
 |a::as,0=>by simp [AV.subs]
 |a::as,q+1=>by simp [AV.subs,AV.j7 (as:=as)]
theorem pL {k:List (Nat × Option D)} {o:Option AObj} {q:Nat} :aV (o.map (AObj.sub k)) q=(aV o q).sub k:=by
 cases o with
 |none=>rfl
 |some o=>
  cases o with
  |box cells=>simp only [Option.map_some,AObj.sub,aV,AV.j7];cases cells[q]? <;>rfl
  |rob cells=>simp only [Option.map_some,AObj.sub,aV,AV.j7];cases cells[q]? <;>rfl
  |orh e rows i g=>
   cases g with
   |none=>rfl
   |some g'=>simp only [Option.map_some,AObj.sub];split<;>rfl
  |_=>rfl
theorem AV.nF {as:List AV} {q x:Nat} {v:AV} (h:as[q]? =some v) (hx:x∈v.ids):x∈AV.idss as:=by
 induction as generalizing q with
 |nil=>simp at h
 |cons a as ih=>
  simp only [AV.idss,List.mem_append]
  cases q with
  |zero=>simp at h;subst h;exact .inl hx
  |succ q=>exact .inr (ih (by simpa using h))
theorem j8 {o:Option AObj} {q x:Nat} (h:x∈(aV o q).ids):∃o',o=some o'∧x∈o'.ids:=by
 cases o with
 |none=>simp [aV,KV.ids] at h
 |some o=>
  refine ⟨o,rfl, ?_⟩
  unfold aV at h
  split at h
  ·rename_i cells e
   cases e
   split at h
   ·rename_i v hv;exact AV.nF hv h
   ·simp [KV.ids] at h
  ·rename_i cells e
   cases e
   split at h
   ·rename_i v hv;exact AV.nF hv h
   ·simp [KV.ids] at h
  ·simp [KV.ids] at h
theorem j9 {r:Rec} {s:ASt} {k:Key} (h:k∉r.wr):an (r.la.app s) k=(an s k).sub r.la.kill:=by
 have hm:(r.la.app s).m=putM r.la.b8 (s.kill r.la.kill).m:=by unfold LA.app ASt.put;split<;>rfl
 have hw:=h
 have h:k∉r.fG:=fun h'=>h (List.mem_append.2 (.inl h'))
 simp only [Rec.fG,List.mem_append,List.mem_map,not_or,not_exists,not_and] at h
 obtain ⟨⟨⟨⟨h1,_⟩,h3⟩,h4⟩,_⟩:=h
 cases k with
 |cell l q=>
  simp only [an]
  by_cases hq:q<16
  ·rw [if_pos hq,if_pos hq]
   have hnot:l∉r.la.b8.map (·.1)∧l∉r.la.kill.map (·.1):=by
    constructor
    ·intro hl
     refine hw (List.mem_append.2 (.inr ?_))
     simp only [Rec.xU,List.mem_append,List.mem_flatMap,List.mem_map,List.mem_range]
     exact .inl ⟨l, .inl (by simpa using hl),q,hq,rfl⟩
    ·intro hl
     refine hw (List.mem_append.2 (.inr ?_))
     simp only [Rec.xU,List.mem_append,List.mem_flatMap,List.mem_map,List.mem_range]
     exact .inl ⟨l, .inr hl,q,hq,rfl⟩
   rw [hm,bn,ff hnot.1,bQ,fe hnot.2]
   simp only [if_true]
   exact pL
  ·rw [if_neg hq,if_neg hq];rfl
 |slot t=>
  simp only [an,KV.sub]
  congr 1
  unfold LA.app ASt.put
  split
  ·rename_i d hd
   simp only [hd,List.mem_singleton,Key.slot.injEq] at h1
   simp only [get]
   rw [if_neg (fun e=>h1 e.symm),bM]
  ·exact bM _ _ _
 |obj l=>
  simp only [an,KV.sub]
  congr 1
  rw [hm,bn,ff (fun hm=>by obtain ⟨p,hp,gl⟩:=List.mem_map.1 hm;exact h3 p hp (by rw [gl])),bQ,fe (fun hm=>by obtain ⟨p,hp,gl⟩:=List.mem_map.1 hm;exact h4 p hp (by rw [gl]))]
  simp
theorem fh {r:Rec} {s s':ASt} (h:∀p∈r.rs,an s p.1=p.2) (h':∀p∈r.rs,an s' p.1=p.2) {k:Key} (hk:k∈r.fG):an (r.la.app s) k=an (r.la.app s') k:=by
 have hm:∀s:ASt,(r.la.app s).m=putM r.la.b8 (s.kill r.la.kill).m:=fun s=>by unfold LA.app ASt.put;split<;>rfl
 have same:∀p∈r.rs,an s p.1=an s' p.1:=fun p hp=>(h p hp).trans (h' p hp).symm
 cases k with
 |cell l q=>
  exfalso
  simp only [Rec.fG,List.mem_append,List.mem_map] at hk
  rcases hk with (((hk|⟨p,_,e⟩)|⟨p,_,e⟩)|⟨p,_,e⟩)|⟨p,_,e⟩
  ·split at hk<;>simp at hk
  ·cases e
  ·cases e
  ·cases e
  ·cases e
 |slot t=>
  simp only [an]
  congr 1
  by_cases hd:r.la.dst=some t
  ·unfold LA.app ASt.put
   simp [hd,get]
  ·have hin:∃v,(Key.slot t,KV.av v)∈r.rs:=by
    simp only [Rec.fG,List.mem_append,List.mem_map] at hk
    rcases hk with (((hk|⟨p,hp,hpt⟩)|⟨p,hp,hpt⟩)|⟨p,hp,hpt⟩)|⟨p,hp,hpt⟩
    ·split at hk
     ·rename_i d hd'
      simp only [List.mem_singleton,Key.slot.injEq] at hk
      subst hk;exact absurd hd' hd
     ·simp at hk
    ·simp only [Key.slot.injEq] at hpt
     refine ⟨p.2, ?_⟩
     simp only [Rec.rs,List.mem_append,List.mem_map]
     exact .inl (.inl ⟨p, .inr hp,by rw [hpt]⟩)
    ·cases hpt
    ·cases hpt
    ·cases hpt
   obtain ⟨v,hv⟩:=hin
   have hsame:=same _ hv
   simp only [an,KV.av.injEq] at hsame
   unfold LA.app ASt.put
   cases hq:r.la.dst with
   |none=>simp only [bM,hsame]
   |some d=>
    have hdt:d≠t:=fun e=>hd (by rw [hq,e])
    simp only [get,hdt,if_false,bM,hsame]
 |obj l=>
  simp only [an]
  congr 1
  rw [hm,hm,bn,bn]
  cases hu:look r.la.b8 l with
  |some o=>rfl
  |none=>
   simp only [bQ]
   by_cases bp:kl r.la.kill l=none
   ·simp only [bp,if_true]
    have hin:∃v,(Key.obj l,v)∈r.rs:=by
     simp only [Rec.fG,List.mem_append,List.mem_map] at hk
     rcases hk with (((hk|⟨p,hp,hpt⟩)|⟨p,hp,hpt⟩)|⟨p,hp,hpt⟩)|⟨p,hp,hpt⟩
     ·split at hk
      ·simp at hk
      ·simp at hk
     ·cases hpt
     ·exfalso
      simp only [Key.obj.injEq] at hpt
      have:∀(m:List (Nat × AObj)),p∈m→look m p.1≠none:=by
       intro m
       induction m with
       |nil=>intro h;cases h
       |cons q m ih=>
        intro h
        obtain ⟨i,o⟩:=q
        simp only [look]
        rcases List.mem_cons.1 h with rfl|h
        ·simp
        ·split
         ·simp
         ·exact ih h
      exact this _ hp (by rw [hpt];exact hu)
     ·exfalso
      simp only [Key.obj.injEq] at hpt
      have:∀(m:List (Nat × Option D)),p∈m→kl m p.1≠none:=by
       intro m
       induction m with
       |nil=>intro h;cases h
       |cons q m ih=>
        intro h
        obtain ⟨i,o⟩:=q
        simp only [kl]
        rcases List.mem_cons.1 h with rfl|h
        ·simp
        ·split
         ·simp
         ·exact ih h
      exact this _ hp (by rw [hpt];exact bp)
     ·simp only [Key.obj.injEq] at hpt
      refine ⟨.ob (some p.2), ?_⟩
      simp only [Rec.rs,List.mem_append,List.mem_map]
      exact .inl (.inr ⟨p, .inr hp,by rw [hpt]⟩)
    obtain ⟨v,hv⟩:=hin
    have hsame:=same _ hv
    simp only [an,KV.ob.injEq] at hsame
    rw [hsame]
   ·simp only [bp,if_false]
theorem nG {r:Rec} {s s':ASt} (h:∀p∈r.rs,an s p.1=p.2) (h':∀p∈r.rs,an s' p.1=p.2) {k:Key} (hk:k∈r.wr):an (r.la.app s) k=an (r.la.app s') k:=by
 cases k with
 |slot t=>exact fh h h' (iz hk)
 |obj l=>exact fh h h' (j6 hk)
 |cell l q=>
  have:=fh h h' (jC hk)
  simp only [an,KV.ob.injEq] at this ⊢
  rw [this]
end Go.Ab
end
section
namespace Go.Ab
theorem iA {l:List Oper} {log:List Rec} :∀ {q:List (Nat × Oper × Rec)},bF l log q=true→∀t∈q,
 (∀i r,log[i]? =some r→i<t.1→bI r t.2.2=true→∃n,eW l n t.2.1 i=true)∧∀e∈t.2.1.after.toList,Region.binds .any e=true→e.on<t.1
 | [],_,t,ht=>by cases ht
 |(j,o,r)::rest,h,t,ht=>by
  simp only [bF,Bool.and_eq_true] at h
  obtain ⟨⟨h1,h2⟩,h3⟩:=h
  rcases List.mem_cons.1 ht with rfl|ht
  ·refine ⟨fun i q hq hi hc=> ?_,fun e he hb=> ?_⟩
   ·rw [List.all_eq_true] at h1
    have:=h1 (q,i) (by
     rw [List.mem_iff_getElem?]
     exact ⟨i,by simp [List.getElem?_zipIdx,hq]⟩)
    simp only [Bool.or_eq_true,decide_eq_true_eq,Bool.not_eq_true'] at this
    rcases this with ((h|h)|h)|h
    ·simp only at hi;omega
    ·exact ⟨4,h⟩
    ·rw [hc] at h;cases h
    ·exact ⟨9,h⟩
   ·rw [List.all_eq_true] at h2
    have:=h2 e he
    simp only [hb,Bool.not_true,Bool.false_or,decide_eq_true_eq] at this
    exact this
  ·exact iA h3 t ht
theorem nH {l:List Oper} {log:List Rec} (h:jh l log=true):log.length=l.length∧
 (∀(i j:Nat) ri rj o,log[i]? =some ri→log[j]? =some rj→l[j]? =some o→i<j→bI ri rj=true→∃n,eW l n o i=true)∧
 ∀(j:Nat) o,l[j]? =some o→∀e∈o.after.toList,Region.binds .any e=true→e.on<j:=by
 simp only [jh,Bool.and_eq_true,beq_iff_eq] at h
 obtain ⟨h1,h2⟩:=h
 have hs:=iA h2
 have mem:∀(j:Nat) o r,l[j]? =some o→log[j]? =some r→(j,o,r)∈((l.zip log).zipIdx.map fun p=>(p.2,p.1.1,p.1.2)):=by
  intro j o r ho hr
  rw [List.mem_map]
  refine ⟨((o,r),j), ?_,rfl⟩
  rw [List.mem_iff_getElem?]
  exact ⟨j,by simp [List.getElem?_zipIdx,List.getElem?_zip_eq_some,ho,hr]⟩
 refine ⟨h1,fun i j ri rj o hi hj ho hij hc=>(hs _ (mem j o rj ho hj)).1 i ri hi hij hc,fun j o ho e he hb=> ?_⟩
 have hjl:j<log.length:=by rw [h1];exact (List.getElem?_eq_some_iff.1 ho).1
 exact (hs _ (mem j o log[j] ho (List.getElem?_eq_getElem hjl))).2 e he hb
theorem iy.states:∀ {log:List Rec} {s e:ASt},iy log s e→∃st:Nat→ASt,st 0=s∧st log.length=e∧∀i r,log[i]? =some r→
 (∀p∈r.rs,an (st i) p.1=p.2)∧(∀k,an (st (i+1)) k=an (r.la.app (st i)) k)∧∀k,k∉r.wr→an (st (i+1)) k=an (st i) k∧∀x∈(an (st i) k).ids,x∉r.aK
 | [],s,e,h=>by cases h;exact ⟨fun _=>s,rfl,rfl,fun i r h=>by simp at h⟩
 |r::log,s,e,h=>by
  cases h with
  |cons dD hs hw h=>
   rename_i s'
   obtain ⟨st,h0,h1,h2⟩:=h.states
   refine ⟨fun i=>match i with|0=>s|i+1=>st i,rfl,h1,fun i q hq=> ?_⟩
   cases i with
   |zero=>
    simp only [List.getElem?_cons_zero,Option.some.injEq] at hq
    subst hq
    simp only [h0]
    exact ⟨dD,hs,hw⟩
   |succ i=>exact h2 i q (by simpa using hq)
theorem mu {r:Rec} {s:ASt} (h:∀p∈r.rs,an s p.1=p.2) {k:Key} (hk:k∈r.fG) {x:Nat} (hx:x∈(an (r.la.app s) k).ids):x∈r.names:=by
 have zR:∀p∈r.rs,∀x∈p.2.ids,x∈r.names:=by
  intro p hp x hx
  simp only [Rec.names,List.mem_append,List.mem_flatMap]
  exact .inl (.inl ⟨p,hp,hx⟩)
 cases k with
 |cell l q=>
  exfalso
  simp only [Rec.fG,List.mem_append,List.mem_map] at hk
  rcases hk with (((hk|⟨p,_,e⟩)|⟨p,_,e⟩)|⟨p,_,e⟩)|⟨p,_,e⟩
  ·split at hk<;>simp at hk
  ·cases e
  ·cases e
  ·cases e
  ·cases e
 |slot t=>
  by_cases hd:r.la.dst=some t
  ·have:an (r.la.app s) (.slot t)= .av r.la.v:=by
    simp only [an]
    unfold LA.app ASt.put
    simp [hd,get]
   rw [this] at hx
   simp only [Rec.names,List.mem_append]
   exact .inl (.inr hx)
  ·have hin:∃v,(Key.slot t,KV.av v)∈r.rs:=by
    simp only [Rec.fG,List.mem_append,List.mem_map] at hk
    rcases hk with (((hk|⟨p,hp,hpt⟩)|⟨p,hp,hpt⟩)|⟨p,hp,hpt⟩)|⟨p,hp,hpt⟩
    ·split at hk
     ·rename_i d hd'
      simp only [List.mem_singleton,Key.slot.injEq] at hk
      subst hk;exact absurd hd' hd
     ·simp at hk
    ·simp only [Key.slot.injEq] at hpt
     refine ⟨p.2, ?_⟩
     simp only [Rec.rs,List.mem_append,List.mem_map]
     exact .inl (.inl ⟨p, .inr hp,by rw [hpt]⟩)
    ·cases hpt
    ·cases hpt
    ·cases hpt
   obtain ⟨v,hv⟩:=hin
   refine zR _ hv x ?_
   have hsame:=h _ hv
   simp only [an,KV.av.injEq] at hsame
   have:an (r.la.app s) (.slot t)= .av ((get s.t t).sub r.la.kill):=by
    simp only [an]
    unfold LA.app ASt.put
    cases hq:r.la.dst with
    |none=>simp only [bM]
    |some d=>
     have hdt:d≠t:=fun e=>hd (by rw [hq,e])
     simp only [get,hdt,if_false,bM]
   rw [this,hsame] at hx
   exact AV.fc hx
 |obj l=>
  have hm:(r.la.app s).m=putM r.la.b8 (s.kill r.la.kill).m:=by unfold LA.app ASt.put;split<;>rfl
  have hval:an (r.la.app s) (.obj l)= .ob (match look r.la.b8 l with|some o=>some o|none=>if kl r.la.kill l=none then (look s.m l).map (AObj.sub r.la.kill) else none):=by
   simp only [an];rw [hm,bn,bQ];cases look r.la.b8 l<;>rfl
  rw [hval] at hx
  cases hu:look r.la.b8 l with
  |some o=>
   simp only [hu,KV.ids] at hx
   simp only [Rec.names,List.mem_append,List.mem_flatMap]
   exact .inr ⟨(l,o),aB hu,hx⟩
  |none=>
   by_cases bp:kl r.la.kill l=none
   ·simp only [hu,bp,if_true] at hx
    have hin:∃o,(Key.obj l,KV.ob (some o))∈r.rs:=by
     simp only [Rec.fG,List.mem_append,List.mem_map] at hk
     rcases hk with (((hk|⟨p,hp,hpt⟩)|⟨p,hp,hpt⟩)|⟨p,hp,hpt⟩)|⟨p,hp,hpt⟩
     ·split at hk<;>simp at hk
     ·cases hpt
     ·exfalso
      simp only [Key.obj.injEq] at hpt
      subst hpt
      have:∀(m:List (Nat × AObj)),p∈m→look m p.1≠none:=by
       intro m
       induction m with
       |nil=>intro h;cases h
       |cons q m ih=>
        intro h
        obtain ⟨i,o⟩:=q
        simp only [look]
        rcases List.mem_cons.1 h with rfl|h
        ·simp
        ·split
         ·simp
         ·exact ih h
      exact this _ hp hu
     ·exfalso
      simp only [Key.obj.injEq] at hpt
      subst hpt
      have:∀(m:List (Nat × Option D)),p∈m→kl m p.1≠none:=by
       intro m
       induction m with
       |nil=>intro h;cases h
       |cons q m ih=>
        intro h
        obtain ⟨i,o⟩:=q
        simp only [kl]
        rcases List.mem_cons.1 h with rfl|h
        ·simp
        ·split
         ·simp
         ·exact ih h
      exact this _ hp bp
     ·simp only [Key.obj.injEq] at hpt
      refine ⟨p.2, ?_⟩
      simp only [Rec.rs,List.mem_append,List.mem_map]
      exact .inl (.inr ⟨p, .inr hp,by rw [hpt]⟩)
    obtain ⟨o,ho⟩:=hin
    have hsame:=h _ ho
    simp only [an,KV.ob.injEq] at hsame
    simp only [hsame,Option.map_some,KV.ids] at hx
    exact zR _ ho x (AObj.fc hx)
   ·simp [hu,bp,KV.ids] at hx
theorem xV {r:Rec} {s:ASt} (h:∀p∈r.rs,an s p.1=p.2) {k:Key} (hk:k∈r.wr) {x:Nat} (hx:x∈(an (r.la.app s) k).ids):x∈r.names:=by
 cases k with
 |slot t=>exact mu h (iz hk) hx
 |obj l=>exact mu h (j6 hk) hx
 |cell l q=>
  refine mu h (jC hk) ?_
  simp only [an] at hx ⊢
  split at hx
  ·obtain ⟨o,ho,xW⟩:=j8 hx
   rw [ho];exact xW
  ·simp [KV.ids] at hx
section
variable {l:List Oper} {log:List Rec} {st:Nat→ASt}
def Inv (log:List Rec) (st:Nat→ASt) (done:Nat→Prop) (s:ASt):Prop:=∀k,k≤log.length→¬done k→∀(key:Key) (v:KV),
 ((∃r,log[k]? =some r∧(key,v)∈r.rs)∨(k=log.length∧v=an (st k) key))→(∀j,j<k→¬done j→∀r,log[j]? =some r→key∉r.wr)→an s key=v
theorem tG {l:List Oper} {n:Nat} {o:Oper} {j:Nat} (h:dS o j=true):eW l n o j=true:=by
 cases n<;>simp [eW,h]
theorem kf {l:List Oper} {done:Nat→Prop} (hD:∀i j o,done j→l[j]? =some o→dS o i=true→done i):∀ {n:Nat} {o:Oper} {j:Nat},eW l n o j=true→(∀k,dS o k=true→done k)→done j
 |0,o,j,h,hr=>hr j h
 |n+1,o,j,h,hr=>by
  simp only [eW,Bool.or_eq_true] at h
  rcases h with h|h
  ·exact hr j h
  ·obtain ⟨e,he,h⟩:=List.any_eq_true.1 h
   simp only [Bool.and_eq_true] at h
   obtain ⟨⟨hb,_⟩,h⟩:=h
   have hd:done e.on:=hr e.on (by unfold dS;rw [List.any_eq_true];exact ⟨e,he,by simp [hb]⟩)
   cases ho:l[e.on]? with
   |none=>rw [ho] at h;cases h
   |some o'=>rw [ho] at h;exact kf hD h fun k hk=>hD k _ _ hd ho hk
theorem iB (vQ:jh l log=true)
 (hst:∀i r,log[i]? =some r→(∀p∈r.rs,an (st i) p.1=p.2)∧(∀k,an (st (i+1)) k=an (r.la.app (st i)) k)∧∀k,k∉r.wr→an (st (i+1)) k=an (st i) k∧∀x∈(an (st i) k).ids,x∉r.aK)
 {done:Nat→Prop} {s:ASt} (hinv:Inv log st done s) (hD:∀i j o,done j→l[j]? =some o→dS o i=true→done i) {i:Nat} {r:Rec} {o:Oper} (hi:log[i]? =some r) (ho:l[i]? =some o) (bU:¬done i)
 (fS:∀j,dS o j=true→done j):(∀p∈r.rs,an s p.1=p.2)∧Inv log st (fun k=>done k∨k=i) (r.la.app s):=by
 obtain ⟨hlen,kP,_⟩:=nH vQ
 have hD:∀i j o,done j→l[j]? =some o→(∃n,eW l n o i=true)→done i:=fun i j o hj ho ⟨_,hp⟩=>kf hD hp fun k hk=>hD k j o hj ho hk
 have fS:∀j,(∃n,eW l n o j=true)→done j:=fun j ⟨_,hp⟩=>kf (fun i j o h1 h2 h3=>hD i j o h1 h2 ⟨4,tG h3⟩) hp fS
 have hil:i<log.length:=(List.getElem?_eq_some_iff.1 hi).1
 have oper:∀j,j<log.length→∃o,l[j]? =some o:=fun j hj=>⟨l[j]'(by omega),List.getElem?_eq_getElem (by omega)⟩
 have dD:∀p∈r.rs,an s p.1=p.2:=by
  intro p hp
  refine hinv i (Nat.le_of_lt hil) bU p.1 p.2 (.inl ⟨r,hi,hp⟩) (fun j hj xX rj oU hw=>xX (fS j (kP j i rj r o oU hi ho hj (tB hw hp))))
 refine ⟨dD, ?_⟩
 intro k hk zS key v jk hC
 have tH:¬done k:=fun h=>zS (.inl h)
 have hki:k≠i:=fun h=>zS (.inr h)
 have xb:v=an (st k) key:=by
  rcases jk with ⟨rk,zT,hin⟩|⟨_,hv⟩
  ·exact ((hst k rk zT).1 _ hin).symm
  ·exact hv
 have nJ:∀j,i<j→j<k→∀rj,log[j]? =some rj→key∈rj.wr→bI r rj=true→False:=by
  intro j hij hjk rj oU hw hc
  obtain ⟨oj,Em⟩:=oper j (by omega)
  have zU:=kP i j r rj oj hi oU Em hij hc
  by_cases hdj:done j
  ·exact bU (hD i j oj hdj Em zU)
  ·exact hC j hjk (fun h=>by rcases h with h|h;exact hdj h;omega) rj oU hw
 by_cases hwi:key∈r.wr
 ·
  rcases Nat.lt_or_ge k i with hlt|hge
  ·exfalso
   rcases jk with ⟨rk,zT,hin⟩|⟨hkn,_⟩
   ·exact tH (fS k (kP k i rk r o zT hi ho hlt (tC hin hwi)))
   ·omega
  ·have hik:i<k:=by omega
   rw [nG dD (hst i r hi).1 hwi, ← (hst i r hi).2.1 key,xb]
   have:∀d,i+1+d≤k→an (st (i+1+d)) key=an (st (i+1)) key:=by
    intro d
    induction d with
    |zero=>intro _;rfl
    |succ d ih=>
     intro hd
     rw [← ih (by omega)]
     have hjl:i+1+d<log.length:=by omega
     have oU:log[i+1+d]? =some log[i+1+d]:=List.getElem?_eq_getElem hjl
     have Fv:key∉log[i+1+d].wr:=fun hw=>nJ (i+1+d) (by omega) (by omega) _ oU hw (tD hwi hw)
     exact ((hst _ _ oU).2.2 key Fv).1
   have:=this (k - (i+1)) (by omega)
   rw [show i+1+(k - (i+1))=k from by omega] at this
   exact this.symm
 ·rw [j9 hwi]
  have zV:an s key=v:=hinv k hk tH key v jk (fun j hj xX rj oU=>by
   by_cases hji:j=i
   ·subst hji;rw [hi] at oU;cases oU;exact hwi
   ·exact hC j hj (fun h=>by rcases h with h|h;exact xX h;exact hji h) rj oU)
  rw [zV]
  refine KV.dV fun x hx hkx=> ?_
  rcases Nat.lt_or_ge k i with hlt|hge
  ·rcases jk with ⟨rk,zT,hin⟩|⟨hkn,_⟩
   ·refine tH (fS k (kP k i rk r o zT hi ho hlt (tF hkx ?_)))
    simp only [Rec.names,List.mem_append,List.mem_flatMap]
    exact .inl (.inl ⟨_,hin,hx⟩)
   ·omega
  ·have hik:i<k:=by omega
   have:∀d,i+1+d≤k→∀x∈(an (st (i+1+d)) key).ids,x∉r.aK:=by
    intro d
    induction d with
    |zero=>
     intro _ x hx
     rw [Nat.add_zero,((hst i r hi).2.2 key hwi).1] at hx
     exact ((hst i r hi).2.2 key hwi).2 x hx
    |succ d ih=>
     intro hd x hx
     have hjl:i+1+d<log.length:=by omega
     have oU:log[i+1+d]? =some log[i+1+d]:=List.getElem?_eq_getElem hjl
     by_cases hw:key∈log[i+1+d].wr
     ·intro hkx
      rw [show i+1+(d+1)=i+1+d+1 from by omega,(hst _ _ oU).2.1 key] at hx
      have hn:=xV (hst _ _ oU).1 hw hx
      exact nJ (i+1+d) (by omega) (by omega) _ oU hw (tE hkx hn)
     ·rw [show i+1+(d+1)=i+1+d+1 from by omega,((hst _ _ oU).2.2 key hw).1] at hx
      exact ih (by omega) x hx
   have:=this (k - (i+1)) (by omega)
   rw [show i+1+(k - (i+1))=k from by omega, ← xb] at this
   exact this x hx hkx
end
end Go.Ab
end
