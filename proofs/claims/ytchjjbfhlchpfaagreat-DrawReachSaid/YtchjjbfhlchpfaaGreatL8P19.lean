/- A part of the proof. -/
import Derived.Test.YtchjjbfhlchpfaaGreatL8P18
set_option linter.unusedSimpArgs false
set_option linter.unusedVariables false
section
namespace Go.Ab
open Go.Proofs
set_option maxRecDepth 10000
def yE (g:Gr) (both:Bool) (c:Nat→Bool) (a:List Bool):Nat→List Bool
 |0=>a
 |k+1=>if c k&&((yE g both c a k).getD (tl g k).toNat false||both&&(yE g both c a k).getD (hd g k).toNat false) then
   ((yE g both c a k).set (hd g k).toNat true).set (tl g k).toNat (((yE g both c a k).set (hd g k).toNat true).getD (tl g k).toNat false||both) else yE g both c a k
def zg (g:Gr) (both:Bool) (c:Nat→Bool) (a:List Bool):Nat→List Bool
 |0=>a
 |r+1=>yE g both c (zg g both c a r) g.es.length
theorem lD {l:List Bool} {i j:Nat} {a:Bool} (hi:i<l.length):(l.set i a).getD j false=if j=i then a else l.getD j false:=by
 rw [List.getD_eq_getElem?_getD,List.getElem?_set]
 by_cases h:i=j
 ·subst h;simp [hi]
 ·rw [if_neg h,if_neg (fun e=>h e.symm),List.getD_eq_getElem?_getD]
theorem uv {g:Gr} {both:Bool} {c:Nat→Bool} {a:List Bool} :∀ {k:Nat},(yE g both c a k).length=a.length
 |0=>rfl
 |k+1=>by
  rw [yE]
  split
  ·rw [List.length_set,List.length_set];exact uv
  ·exact uv
theorem iy {g:Gr} {both:Bool} {c:Nat→Bool} {a:List Bool} :∀ {r:Nat},(zg g both c a r).length=a.length
 |0=>rfl
 |r+1=>by rw [zg,uv];exact iy
section
variable {g:Gr} (hm:aG g=true) {both:Bool} {c:Nat→Bool}
include hm
theorem D8 {k:Nat} (hk:k<g.es.length):(tl g k).toNat<g.n.toNat∧(hd g k).toNat<g.n.toNat:=by
 have h1:=bg hm hk
 have h2:=bh hm hk
 omega
theorem nG {a:List Bool} (ha:a.length=g.n.toNat) {k:Nat} (hk:k<g.es.length) {y:Nat} :(yE g both c a (k+1)).getD y false=true↔
 (yE g both c a k).getD y false=true∨c k=true∧((yE g both c a k).getD (tl g k).toNat false=true∧(y=(hd g k).toNat)∨both=true∧(yE g both c a k).getD (hd g k).toNat false=true∧y=(tl g k).toNat):=by
 obtain ⟨ht,hh⟩:=D8 hm hk
 have hl:(yE g both c a k).length=g.n.toNat:=by rw [uv,ha]
 rw [yE]
 generalize yE g both c a k=b at hl
 cases hc:c k with
 |false=>simp
 |true=>
  simp only [Bool.true_and]
  by_cases hq:(b.getD (tl g k).toNat false||both&&b.getD (hd g k).toNat false)=true
  ·rw [if_pos hq,lD (by rw [List.length_set,hl];exact ht),lD (by rw [hl];exact hh),lD (by rw [hl];exact hh)]
   by_cases e1:y=(tl g k).toNat
   ·subst e1
    rw [if_pos rfl]
    by_cases e2:(tl g k).toNat=(hd g k).toNat
    ·rw [if_pos e2]
     simp only [Bool.true_or,true_iff]
     cases hb:b.getD (tl g k).toNat false with
     |true=>exact .inl rfl
     |false=>
      rw [hb] at hq
      rw [← e2,hb] at hq
      simp at hq
    ·rw [if_neg e2]
     cases hb:b.getD (tl g k).toNat false with
     |true=>simp
     |false=>
      rw [hb] at hq
      simp only [Bool.false_or,Bool.and_eq_true] at hq
      exact ⟨fun _=> .inr ⟨by simp, .inr ⟨hq.1,hq.2,rfl⟩⟩,fun _=>by rw [hq.1];rfl⟩
   ·rw [if_neg e1]
    by_cases e2:y=(hd g k).toNat
    ·subst e2
     rw [if_pos rfl]
     simp only [true_iff]
     cases hb:b.getD (tl g k).toNat false with
     |true=>exact .inr ⟨by simp, .inl ⟨by simp,by simp⟩⟩
     |false=>
      rw [hb] at hq
      simp only [Bool.false_or,Bool.and_eq_true] at hq
      exact .inl hq.2
    ·rw [if_neg e2]
     constructor
     ·intro h;exact .inl h
     ·rintro (h|⟨_,⟨_,h⟩|⟨_,_,h⟩⟩)
      ·exact h
      ·exact absurd h e2
      ·exact absurd h e1
  ·rw [if_neg hq]
   simp only [Bool.or_eq_true,Bool.and_eq_true,not_or,not_and] at hq
   constructor
   ·intro h;exact .inl h
   ·rintro (h|⟨_,⟨h,_⟩|⟨h1,h2,_⟩⟩)
    ·exact h
    ·exact absurd h hq.1
    ·exact absurd h2 (hq.2 h1)
theorem jN {a:List Bool} (ha:a.length=g.n.toNat) {y:Nat} (hy:a.getD y false=true):∀ {k:Nat},k≤g.es.length→(yE g both c a k).getD y false=true
 |0,_=>hy
 |k+1,hk=>(nG hm ha hk).2 (.inl (jN ha hy (by omega)))
theorem D9 {a:List Bool} (ha:a.length=g.n.toNat) {x:Nat} (hs:∀y,a.getD y false=true→lB g both c x y):∀ {k:Nat},k≤g.es.length→∀y,(yE g both c a k).getD y false=true→lB g both c x y
 |0,_,y,h=>hs y h
 |k+1,hk,y,h=>by
  have ih:=D9 ha hs (k:=k) (by omega)
  rcases (nG hm ha hk).1 h with h|⟨hc,⟨h1,rfl⟩|⟨h0,h1,rfl⟩⟩
  ·exact ih y h
  ·exact .fwd hk hc (ih _ h1)
  ·exact .F9 hk hc h0 (ih _ h1)
theorem Kr {a:List Bool} (ha:a.length=g.n.toNat) (hf:∀y,(yE g both c a g.es.length).getD y false=true→a.getD y false=true) {x y:Nat} (hx:a.getD x false=true) (h:lB g both c x y):a.getD y false=true:=by
 have up:∀ {j k:Nat},j≤k→k≤g.es.length→∀y,(yE g both c a j).getD y false=true→(yE g both c a k).getD y false=true:=by
  intro j k hjk
  induction hjk with
  |refl=>intro _ y h;exact h
  |step _ ih=>intro hk y h;exact (nG hm ha hk).2 (.inl (ih (by omega) y h))
 induction h with
 |refl=>exact hx
 | @fwd k hk hc _ ih=>exact hf _ (up (show k+1≤g.es.length from hk) (Nat.le_refl _) _ ((nG hm ha hk).2 (.inr ⟨hc, .inl ⟨jN hm ha ih (by omega),rfl⟩⟩)))
 | @F9 k hk hc R4 _ ih=>exact hf _ (up (show k+1≤g.es.length from hk) (Nat.le_refl _) _ ((nG hm ha hk).2 (.inr ⟨hc, .inr ⟨R4,jN hm ha ih (by omega),rfl⟩⟩)))
theorem Ea {a:List Bool} (ha:a.length=g.n.toNat) {x:Nat} (hs:∀y,a.getD y false=true→lB g both c x y):∀r y,(zg g both c a r).getD y false=true→lB g both c x y
 |0,y,h=>hs y h
 |r+1,y,h=>D9 hm (by rw [iy];exact ha) (Ea ha hs r) (Nat.le_refl _) y h
def qV (a:List Bool):Nat:=a.countP id
omit hm in
theorem IT:∀ {a b:List Bool},a.length=b.length→(∀y,a.getD y false=true→b.getD y false=true)→(∃y,b.getD y false=true∧a.getD y false=false)→qV a<qV b∧True
 | [], [],_,_,⟨y,h,_⟩=>by simp at h
 |p::a,q::b,hl,h,⟨y,h1,h2⟩=>by
  have le:∀ {a b:List Bool},a.length=b.length→(∀y,a.getD y false=true→b.getD y false=true)→qV a≤qV b:=by
   intro a
   induction a with
   |nil=>intro b _ _;exact Nat.zero_le _
   |cons p a ih=>
    intro b hl h
    cases b with
    |nil=>simp at hl
    |cons q b=>
     have:=ih (b:=b) (by simpa using hl) fun y=>by simpa using h (y+1)
     have h0:=h 0
     simp only [List.getD_cons_zero] at h0
     unfold qV at this ⊢
     rw [List.countP_cons,List.countP_cons]
     cases p with
     |false=>simp;omega
     |true=>simp [h0 rfl];omega
  have hl':a.length=b.length:=by simpa using hl
  have h':∀y,a.getD y false=true→b.getD y false=true:=fun y=>by simpa using h (y+1)
  refine ⟨?_,trivial⟩
  have hle:=le hl' h'
  unfold qV at hle ⊢
  rw [List.countP_cons,List.countP_cons]
  cases y with
  |zero=>
   simp only [List.getD_cons_zero] at h1 h2
   subst h1 h2
   simp;omega
  |succ y=>
   have ih:=(IT hl' h' ⟨y,by simpa using h1,by simpa using h2⟩).1
   unfold qV at ih
   have h0:=h 0
   simp only [List.getD_cons_zero] at h0
   cases p with
   |false=>simp;omega
   |true=>simp [h0 rfl];omega
omit hm in
theorem Mx (a:List Bool):qV a≤a.length:=List.countP_le_length
theorem IU {a:List Bool} (ha:a.length=g.n.toNat) (r:Nat):(∀y,(zg g both c a (r+1)).getD y false=true→(zg g both c a r).getD y false=true)∨qV (zg g both c a r)<qV (zg g both c a (r+1)):=by
 by_cases h:∀y,(zg g both c a (r+1)).getD y false=true→(zg g both c a r).getD y false=true
 ·exact .inl h
 ·refine .inr (IT (iy.trans (iy (r:=r+1)).symm) (fun y hy=>jN hm (by rw [iy];exact ha) hy (Nat.le_refl _)) ?_).1
  simp only [Classical.not_forall] at h
  obtain ⟨y,h1,h2⟩:=h
  exact ⟨y,h1,by simpa using h2⟩
theorem IV {a:List Bool} (ha:a.length=g.n.toNat) {x:Nat} (hx:a.getD x false=true) (hs:∀y,a.getD y false=true→lB g both c x y) (hc1:0<qV a) (y:Nat):(zg g both c a g.n.toNat).getD y false=true↔lB g both c x y:=by
 refine ⟨Ea hm ha hs _ y,fun h=> ?_⟩
 have U7:∀r,(zg g both c a r).getD x false=true:=fun r=>by
  induction r with
  |zero=>exact hx
  |succ r ih=>exact jN hm (by rw [iy];exact ha) ih (Nat.le_refl _)
 have key:∀r,(∀y,lB g both c x y→(zg g both c a r).getD y false=true)∨r<qV (zg g both c a r):=by
  intro r
  induction r with
  |zero=>exact .inr hc1
  |succ r ih=>
   rcases ih with ih|ih
   ·exact .inl fun y hy=>jN hm (by rw [iy];exact ha) (ih y hy) (Nat.le_refl _)
   ·rcases IU hm ha r with h|h
    ·exact .inl fun y hy=>jN hm (by rw [iy];exact ha) (Kr hm (by rw [iy];exact ha) h (U7 r) hy) (Nat.le_refl _)
    ·exact .inr (by omega)
 rcases key g.n.toNat with h1|h1
 ·exact h1 y h
 ·have:=Mx (zg g both c a g.n.toNat)
  rw [iy,ha] at this
  omega
end
end Go.Ab
end
section
namespace Go.Ab
open Go.Proofs
attribute [local congr] ACall.congr gd.congr Nx.congr
set_option maxRecDepth 20000
set_option maxHeartbeats 8000000
def pR (n x:Nat):List Bool:=(List.replicate n false).set x true
theorem C4 {n x:Nat} :(pR n x).length=n:=by simp [pR]
theorem lB.congr {g:Gr} {both:Bool} {c c':Nat→Bool} (h:∀k,k<g.es.length→c k=c' k) {x y:Nat} (hr:lB g both c x y):lB g both c' x y:=by
 induction hr with
 |refl=>exact .refl
 | @fwd i a b _ ih=>exact .fwd a (by rw [← h i a];exact b) ih
 | @F9 i a b d _ ih=>exact .F9 a (by rw [← h i a];exact b) d ih
theorem yF {n x y:Nat} (hx:x<n):(pR n x).getD y false=true↔y=x:=by
 unfold pR
 rw [lD (by simpa using hx)]
 by_cases h:y=x
 ·rw [if_pos h];simp [h]
 ·rw [if_neg h]
  simp only [h,iff_false,Bool.not_eq_true]
  rw [List.getD_eq_getElem?_getD,List.getElem?_replicate]
  split<;>rfl
theorem C5 {n x:Nat} (hx:x<n):0<qV (pR n x):=by
 unfold qV
 rw [List.countP_pos_iff]
 refine ⟨true, ?_,rfl⟩
 unfold pR
 rw [List.mem_iff_getElem?]
 exact ⟨x,by rw [List.getElem?_set_self (by simpa using hx)]⟩
def My (m i:Nat):List Bool:=(kS m m).set i false
theorem Eb {m i k:Nat} (hi:i<m) (hk:k<m):(My m i).getD k false=z2 i k:=by
 unfold My z2
 rw [lD (by rw [trueK_length];exact hi)]
 by_cases h:k=i
 ·subst h;simp
 ·rw [if_neg h,kS,List.getD_eq_getElem?_getD,List.getElem?_map,List.getElem?_range hk]
  simp [hk];omega
theorem w8 {g:Gr} (hm:aG g=true) {i:Nat} (hi:i<g.es.length):(zg g false (fun k=>(My g.es.length i).getD k false) (pR g.n.toNat (tl g i).toNat) g.n.toNat).getD (hd g i).toNat false=Gb g i:=by
 obtain ⟨ht,hh⟩:=D8 hm hi
 rw [Bool.eq_iff_iff,IV hm C4 ((yF ht).2 rfl) (fun y hy=>by rw [(yF ht).1 hy];exact .refl) (C5 ht),Gb,sF ht,uu]
 constructor
 ·intro h
  exact ⟨hh,h.congr fun k hk=>Eb hi hk⟩
 ·rintro ⟨_,h⟩
  exact h.congr fun k hk=>(Eb hi hk).symm
end Go.Ab
end
section
namespace Go.Ab
open Go.Proofs
attribute [local congr] ACall.congr gd.congr Nx.congr
set_option maxRecDepth 20000
set_option maxHeartbeats 8000000
end Go.Ab
end
section
namespace Go.Ab
open Go.Proofs
attribute [local congr] ACall.congr gd.congr Nx.congr
set_option maxRecDepth 10000
set_option maxHeartbeats 16000000
end Go.Ab
end
section
namespace Go.Ab
open Go.Proofs
attribute [local congr] ACall.congr gd.congr Nx.congr
set_option maxRecDepth 20000
set_option maxHeartbeats 8000000
end Go.Ab
end
section
namespace Go.Ab
open Go.Proofs
attribute [local congr] ACall.congr gd.congr Nx.congr
set_option maxRecDepth 20000
set_option maxHeartbeats 16000000
end Go.Ab
end
section
namespace Go.Ab
open Go.Proofs
attribute [local congr] ACall.congr gd.congr Nx.congr
set_option maxRecDepth 10000
abbrev Pt:=Int × Int
def eP (p:Pt):AV:= .agg [.d (.sc (.int .i64 p.1)), .d (.sc (.int .i64 p.2))]
def rP (p:Pt):List D:= [.sc (.int .i64 p.1), .sc (.int .i64 p.2)]
attribute [go_sem] eP
def xp (p:Pt):Prop:=(-262144≤p.1∧p.1≤262144)∧(-262144≤p.2∧p.2≤262144)
def BR (a b:Int):Int:=if a<b then -1 else if b<a then 1 else 0
def Ec (a b n:Int):Bool:=decide (min a b≤n)&&decide (n≤max a b)
def tm (a b c d:Pt):Int:=(b.1 - a.1)*(d.2 - c.2) - (b.2 - a.2)*(d.1 - c.1)
def sd (a b c:Pt):Int:=BR (tm a b a c) 0
def Ks (a b c:Pt):Bool:=decide (sd a b c=0)&&Ec a.1 b.1 c.1&&Ec a.2 b.2 c.2
end Go.Ab
end
section
namespace Go.Ab
open Go.Proofs
attribute [local congr] ACall.congr gd.congr Nx.congr
set_option maxRecDepth 10000
def U8 (p:Pt):Bool:=decide (262144<max p.1 p.2)||decide (min p.1 p.2< -262144)
theorem getD_rP (ps:List Pt) (i:Nat):(ps.map rP).getD i [.sc (.int .i64 0), .sc (.int .i64 0)]=rP (ps.getD i (0,0)):=by
 simp only [List.getD_eq_getElem?_getD,List.getElem?_map]
 cases ps[i]? <;>rfl
theorem rP_eq (p:Pt):rP p= [.sc (.int .i64 p.1), .sc (.int .i64 p.2)]:=rfl
attribute [go_sem] getD_rP rP_eq Int.toNat_natCast
end Go.Ab
end
section
namespace Go.Ab
open Go.Proofs
attribute [local congr] ACall.congr gd.congr Nx.congr
set_option maxRecDepth 10000
instance (p:Pt):Decidable (xp p):=by unfold xp;infer_instance
def S6 (a b c:Pt):Int:=if xp a∧xp b∧xp c then sd a b c else 0
def U9 (a b c:Pt):Bool:=decide (xp a∧xp b∧xp c)&&Ks a b c
end Go.Ab
end
section
namespace Go.Ab
open Go.Proofs
attribute [local congr] ACall.congr gd.congr Nx.congr
set_option maxRecDepth 10000
def td (a b c:Pt):Int:=a.1*b.2 - a.2*b.1+b.1*c.2 - b.2*c.1+c.1*a.2 - c.2*a.1
def sJ (a b p:Pt):Int:=(p.1 - a.1)*(b.1 - a.1)+(p.2 - a.2)*(b.2 - a.2)
def O5 (a b c:Pt):Int:=if xp a∧xp b∧xp c then BR (td a b c) 0 else 0
def IW (a b c:Pt):Bool:=decide (xp a∧xp b∧xp c)&&(decide (td a b c=0)&&decide ((a.1 - c.1)*(b.1 - c.1)+(a.2 - c.2)*(b.2 - c.2)≤0))
end Go.Ab
end
section
namespace Go.Ab
open Go.Proofs
attribute [local congr] ACall.congr gd.congr Nx.congr
set_option maxRecDepth 10000
set_option maxHeartbeats 2000000
def Wc:OT:=(.br 0 (.br 1 (.br 2 (.br 3 (.br 4 (.br 5 (.br 6 .nil .nil) .nil) .nil) (.br 4 (.br 3 (.br 5 (.br 6 .nil .nil) .nil) (.br 5 (.br 3 (.br 6 .nil .nil) .nil) .nil)) .nil)) (.br 4 (.br 2 (.br 3 (.br 5 (.br 6 .nil .nil) .nil) (.br 5 (.br 3 (.br 6 .nil .nil) .nil) .nil)) (.br 5 (.br 2 (.br 3 (.br 6 .nil .nil) .nil) .nil) .nil)) .nil)) .nil) (.br 1 (.br 0 (.br 2 (.br 3 (.br 4 (.br 5 (.br 6 .nil .nil) .nil) .nil) (.br 4 (.br 3 (.br 5 (.br 6 .nil .nil) .nil) (.br 5 (.br 3 (.br 6 .nil .nil) .nil) .nil)) .nil)) (.br 4 (.br 2 (.br 3 (.br 5 (.br 6 .nil .nil) .nil) (.br 5 (.br 3 (.br 6 .nil .nil) .nil) .nil)) (.br 5 (.br 2 (.br 3 (.br 6 .nil .nil) .nil) .nil) .nil)) .nil)) .nil) .nil))
def O6 (a b c d:Pt):Int:=
 if xp a∧xp b∧xp c∧xp d then
  if a=b then (if IW c d a=true then 1 else 0)
  else if c=d then (if IW a b c=true then 1 else 0)
  else if BR (td a b c) 0=0∧BR (td a b d) 0=0 then
   let lo:=max (sJ a b a) (min (sJ a b c) (sJ a b d))
   let hi:=min (sJ a b b) (max (sJ a b c) (sJ a b d))
   if hi<lo then 0 else if lo=hi then 1 else 2
  else if BR (td a b c) 0*BR (td a b d) 0≤0∧BR (td c d a) 0*BR (td c d b) 0≤0 then 1 else 0
 else 0
end Go.Ab
end
section
namespace Go.Ab
open Go.Proofs
attribute [local congr] ACall.congr gd.congr Nx.congr
set_option maxRecDepth 10000
set_option maxHeartbeats 2000000
theorem mval_touch (es:List (List Int × Int)) (k:List Int):mF (fA es k) k=mF es k:=by
 unfold fA
 cases h:cr es k with
 |some i=>rfl
 |none=>
  have hn:=uP h
  have:cr (es++ [(k,0)]) k=some es.length:=by
   unfold cr
   rw [List.findIdx?_eq_some_iff_getElem]
   refine ⟨by simp,by simp,fun j hj=> ?_⟩
   rw [List.getElem_append_left hj]
   have:=hn es[j] (List.getElem_mem hj)
   simpa using fun e=>this e.symm
  simp [mF,h,this]
def Va (es:List (List Int × Int)) (k:List Int):List (List Int × Int):=th (fA es k) (ki es k) (mF es k+1)
def Kt (p:Pt) (ks:List (List Int)):List (List Int):=if [p.1,p.2]∈ks then ks else ks++ [[p.1,p.2]]
def BE (n:Int) (es:List (List Int × Int)):Prop:=∀p∈es,0≤p.2∧p.2≤n
end Go.Ab
end
section
namespace Go.Ab
open Go.Proofs
attribute [local congr] ACall.congr gd.congr Nx.congr
set_option maxRecDepth 10000
set_option maxHeartbeats 4000000
attribute [go_sem] mval_touch
def K1 (a _b c d:Pt):List (List Int):=if Ks c d a=true then Kt a [] else []
def K2 (a b c d:Pt):List (List Int):=if Ks c d b=true then Kt b (K1 a b c d) else K1 a b c d
def K3 (a b c d:Pt):List (List Int):=if Ks a b c=true then Kt c (K2 a b c d) else K2 a b c d
def K4 (a b c d:Pt):List (List Int):=if Ks a b d=true then Kt d (K3 a b c d) else K3 a b c d
def S7 (a b c d:Pt):Int:=
 if xp a∧xp b∧xp c∧xp d then
  if 0<(K4 a b c d).length then min ((K4 a b c d).length:Int) 2
  else if sd a b c*sd a b d<0∧sd c d a*sd c d b<0 then 1 else 0
 else 0
def RS (A B C:List (List Int)) (p:Nat × List (List Int × Int)) (n:Int):Prop:=
 (p.1=0∧p.2.map (·.1)=A∧BE n p.2)∨(p.1=1∧p.2.map (·.1)=B∧BE (n+1) p.2)∨(p.1=2∧p.2.map (·.1)=C∧BE (n+2) p.2)
def bx (p:Pt):AObj:= .box [.d (.sc (.int .i64 p.1)), .d (.sc (.int .i64 p.2))]
attribute [go_sem] bx
def Wd (a b c d:Pt) (i:Nat × List (List Int × Int)):ASt:=
 ⟨[(9, .mref 21),(4, .ptr 4 0),(5, .ptr 5 0),(6, .ptr 6 0),(7, .ptr 7 0),(24, .agg [eN a.1,eN a.2,eN b.1,eN b.2]),(25,eN i.1)],
   [(4,bx a),(5,bx b),(6,bx c),(7,bx d),(21, .mp 2 i.2)]⟩
def We (a b c d:Pt) (i:Nat × List (List Int × Int)):ASt:=
 ⟨[(9, .mref 21),(4, .ptr 4 0),(5, .ptr 5 0),(6, .ptr 6 0),(7, .ptr 7 0),(41, .agg [eN c.1,eN c.2,eN d.1,eN d.2]),(42,eN i.1)],
   [(4,bx a),(5,bx b),(6,bx c),(7,bx d),(21, .mp 2 i.2)]⟩
end Go.Ab
end
section
namespace Go.Ab
open Go.Proofs
attribute [local congr] ACall.congr gd.congr Nx.congr
set_option maxRecDepth 10000
def key (p:Pt):List Int:= [p.1,p.2]
def Wf (a b c d p:Pt):Prop:=(Ks c d a=true∧p=a)∨(Ks c d b=true∧p=b)∨(Ks a b c=true∧p=c)∨(Ks a b d=true∧p=d)
def S8 (a b c d:Pt):Int:=if 0<(K4 a b c d).length then min ((K4 a b c d).length:Int) 2 else if sd a b c*sd a b d<0∧sd c d a*sd c d b<0 then 1 else 0
section
variable {a b:Pt}
end
end Go.Ab
end
section
namespace Go.Ab
open Go.Proofs
attribute [local congr] ACall.congr gd.congr Nx.congr
set_option maxRecDepth 10000
abbrev Pc:=Pt × Pt
def rQ (q:Pc):List D:= [.sc (.int .i64 q.1.1), .sc (.int .i64 q.1.2), .sc (.int .i64 q.2.1), .sc (.int .i64 q.2.2)]
def eQ (q:Pc):AV:= .agg [.d (.sc (.int .i64 q.1.1)), .d (.sc (.int .i64 q.1.2)), .d (.sc (.int .i64 q.2.1)), .d (.sc (.int .i64 q.2.2))]
def sQ (qs:List Pc):D:= .sl 4 (qs.map rQ)
def sP (ps:List Pt):D:= .sl 2 (ps.map rP)
def vP (ls:List (List Pt)):List (List D):=ls.map fun l=> [sP l]
def sLn (ls:List (List Pt)):D:= .sl 1 (vP ls)
def eLn (l:List Pt):AV:= .d (sP l)
theorem getD_rQ (ps:List Pc) (i:Nat):(ps.map rQ).getD i [.sc (.int .i64 0), .sc (.int .i64 0), .sc (.int .i64 0), .sc (.int .i64 0)]=rQ (ps.getD i ((0,0),(0,0))):=by
 simp only [List.getD_eq_getElem?_getD,List.getElem?_map]
 cases ps[i]? <;>rfl
theorem rQ_eq (q:Pc):rQ q= [.sc (.int .i64 q.1.1), .sc (.int .i64 q.1.2), .sc (.int .i64 q.2.1), .sc (.int .i64 q.2.2)]:=rfl
theorem vP_length (ls:List (List Pt)):(vP ls).length=ls.length:=by simp [vP]
theorem vP_getD (ls:List (List Pt)) (i:Nat):(vP ls).getD i [.sl 2 []]= [sP (ls.getD i [])]:=by
 simp only [vP,List.getD_eq_getElem?_getD,List.getElem?_map]
 cases ls[i]? <;>rfl
attribute [go_sem] getD_rQ rQ_eq eQ sQ sP sLn eLn vP_length vP_getD
end Go.Ab
end
section
namespace Go.Ab
open Go.Proofs
attribute [local congr] ACall.congr gd.congr Nx.congr
set_option maxRecDepth 10000
structure Dr where
 pts:List Pt
 ls:List (List Pt)
def eDr (d:Dr):AV:= .agg [.d (sP d.pts), .d (sLn d.ls)]
def lkO (g:Gr) (d:Dr):AObj:= .rob [eN g.n, .d (sE g.es), .d (sP d.pts), .d (sLn d.ls)]
attribute [go_sem] eDr lkO
def Vb (l:List Pt) (k:Nat):List Pc:=(List.range k).map fun i=>(l.getD i (0,0),l.getD (i+1) (0,0))
def S9 (l:List Pt):List Pc:=Vb l (l.length - 1)
def robPt (p:Pt):List (Nat × AObj):= [(10000, .rob [eN p.1,eN p.2])]
attribute [go_sem] robPt
def Vc (l:List Pt) (p:Pt):Bool:=(S9 l).any fun q=>U9 q.1 q.2 p
def Ta (l:List Pt):Bool:= !(S9 l).any fun q=>decide (q.2.2≤q.1.2)
structure O7 (g:Gr) (d:Dr):Prop where
 may:aG g=true
 np:(d.pts.length:Int)=g.n
 nl:d.ls.length=g.es.length
 oM:∀l∈d.ls,2≤l.length∧l.length≤8
theorem O7.line {g:Gr} {d:Dr} (h:O7 g d) {i:Nat} (hi:i<g.es.length):2≤(d.ls.getD i []).length∧(d.ls.getD i []).length≤8:=h.oM _ (aQ (by rw [h.nl];exact hi))
def Vd (g:Gr) (d:Dr) (i:Nat):Bool:=decide ((d.ls.getD i []).getD 0 (0,0)=d.pts.getD (g.es.getD i (0,0)).1.toNat (0,0))&&decide ((d.ls.getD i []).getD ((d.ls.getD i []).length - 1) (0,0)=d.pts.getD (g.es.getD i (0,0)).2.toNat (0,0))
def Ve (l:List Pt) (x:Pt):Int:=bQ (fun y=>decide (x=y)) l
def R8 (d:Dr) (x:Nat):Bool:= !decide (d.pts.getD x (0,0)∈d.pts.take x)
def O8 (g:Gr) (d:Dr) (i k:Nat):Bool:=(List.range k).all fun x=>decide ((x:Int)=(g.es.getD i (0,0)).1)||decide ((x:Int)=(g.es.getD i (0,0)).2)|| !Vc (d.ls.getD i []) (d.pts.getD x (0,0))
def Tb (g:Gr) (d:Dr) (i:Nat):Bool:=O8 g d i d.pts.length
end Go.Ab
end
section
namespace Go.Ab
open Go.Proofs
attribute [local congr] ACall.congr gd.congr Nx.congr
set_option maxRecDepth 20000
set_option maxHeartbeats 8000000
def Ee (xs ys:List Int) (v:Nat):Pt:=(xs.getD v 0,ys.getD v 0)
def IX (N:Int) (bs xs ys:List Int) (i:Nat):List Pt:=if (i:Int)∈bs then [Ee xs ys (N+(bs.idxOf (i:Int):Nat)).toNat] else []
def Nb (g:Gr) (N:Int) (bs xs ys:List Int) (i:Nat):List Pt:=Ee xs ys (tl g i).toNat::(IX N bs xs ys i++ [Ee xs ys (hd g i).toNat])
def qW (xs ys:List Int) (k:Nat):List Pt:=(List.range k).map (Ee xs ys)
def w9 (g:Gr) (N:Int) (bs xs ys:List Int) (k:Nat):List (List Pt):=(List.range k).map (Nb g N bs xs ys)
def Mz (g:Gr) (N:Int) (bs xs ys:List Int):Dr:=⟨qW xs ys g.n.toNat,w9 g N bs xs ys g.es.length⟩
theorem IY {xs ys:List Int} {k:Nat} :qW xs ys (k+1)=qW xs ys k++ [Ee xs ys k]:=by simp [qW,List.range_succ]
theorem Aa {xs ys:List Int} {k:Nat} :(qW xs ys k).length=k:=by simp [qW]
theorem MA {xs ys:List Int} {k v:Nat} (h:v<k):(qW xs ys k).getD v (0,0)=Ee xs ys v:=by simp [qW,List.getD_eq_getElem?_getD,List.getElem?_range h]
theorem IZ {g:Gr} {N:Int} {bs xs ys:List Int} {k:Nat} :w9 g N bs xs ys (k+1)=w9 g N bs xs ys k++ [Nb g N bs xs ys k]:=by simp [w9,List.range_succ]
theorem Ku {g:Gr} {N:Int} {bs xs ys:List Int} {k:Nat} :(w9 g N bs xs ys k).length=k:=by simp [w9]
def dz:Dr:=⟨[], []⟩
noncomputable def nH (g:Gr) (p:Pl) (rev:Bool):List Int:=dL (aI (ak g p) (gC (ak g p))) (zY (ak g p) (bJ g p) (gC (ak g p))) rev ((ak g p).n+(gC (ak g p)).length).toNat
noncomputable def Ef (b:Bool) (g:Gr) (p:Pl):Dr × Int:=
 if (k8 b g p).2.2≠0 then (dz,(k8 b g p).2.2) else if 64<(ak g p).n+(gC (ak g p)).length∨128<(ak g p).es.length+(gC (ak g p)).length then (dz,10) else (Mz g (ak g p).n (gC (ak g p)) (nH g p false) (nH g p true),0)
theorem I0 {g:Gr} {p:Pl} (h:aN g p):p.ord.length≤64∧p.outs.length≤64∧∀l∈p.outs,l.length≤128:=by
 have hn:=aA (ag h.1)
 have h1:=aM h.2.1
 have h2:=h.2.1.1
 refine ⟨by omega,by omega,fun l hl=> ?_⟩
 obtain ⟨k,hk,rfl⟩:=List.mem_iff_getElem.1 hl
 have h3:=(h.2.1.2.2 k (by omega)).length_eq
 rw [List.getD_eq_getElem?_getD,List.getElem?_eq_getElem hk,Option.getD_some] at h3
 have h4:(cn g (k:Int)).length≤g.es.length:=jj
 omega
theorem Ac {g:Gr} {p:Pl} (h:aN g p):qI p:=by
 obtain ⟨h1,h2,h3⟩:=I0 h
 exact ⟨by omega,by omega,fun l hl=>by have:=h3 l hl;omega⟩
theorem lE {g:Gr} {p:Pl} (h:aN g p):(true=true)↔(bT g).1=0∧bk g p:=⟨fun _=>⟨h.1,h.2.1⟩,fun _=>rfl⟩
structure Room (g:Gr) (p:Pl):Prop where
 ok:nu g p
 h1:(ak g p).n+(gC (ak g p)).length≤64
 h2:(ak g p).es.length+(gC (ak g p)).length≤128
theorem BS {g:Gr} {p:Pl} (h:Room g p):aN (aI (ak g p) (gC (ak g p))) (zY (ak g p) (bJ g p) (gC (ak g p))):=Ki (nv h.ok) pQ (DY (nv h.ok) pQ) h.h1 h.h2
theorem Eg {g:Gr} {p:Pl} (h:Room g p):lG (aI (ak g p) (gC (ak g p)))=true:=Mr (nv h.ok) pQ (DY (nv h.ok) pQ) h.h1 h.h2 (Ir h.ok)
theorem I1 {b:Bool} {g:Gr} {p:Pl} (hr:b=true↔(bT g).1=0∧bk g p) (h:(Ef b g p).2=0):Room g p∧Ef b g p=(Mz g (ak g p).n (gC (ak g p)) (nH g p false) (nH g p true),0):=by
 unfold Ef at h ⊢
 split at h
 ·rename_i hc;exact absurd h hc
 rename_i h0
 split at h
 ·cases h
 rename_i h1
 rw [if_neg h0,if_neg h1]
 have h0:(k8 b g p).2.2=0:=by simpa using h0
 exact ⟨⟨(z7 hr h0).1,by omega,by omega⟩,rfl⟩
theorem uw {g:Gr} {p:Pl} {rev:Bool} :(nH g p rev).length=((ak g p).n+(gC (ak g p)).length).toNat:=by unfold nH;exact jm
theorem BT {g:Gr} {bs:List Int} (hb:bs.Nodup) {i:Int} :cr (mK g bs bs.length) [i]=if i∈bs then some (bs.idxOf i) else none:=by
 by_cases h:i∈bs
 ·rw [if_pos h]
  obtain ⟨h1,h2⟩:=sy h
  unfold cr
  rw [List.findIdx?_eq_some_iff_getElem]
  refine ⟨by simp [mK,h1], ?_,fun j hj=> ?_⟩
  ·simp only [mK,List.getElem_map,List.getElem_range,decide_eq_true_eq,h2]
  ·simp only [mK,List.getElem_map,List.getElem_range,decide_eq_true_eq]
   intro e
   have e:i=bs.getD j 0:=by simpa using e
   have:=gy hb (i:=j) (by omega)
   rw [← e] at this
   omega
 ·rw [if_neg h]
  unfold cr
  rw [List.findIdx?_eq_none_iff]
  intro q hq
  obtain ⟨j,hj,rfl⟩:=nF.1 hq
  rw [decide_eq_false_iff_not]
  intro e
  have e:i=bs.getD j 0:=by simpa using e
  rw [e] at h
  exact h (aQ hj)
theorem Kv {g:Gr} {bs:List Int} (hb:bs.Nodup) {i:Int} (h:i∈bs):mF (mK g bs bs.length) [i]=g.n+(bs.idxOf i:Nat):=by
 unfold mF
 rw [BT hb,if_pos h]
 have:=(sy h).1
 simp [mK,List.getElem?_range this]
end Go.Ab
end
section
namespace Go.Ab
open Go.Proofs
attribute [local congr] ACall.congr gd.congr Nx.congr
set_option maxRecDepth 20000
set_option maxHeartbeats 8000000
theorem Kw (xs ys:List Int) (v:Nat) (h1:v<xs.length) (h2:v<ys.length) (hx:xs.length≤1000) (hy:ys.length≤1000):Spec Tryz.prog 77 (Args [eN v, .ptr 10001 0, .ptr 10002 0]) [(10001, .rob [.d (sI xs)]),(10002, .rob [.d (sI ys)])] (.agg [eN (xs.getD v 0),eN (ys.getD v 0)]) [(10001, .rob [.d (sI xs)]),(10002, .rob [.d (sI ys)])]:=by
 (refine Spec.hd (C:=T.cfg [] []) (rs:= [.c 4 71]) (T.aj _ _) Tryz.func77 rfl rfl Tryz.ntmps77 Tryz.results77 (by simp [AObj.isNest]) (by simp [AObj.isNest]) (by kernel_rfl) T.mixed fun X hX hP hC aP bV=> ?_)
 repeat' (first|refine Rn.p ?_|(with_reducible apply And.intro)|((first|(refine hK _ ?_;clear hK K)|with_reducible intro K hK|refine Rs.p ?_|((with_reducible first|apply oP|apply oQ);exact rfl));try simp only [go_sem,simprocAttr])|((with_reducible refine oD ?_ ?_);kernel_rfl)|((with_reducible intro h);try simp only [go_sem,simprocAttr] at h)|omega|intro h)
end Go.Ab
end
section
namespace Go.Ab
open Go.Proofs
attribute [local congr] ACall.congr gd.congr Nx.congr
set_option maxRecDepth 20000
set_option maxHeartbeats 16000000
theorem yG (g:Gr) (hl:g.es.length≤1000) (p:Pl) (hp:qI p) (hp1:p.ord.length≤1000) (hp2:p.outs.length≤1000) (RI:∀l∈p.outs,l.length≤1000) (b:Bool) (hr:b=true↔(bT g).1=0∧bk g p):
 Spec Tryz.prog 33 (Args [eG g,ePl p]) [] (.tup [eDr (Ef b g p).1,eN (Ef b g p).2]) []:=by
 have PZ:=zQ g hl p hp hp1 hp2 RI b hr
 by_cases h0:(k8 b g p).2.2=0
 rotate_left
 ·have O9:Ef b g p=(dz,(k8 b g p).2.2):=if_pos h0
  have hb0:decide ((k8 b g p).2.2=0)=false:=decide_eq_false h0
  rw [O9]
  (refine Spec.hd (C:=T.cfg [] []) (rs:= [.c 4 28, .t 5]) (T.aj _ _) Tryz.func33 rfl rfl Tryz.ntmps33 Tryz.results33 (by simp [AObj.isNest]) (by simp [AObj.isNest]) (by kernel_rfl) T.mixed fun X hX hP hC aP bV=> ?_)
  repeat' (first|refine Rn.p ?_|(with_reducible apply And.intro)|((first|(refine hK _ ?_;clear hK K)|with_reducible intro K hK|refine Rs.p ?_|((with_reducible first|apply oP|apply oQ);exact rfl)|refine aa hX hC hP (PZ) rfl rfl rfl (by simp only [go_sem,simprocAttr,hb0,dz]) rfl ?_);try simp only [go_sem,simprocAttr,hb0,dz])|((with_reducible refine oD ?_ ?_);kernel_rfl)|((with_reducible intro h);try simp only [go_sem,simprocAttr,hb0,dz] at h)|omega|intro h)
  all_goals rfl
 obtain ⟨hO,hE⟩:=z7 hr h0
 rw [hE] at PZ
 have Nc:=nv hO
 have Tc:=Ir hO
 have Rt:(cA true (ak g p) (bJ g p)).2.1=0:=by rw [mz (lE Nc) Nc]
 by_cases h1:64<(ak g p).n+(gC (ak g p)).length∨128<(ak g p).es.length+(gC (ak g p)).length
 ·have O9:Ef b g p=(dz,10):=by unfold Ef;rw [if_neg (by rw [h0];simp),if_pos h1]
  have hN:=C3 (ak g p) (by have:=hO.es;omega) (bJ g p) (Ac Nc) true (lE Nc) Rt Tc h1
  rw [O9]
  (refine Spec.hd (C:=T.cfg [] []) (rs:= [.c 4 28, .t 5]) (T.aj _ _) Tryz.func33 rfl rfl Tryz.ntmps33 Tryz.results33 (by simp [AObj.isNest]) (by simp [AObj.isNest]) (by kernel_rfl) T.mixed fun X hX hP hC aP bV=> ?_)
  repeat' (first|refine Rn.p ?_|(with_reducible apply And.intro)|((first|(refine hK _ ?_;clear hK K)|with_reducible intro K hK|refine Rs.p ?_|((with_reducible first|apply oP|apply oQ);exact rfl)|refine aa hX hC hP (PZ) rfl rfl rfl (by simp only [go_sem,simprocAttr,dz]) rfl ?_|refine aa hX hC hP (hN) rfl rfl rfl (by simp only [go_sem,simprocAttr,dz]) rfl ?_);try simp only [go_sem,simprocAttr,dz])|((with_reducible refine oD ?_ ?_);kernel_rfl)|((with_reducible intro h);try simp only [go_sem,simprocAttr,dz] at h)|omega|intro h)
  all_goals rfl
 have O9:Ef b g p=(Mz g (ak g p).n (gC (ak g p)) (nH g p false) (nH g p true),0):=by unfold Ef;rw [if_neg (by rw [h0];simp),if_neg h1]
 have Nd:Room g p:=⟨hO,by omega,by omega⟩
 rw [O9]
 have hN:=FU (ak g p) (by have:=hO.es;omega) (bJ g p) (Ac Nc) Nc Tc (gC (ak g p)) rfl (by omega) (by omega)
 have P3:=BS Nd
 have hk:=C2 (aI (ak g p) (gC (ak g p))) (by rw [eY];omega) (zY (ak g p) (bJ g p) (gC (ak g p))) (Ac P3) true (lE P3)
 have xx:Mw true (aI (ak g p) (gC (ak g p))) (zY (ak g p) (bJ g p) (gC (ak g p)))=(nH g p false,nH g p true,0):=if_pos ⟨by rw [mz (lE P3) P3],Eg Nd⟩
 rw [xx] at hk
 simp only at hk
 have hm:=ag hO.run.1
 have hn:=aA hm
 have Jm:=jL (g:=g) (p:=p)
 have lx:(nH g p false).length=((ak g p).n+(gC (ak g p)).length).toNat:=uw
 have ly:(nH g p true).length=((ak g p).n+(gC (ak g p)).length).toNat:=uw
 have CC:=pQ (g:=ak g p)
 have hfind:=fun i=>BT (g:=ak g p) CC.nd (i:=i)
 have hval:=fun i hi=>Kv (g:=ak g p) CC.nd (i:=i) hi
 have RG:∀i∈gC (ak g p),(gC (ak g p)).idxOf i<(gC (ak g p)).length:=fun i hi=>(sy hi).1
 generalize nH g p false=xs at*
 generalize nH g p true=ys at*
 generalize gC (ak g p)=bs at*
 have e9:aI (ak g p) bs=⟨(ak g p).n+bs.length,jU (ak g p) bs⟩:=rfl
 have Pz:zY (ak g p) (bJ g p) bs=⟨e8 (ak g p) bs bs.length (bJ g p).ord,(bJ g p).outs++jV (ak g p) bs.length⟩:=rfl
 rw [e9,Pz] at hk
 have Wg:(ak g p).n≤64:=hO.n
 generalize mK (ak g p) bs bs.length=an at*
 generalize jU (ak g p) bs=E at*
 generalize e8 (ak g p) bs bs.length (bJ g p).ord=RO at*
 generalize (bJ g p).outs++jV (ak g p) bs.length=RL at*
 generalize bJ g p=AP at*
 obtain ⟨AN,BU⟩:∃AN:Nat,(ak g p).n=AN:=⟨(ak g p).n.toNat,by omega⟩
 generalize Wh:ak g p=A at*
 have lZ:∀v:Nat,v<AN+bs.length→Spec Tryz.prog 77 (Args [eN v, .ptr 10001 0, .ptr 10002 0]) [(10001, .rob [.d (sI xs)]),(10002, .rob [.d (sI ys)])] (.agg [eN (xs.getD v 0),eN (ys.getD v 0)]) [(10001, .rob [.d (sI xs)]),(10002, .rob [.d (sI ys)])]:=fun v hv=>Kw xs ys v (by omega) (by omega) (by omega) (by omega)
 (refine Spec.hd (C:=T.cfg [] []) (rs:= [.c 4 28, .t 5]) (T.aj _ _) Tryz.func33 rfl rfl Tryz.ntmps33 Tryz.results33 (by simp [AObj.isNest]) (by simp [AObj.isNest]) (by kernel_rfl) T.mixed fun X hX hP hC aP bV=> ?_)
 repeat' (first|(show bY _ (.seq (.region 7 _ _) _) _ _;(refine cP hX 301 rfl (.inl rfl) ?_;simp only [go_sem,simprocAttr,jW,BU]);(refine cP hX 302 rfl (.inl rfl) ?_;simp only [go_sem,simprocAttr,jW,BU]);(refine cP hX 303 rfl (.inl rfl) ?_;simp only [go_sem,simprocAttr,jW,BU]))|(show bY _ (.seq (.region 10 _ _) _) _ _;(refine kI hX 14 0 401 (.tip 71 2 []) rfl rfl rfl (by simp only [go_sem,simprocAttr,jW,BU]) (by decide) (by simp [go_sem,simprocAttr,jW,BU]) ⟨71,2,by decide, .inr rfl⟩ ?_;simp only [List.set_cons_zero,List.set_cons_succ,go_sem,simprocAttr,jW,BU]);(refine kI hX 14 1 402 (.tip 25 1 []) rfl rfl rfl (by simp only [go_sem,simprocAttr,jW,BU]) (by decide) (by simp [go_sem,simprocAttr,jW,BU]) ⟨25,1,by decide, .inr rfl⟩ ?_;simp only [List.set_cons_zero,List.set_cons_succ,go_sem,simprocAttr,jW,BU]))|refine Rn.p ?_|(with_reducible apply And.intro)|((first|(refine hK _ ?_;clear hK K)|with_reducible intro K hK|refine Rs.p ?_|((with_reducible first|apply oP|apply oQ);exact rfl)|refine aa hX hC hP (PZ) rfl rfl rfl (by simp only [go_sem,simprocAttr,jW,BU]) rfl ?_|(refine au hX hC hP [(10000,300),(10001,301),(10002,302),(10003,303),(10004,304)] (hN) rfl rfl rfl ?_ ?_ ?_ ?_ ?_ ?_ ?_ ?_ ?_ ?_ ?_ ?_ ?_ ?_;(focus (simp only [go_sem,simprocAttr,jW,BU];done));(iterate 12 (focus (simp [go_sem,simprocAttr,jW,BU];done)));try simp only [List.map_cons,List.map_nil])|(refine cJ hX hC hP (hk) rfl rfl rfl ?_ ?_ rfl ?_;iterate 2 (focus (simp only [go_sem,simprocAttr,jW,BU];done))));try simp only [go_sem,simprocAttr,jW,BU])|((with_reducible refine oD ?_ ?_);kernel_rfl)|((with_reducible intro h);try simp only [go_sem,simprocAttr,jW,BU] at h)|omega|intro h)
 refine ai (fun k:Nat=>k≤g.n.toNat) (fun k=>⟨[(2, .ptr 2 0),(4, .ptr 4 0),(5,eN 0),(9, .ptr 300 0),(13, .fn 77 [] [.ptr 10 0, .ptr 11 0]),(14, .ptr 14 0),(58,eN g.n),(59,eN k)], [(2, .box [eN g.n, .d (sE g.es)]),(4, .box [.nil 71, .nil 25]),(10, .box [.d (sI xs)]),(11, .box [.d (sI ys)]),(14, .box [.ref 401, .ref 402]),(300, .box [eN ((AN:Int)+(bs.length:Int)), .d (sE E), .d (sI RO), .d (.sl 1 (vI RL)), .mref 304]),(304, .mp 0 an),(401, .tip 71 2 ((qW xs ys k).map rP)),(402, .tip 25 1 [])]⟩) (fun k=>g.n.toNat - k) 0 (by omega) ?_ ?_
 ·refine Le.of ?_ ?_<;>simp [go_sem,simprocAttr,qW,BU]
 rintro k hk
 rcases Nat.lt_or_ge k g.n.toNat with hlt|hge
 ·have hb:decide ((k:Int)<g.n)=true:=decide_eq_true (by omega)
  have hc:=lZ k (by omega)
  have cE:=IY (xs:=xs) (ys:=ys) (k:=k)
  have bZ:=Aa (xs:=xs) (ys:=ys) (k:=k)
  generalize Vf:qW xs ys (k+1)=P2 at cE
  generalize qW xs ys k=P1 at cE bZ
  repeat' (first|(show bY _ (.region 14 _ _) _ _;(refine ef hX 14 0 68 401 rfl rfl rfl (by first|exact .inl rfl|exact .inr rfl) (by decide) (by decide) ?_;simp only [List.set_cons_zero,List.set_cons_succ,go_sem,simprocAttr,hb,bZ]))|refine Rn.p ?_|(with_reducible apply And.intro)|((first|(refine hK _ ?_;clear hK K)|with_reducible intro K hK|refine Rs.p ?_|((with_reducible first|apply oP|apply oQ);exact rfl)|(refine bC hX hC hP [(10001,10),(10002,11)] (hc) rfl rfl rfl ?_ ?_ ?_ ?_ ?_ ?_ rfl rfl ?_ ?_;(focus (simp only [go_sem,simprocAttr,hb,bZ];done));(iterate 6 (focus (simp [go_sem,simprocAttr,hb,bZ];done)));try simp only [List.map_cons,List.map_nil]));try simp only [go_sem,simprocAttr,hb,bZ])|((with_reducible refine oD ?_ ?_);kernel_rfl)|((with_reducible intro h);try simp only [go_sem,simprocAttr,hb,bZ] at h)|omega|intro h)
  refine ⟨k+1,by omega, ?_,by omega⟩
  rw [Vf,cE]
  refine Le.of ?_ ?_<;>simp [go_sem,simprocAttr,hb,bZ,Ee,rP]
 have hb:decide ((k:Int)<g.n)=false:=decide_eq_false (by omega)
 obtain rfl:k=g.n.toNat:=by omega
 repeat' (first|refine Rn.p ?_|(with_reducible apply And.intro)|((first|(refine hK _ ?_;clear hK K)|with_reducible intro K hK|refine Rs.p ?_|((with_reducible first|apply oP|apply oQ);exact rfl));try simp only [go_sem,simprocAttr,hb])|((with_reducible refine oD ?_ ?_);kernel_rfl)|((with_reducible intro h);try simp only [go_sem,simprocAttr,hb] at h)|omega|intro h)
 have Vg:Mz g (AN:Int) bs xs ys=⟨qW xs ys g.n.toNat,w9 g (AN:Int) bs xs ys g.es.length⟩:=rfl
 have bZ:=Aa (xs:=xs) (ys:=ys) (k:=g.n.toNat)
 rw [Vg]
 generalize qW xs ys g.n.toNat=PT at bZ
 refine ai (fun i:Nat=>i≤g.es.length) (fun i=>⟨[(2, .ptr 2 0),(4, .ptr 4 0),(5,eN 0),(9, .ptr 300 0),(13, .fn 77 [] [.ptr 10 0, .ptr 11 0]),(14, .ptr 14 0),(72, .d (sE g.es)),(73,eN g.es.length),(74,eN i)], [(2, .box [eN g.n, .d (sE g.es)]),(4, .box [.nil 71, .nil 25]),(10, .box [.d (sI xs)]),(11, .box [.d (sI ys)]),(14, .box [.ref 401, .ref 402]),(300, .box [eN ((AN:Int)+(bs.length:Int)), .d (sE E), .d (sI RO), .d (.sl 1 (vI RL)), .mref 304]),(304, .mp 0 an),(401, .tip 71 2 (PT.map rP)),(402, .tip 25 1 (vP (w9 g (AN:Int) bs xs ys i)))]⟩) (fun i=>g.es.length - i) 0 (by omega) ?_ ?_
 ·refine Le.of ?_ ?_<;>simp [go_sem,simprocAttr,w9,vP]
 rintro i hi
 rcases Nat.lt_or_ge i g.es.length with hil|OA
 ·have hb:decide ((i:Int)<(g.es.length:Int))=true:=decide_eq_true (by omega)
  have t1:=bg hm hil
  have t2:=bh hm hil
  obtain ⟨u,hu⟩:∃u:Nat,(g.es.getD i (0,0)).1=u:=⟨(g.es.getD i (0,0)).1.toNat,by have:=t1.1;unfold tl at this;omega⟩
  obtain ⟨w,hw⟩:∃w:Nat,(g.es.getD i (0,0)).2=w:=⟨(g.es.getD i (0,0)).2.toNat,by have:=t2.1;unfold hd at this;omega⟩
  have Td:tl g i=u:=hu
  have Te:hd g i=w:=hw
  have hc1:=lZ u (by omega)
  have Ce:=lZ w (by omega)
  have cE:=IZ (g:=g) (N:=(AN:Int)) (bs:=bs) (xs:=xs) (ys:=ys) (k:=i)
  have j0:=Ku (g:=g) (N:=(AN:Int)) (bs:=bs) (xs:=xs) (ys:=ys) (k:=i)
  have Tf:∀l1 l2,vP (l1++ [l2])=vP l1++ [[sP l2]]:=fun l1 l2=>by simp [vP]
  have xF:=hfind (i:Int)
  generalize Th:w9 g (AN:Int) bs xs ys (i+1)=L2 at cE
  generalize w9 g (AN:Int) bs xs ys i=L1 at cE j0
  by_cases hin:(i:Int)∈bs
  ·rw [if_pos hin] at xF
   have FV:=hval (i:Int) hin
   have hq:=RG (i:Int) hin
   have HB:Nb g (AN:Int) bs xs ys i= [Ee xs ys u,Ee xs ys (AN+bs.idxOf (i:Int)),Ee xs ys w]:=by
    unfold Nb IX
    rw [if_pos hin,Td,Te,Int.toNat_natCast,Int.toNat_natCast,show ((AN:Int)+(bs.idxOf (i:Int):Nat)).toNat=AN+bs.idxOf (i:Int) by omega]
    rfl
   generalize bs.idxOf (i:Int)=q at xF FV hq HB
   rw [BU,show (AN:Int)+(q:Int)=((AN+q:Nat):Int) by omega] at FV
   have Hw:=lZ (AN+q) (by omega)
   generalize AN+q=qq at FV HB Hw
   repeat' (first|(show bY _ (.region 23 _ _) _ _;(refine ef hX 14 1 110 402 rfl rfl rfl (by first|exact .inl rfl|exact .inr rfl) (by decide) (by decide) ?_;simp only [List.set_cons_zero,List.set_cons_succ,go_sem,simprocAttr,hb,hu,hw,xF,FV,vP_length,j0,Option.isSome_some]))|refine Rn.p ?_|(with_reducible apply And.intro)|((first|(refine hK _ ?_;clear hK K)|with_reducible intro K hK|refine Rs.p ?_|((with_reducible first|apply oP|apply oQ);exact rfl)|(refine bC hX hC hP [(10001,10),(10002,11)] (hc1) rfl rfl rfl ?_ ?_ ?_ ?_ ?_ ?_ rfl rfl ?_ ?_;(focus (simp only [go_sem,simprocAttr,hb,hu,hw,xF,FV,vP_length,j0,Option.isSome_some];done));(iterate 6 (focus (simp [go_sem,simprocAttr,hb,hu,hw,xF,FV,vP_length,j0,Option.isSome_some];done)));try simp only [List.map_cons,List.map_nil])|(refine bC hX hC hP [(10001,10),(10002,11)] (Ce) rfl rfl rfl ?_ ?_ ?_ ?_ ?_ ?_ rfl rfl ?_ ?_;(focus (simp only [go_sem,simprocAttr,hb,hu,hw,xF,FV,vP_length,j0,Option.isSome_some];done));(iterate 6 (focus (simp [go_sem,simprocAttr,hb,hu,hw,xF,FV,vP_length,j0,Option.isSome_some];done)));try simp only [List.map_cons,List.map_nil])|(refine bC hX hC hP [(10001,10),(10002,11)] (Hw) rfl rfl rfl ?_ ?_ ?_ ?_ ?_ ?_ rfl rfl ?_ ?_;(focus (simp only [go_sem,simprocAttr,hb,hu,hw,xF,FV,vP_length,j0,Option.isSome_some];done));(iterate 6 (focus (simp [go_sem,simprocAttr,hb,hu,hw,xF,FV,vP_length,j0,Option.isSome_some];done)));try simp only [List.map_cons,List.map_nil]));try simp only [go_sem,simprocAttr,hb,hu,hw,xF,FV,vP_length,j0,Option.isSome_some])|((with_reducible refine oD ?_ ?_);kernel_rfl)|((with_reducible intro h);try simp only [go_sem,simprocAttr,hb,hu,hw,xF,FV,vP_length,j0,Option.isSome_some] at h)|omega|intro h)
   refine ⟨i+1,by omega, ?_,by omega⟩
   rw [Th,cE,HB,Tf]
   refine Le.of ?_ ?_<;>simp [go_sem,simprocAttr,hb,hu,hw,xF,FV,vP_length,j0,Option.isSome_some,Ee,rP,sP]
  ·rw [if_neg hin] at xF
   have HB:Nb g (AN:Int) bs xs ys i= [Ee xs ys u,Ee xs ys w]:=by
    unfold Nb IX
    rw [if_neg hin,Td,Te,Int.toNat_natCast,Int.toNat_natCast]
    rfl
   repeat' (first|(show bY _ (.region 23 _ _) _ _;(refine ef hX 14 1 110 402 rfl rfl rfl (by first|exact .inl rfl|exact .inr rfl) (by decide) (by decide) ?_;simp only [List.set_cons_zero,List.set_cons_succ,go_sem,simprocAttr,hb,hu,hw,xF,vP_length,j0,Option.isSome_none]))|refine Rn.p ?_|(with_reducible apply And.intro)|((first|(refine hK _ ?_;clear hK K)|with_reducible intro K hK|refine Rs.p ?_|((with_reducible first|apply oP|apply oQ);exact rfl)|(refine bC hX hC hP [(10001,10),(10002,11)] (hc1) rfl rfl rfl ?_ ?_ ?_ ?_ ?_ ?_ rfl rfl ?_ ?_;(focus (simp only [go_sem,simprocAttr,hb,hu,hw,xF,vP_length,j0,Option.isSome_none];done));(iterate 6 (focus (simp [go_sem,simprocAttr,hb,hu,hw,xF,vP_length,j0,Option.isSome_none];done)));try simp only [List.map_cons,List.map_nil])|(refine bC hX hC hP [(10001,10),(10002,11)] (Ce) rfl rfl rfl ?_ ?_ ?_ ?_ ?_ ?_ rfl rfl ?_ ?_;(focus (simp only [go_sem,simprocAttr,hb,hu,hw,xF,vP_length,j0,Option.isSome_none];done));(iterate 6 (focus (simp [go_sem,simprocAttr,hb,hu,hw,xF,vP_length,j0,Option.isSome_none];done)));try simp only [List.map_cons,List.map_nil]));try simp only [go_sem,simprocAttr,hb,hu,hw,xF,vP_length,j0,Option.isSome_none])|((with_reducible refine oD ?_ ?_);kernel_rfl)|((with_reducible intro h);try simp only [go_sem,simprocAttr,hb,hu,hw,xF,vP_length,j0,Option.isSome_none] at h)|omega|intro h)
   refine ⟨i+1,by omega, ?_,by omega⟩
   rw [Th,cE,HB,Tf]
   refine Le.of ?_ ?_<;>simp [go_sem,simprocAttr,hb,hu,hw,xF,vP_length,j0,Option.isSome_none,Ee,rP,sP]
 have hb:decide ((i:Int)<(g.es.length:Int))=false:=decide_eq_false (by omega)
 obtain rfl:i=g.es.length:=by omega
 repeat' (first|refine Rn.p ?_|(with_reducible apply And.intro)|((first|(refine hK _ ?_;clear hK K)|with_reducible intro K hK|refine Rs.p ?_|((with_reducible first|apply oP|apply oQ);exact rfl));try simp only [go_sem,simprocAttr,hb])|((with_reducible refine oD ?_ ?_);kernel_rfl)|((with_reducible intro h);try simp only [go_sem,simprocAttr,hb] at h)|omega|intro h)
end Go.Ab
end
section
namespace Go.Ab
open Go.Proofs
set_option maxRecDepth 10000
set_option linter.unusedSectionVars false
section
variable {g:Gr} {bs:List Int} (hm:aG g=true) (hb:zW g bs)
include hm hb
theorem BW {i:Nat} (hi:i<g.es.length):tl (aI g bs) i=tl g i∧hd (aI g bs) i=if (i:Int)∈bs then wU g bs i else hd g i:=by
 have:=cR (g:=g) (bs:=bs) (e:=(i:Int)) (by omega) (by omega)
 exact this
theorem BX {k:Nat} (hk:k<bs.length):tl (aI g bs) (g.es.length+k)=g.n+(k:Int)∧hd (aI g bs) (g.es.length+k)=hd g (bs.getD k 0).toNat:=by
 have:=iu (g:=g) (bs:=bs) hk
 exact this
theorem MB {c c':Nat→Bool} (hc:∀i:Nat,i<g.es.length→c i=true→c' i=true∧((i:Int)∈bs→c' (g.es.length+bs.idxOf (i:Int))=true)) {u v:Nat} (h:lB g false c u v):lB (aI g bs) false c' u v:=by
 induction h with
 |refl=>exact .refl
 |F9 _ _ hf=>cases hf
 | @fwd i hi Jn _ ih=>
   obtain ⟨e1,e2⟩:=BW hm hb hi
   obtain ⟨c1,c2⟩:=hc i hi Jn
   have s1:=lB.fwd (g:=aI g bs) (i:=i) (by rw [eY];omega) c1 (by rw [e1];exact ih)
   by_cases hin:(i:Int)∈bs
   ·rw [e2,if_pos hin] at s1
    obtain ⟨k1,k2⟩:=sy hin
    obtain ⟨e3,e4⟩:=BX hm hb k1
    have s2:=lB.fwd (g:=aI g bs) (i:=g.es.length+bs.idxOf (i:Int)) (by rw [eY];omega) (c2 hin) (by rw [e3];exact s1)
    rw [e4,k2,Int.toNat_natCast] at s2
    exact s2
   ·rw [e2,if_neg hin] at s1
    exact s1
theorem MC {c c':Nat→Bool} (h1:∀i:Nat,i<g.es.length→c' i=true→(i:Int)∉bs→c i=true) (h2:∀k:Nat,k<bs.length→c' (g.es.length+k)=true→c (bs.getD k 0).toNat=true) {u w:Nat} (hu:u<g.n.toNat) (h:lB (aI g bs) false c' u w):lB g false c u (tc g bs w).toNat:=by
 have hn:=aA hm
 induction h with
 |refl=>
  have:(tc g bs (u:Int)).toNat=u:=by unfold tc;rw [if_pos (by omega)];omega
  rw [this]
  exact .refl
 |F9 _ _ hf=>cases hf
 | @fwd i hi Jn _ ih=>
   rw [eY] at hi
   rcases Nat.lt_or_ge i g.es.length with hil|OA
   ·obtain ⟨e1,e2⟩:=BW hm hb hil
    have t:=bg hm hil
    have d:=bh hm hil
    have q1:(tc g bs (((tl (aI g bs) i).toNat:Nat):Int)).toNat=(tl g i).toNat:=by rw [e1];unfold tc;rw [if_pos (by omega)];omega
    rw [q1] at ih
    by_cases hin:(i:Int)∈bs
    ·obtain ⟨n1,n2,n3,n4⟩:=dr hb hin
     rw [e2,if_pos hin,show (((wU g bs (i:Int)).toNat:Nat):Int)=wU g bs (i:Int) by omega,n3]
     exact ih
    ·rw [e2,if_neg hin]
     have q2:(tc g bs (((hd g i).toNat:Nat):Int)).toNat=(hd g i).toNat:=by unfold tc;rw [if_pos (by omega)];omega
     rw [q2]
     exact .fwd hil (h1 i hil Jn hin) ih
   ·obtain ⟨k,rfl⟩:∃k,i=g.es.length+k:=⟨i - g.es.length,by omega⟩
    have hk:k<bs.length:=by omega
    obtain ⟨e1,e2⟩:=BX hm hb hk
    have hr:=hb.oM _ (aQ (d:=0) hk)
    have hil:(bs.getD k 0).toNat<g.es.length:=by omega
    have t:=bg hm hil
    have d:=bh hm hil
    have q1:(tc g bs (((tl (aI g bs) (g.es.length+k)).toNat:Nat):Int)).toNat=(tl g (bs.getD k 0).toNat).toNat:=by
     rw [e1];unfold tc;rw [if_neg (by omega),show ((((g.n+(k:Int)).toNat:Nat):Int) - g.n).toNat=k by omega];rfl
    rw [q1] at ih
    have q2:(tc g bs (((hd g (bs.getD k 0).toNat).toNat:Nat):Int)).toNat=(hd g (bs.getD k 0).toNat).toNat:=by unfold tc;rw [if_pos (by omega)];omega
    rw [e2,q2]
    exact .fwd hil (h2 k hk Jn) ih
theorem FW {u v:Nat} (hu:u<g.n.toNat) (hv:v<g.n.toNat):lB (aI g bs) false (fun _=>true) u v↔lB g false (fun _=>true) u v:=by
 constructor
 ·intro h
  have:=MC hm hb (c:=fun _=>true) (fun _ _ _ _=>rfl) (fun _ _ _=>rfl) hu h
  rw [show (tc g bs (v:Int)).toNat=v by unfold tc;rw [if_pos (by omega)];omega] at this
  exact this
 ·exact MB hm hb fun _ _ _=>⟨rfl,fun _=>rfl⟩
end
end Go.Ab
end
section
namespace Go.Ab
open Go.Proofs
attribute [local congr] ACall.congr gd.congr Nx.congr
set_option maxRecDepth 20000
set_option maxHeartbeats 8000000
theorem BY (d:Dr) (h1:d.pts.length≤9223372036854775807) (h2:d.ls.length≤9223372036854775807) (h3:∀l∈d.ls,l.length≤9223372036854775807):Spec Tryz.prog 35 (Args [eDr d,eDr d]) [] (eB true) []:=by
 (refine Spec.hd (C:=T.cfg [] []) (rs:= [.t 4]) (T.aj _ _) Tryz.func35 rfl rfl Tryz.ntmps35 Tryz.results35 (by simp [AObj.isNest]) (by simp [AObj.isNest]) (by kernel_rfl) T.mixed fun X hX hP hC aP bV=> ?_)
 repeat' (first|refine Rn.p ?_|(with_reducible apply And.intro)|((first|(refine hK _ ?_;clear hK K)|with_reducible intro K hK|refine Rs.p ?_|((with_reducible first|apply oP|apply oQ);exact rfl));try simp only [go_sem,simprocAttr,decide_true])|((with_reducible refine oD ?_ ?_);kernel_rfl)|((with_reducible intro h);try simp only [go_sem,simprocAttr,decide_true] at h)|omega|intro h)
 refine ai (fun k:Nat=>k≤d.pts.length) (fun k=>⟨[(2, .ptr 2 0),(3, .ptr 3 0),(4,eB false),(5,eN k)], [(2, .box [.d (sP d.pts), .d (sLn d.ls)]),(3, .box [.d (sP d.pts), .d (sLn d.ls)])]⟩) (fun k=>d.pts.length - k) 0 (by omega) ?_ ?_
 ·refine Le.of ?_ ?_<;>simp [go_sem,simprocAttr,decide_true]
 rintro k hk
 rcases Nat.lt_or_ge k d.pts.length with hlt|hge
 ·have hb:decide ((k:Int)<(d.pts.length:Int))=true:=decide_eq_true (by omega)
  repeat' (first|refine Rn.p ?_|(with_reducible apply And.intro)|((first|(refine hK _ ?_;clear hK K)|with_reducible intro K hK|refine Rs.p ?_|((with_reducible first|apply oP|apply oQ);exact rfl));try simp only [go_sem,simprocAttr,decide_true,hb])|((with_reducible refine oD ?_ ?_);kernel_rfl)|((with_reducible intro h);try simp only [go_sem,simprocAttr,decide_true,hb] at h)|omega|intro h)
  refine ⟨k+1,by omega, ?_,by omega⟩
  refine Le.of ?_ ?_<;>simp [go_sem,simprocAttr,decide_true,hb]
 have hb:decide ((k:Int)<(d.pts.length:Int))=false:=decide_eq_false (by omega)
 repeat' (first|refine Rn.p ?_|(with_reducible apply And.intro)|((first|(refine hK _ ?_;clear hK K)|with_reducible intro K hK|refine Rs.p ?_|((with_reducible first|apply oP|apply oQ);exact rfl));try simp only [go_sem,simprocAttr,decide_true,hb])|((with_reducible refine oD ?_ ?_);kernel_rfl)|((with_reducible intro h);try simp only [go_sem,simprocAttr,decide_true,hb] at h)|omega|intro h)
 refine ai (fun i:Nat=>i≤d.ls.length) (fun i=>⟨[(2, .ptr 2 0),(3, .ptr 3 0),(4,eB false),(6,eN i)], [(2, .box [.d (sP d.pts), .d (sLn d.ls)]),(3, .box [.d (sP d.pts), .d (sLn d.ls)])]⟩) (fun i=>d.ls.length - i) 0 (by omega) ?_ ?_
 ·refine Le.of ?_ ?_<;>simp [go_sem,simprocAttr,decide_true,hb]
 rintro i hi
 rcases Nat.lt_or_ge i d.ls.length with hil|OA
 ·have hb2:decide ((i:Int)<(d.ls.length:Int))=true:=decide_eq_true (by omega)
  have SO:=vP_getD d.ls i
  have Vh:=h3 _ (aQ (d:= []) hil)
  generalize hl:d.ls.getD i []=l at SO Vh
  repeat' (first|refine Rn.p ?_|(with_reducible apply And.intro)|((first|(refine hK _ ?_;clear hK K)|with_reducible intro K hK|refine Rs.p ?_|((with_reducible first|apply oP|apply oQ);exact rfl));try simp only [go_sem,simprocAttr,decide_true,hb2,hl,vP_length])|((with_reducible refine oD ?_ ?_);kernel_rfl)|((with_reducible intro h);try simp only [go_sem,simprocAttr,decide_true,hb2,hl,vP_length] at h)|omega|intro h)
  refine ai (fun j:Nat=>j≤l.length) (fun j=>⟨[(2, .ptr 2 0),(3, .ptr 3 0),(4,eB false),(6,eN i),(7,eN j)], [(2, .box [.d (sP d.pts), .d (sLn d.ls)]),(3, .box [.d (sP d.pts), .d (sLn d.ls)])]⟩) (fun j=>l.length - j) 0 (by omega) ?_ ?_
  ·refine Le.of ?_ ?_<;>simp [go_sem,simprocAttr,decide_true,hb2,hl,vP_length]
  rintro j hj
  rcases Nat.lt_or_ge j l.length with hjl|SH
  ·have hb3:decide ((j:Int)<(l.length:Int))=true:=decide_eq_true (by omega)
   repeat' (first|refine Rn.p ?_|(with_reducible apply And.intro)|((first|(refine hK _ ?_;clear hK K)|with_reducible intro K hK|refine Rs.p ?_|((with_reducible first|apply oP|apply oQ);exact rfl));try simp only [go_sem,simprocAttr,decide_true,hb2,hl,vP_length,hb3])|((with_reducible refine oD ?_ ?_);kernel_rfl)|((with_reducible intro h);try simp only [go_sem,simprocAttr,decide_true,hb2,hl,vP_length,hb3] at h)|omega|intro h)
   refine ⟨j+1,by omega, ?_,by omega⟩
   refine Le.of ?_ ?_<;>simp [go_sem,simprocAttr,decide_true,hb2,hl,vP_length,hb3]
  have hb3:decide ((j:Int)<(l.length:Int))=false:=decide_eq_false (by omega)
  repeat' (first|refine Rn.p ?_|(with_reducible apply And.intro)|((first|(refine hK _ ?_;clear hK K)|with_reducible intro K hK|refine Rs.p ?_|((with_reducible first|apply oP|apply oQ);exact rfl));try simp only [go_sem,simprocAttr,decide_true,hb2,hl,vP_length,hb3])|((with_reducible refine oD ?_ ?_);kernel_rfl)|((with_reducible intro h);try simp only [go_sem,simprocAttr,decide_true,hb2,hl,vP_length,hb3] at h)|omega|intro h)
  refine ⟨i+1,by omega, ?_,by omega⟩
  refine Le.of ?_ ?_<;>simp [go_sem,simprocAttr,decide_true,hb2,hl,vP_length,hb3]
 have hb2:decide ((i:Int)<(d.ls.length:Int))=false:=decide_eq_false (by omega)
 repeat' (first|refine Rn.p ?_|(with_reducible apply And.intro)|((first|(refine hK _ ?_;clear hK K)|with_reducible intro K hK|refine Rs.p ?_|((with_reducible first|apply oP|apply oQ);exact rfl));try simp only [go_sem,simprocAttr,decide_true,hb2])|((with_reducible refine oD ?_ ?_);kernel_rfl)|((with_reducible intro h);try simp only [go_sem,simprocAttr,decide_true,hb2] at h)|omega|intro h)
def BZ:Gr:=⟨3, [(0,1),(1,2),(0,2)]⟩
def Jp:Pl:=⟨[0,1,2], [[0,2], [1], []]⟩
def d21:Dr:=⟨[(0,0),(1,2),(3,3)], [[(0,0),(1,2)], [(1,2),(3,3)], [(0,0),(2,1),(3,3)]]⟩
theorem LP:(true=true)↔(bT BZ).1=0∧bk BZ Jp:=⟨fun _=>⟨by decide,⟨rfl,by decide,by decide⟩⟩,fun _=>rfl⟩
theorem R9:gC BZ= [2]:=by
 have hm:aG BZ=true:=by decide
 have h0:Gb BZ 0=false:=by rw [← w8 hm (by decide)];decide
 have h1:Gb BZ 1=false:=by rw [← w8 hm (by decide)];decide
 have h2:Gb BZ 2=true:=by rw [← w8 hm (by decide)];decide
 unfold gC
 rw [if_pos hm]
 show D5 BZ 3= [2]
 rw [qU,if_pos h2,qU,if_neg (by rw [h1];decide),qU,if_neg (by rw [h0];decide)]
 rfl
theorem Sa:Ef true BZ Jp=(d21,0):=by
 have a1:k8 true BZ Jp=(BZ,Jp,0):=rfl
 have a2:ak BZ Jp=BZ:=rfl
 have a3:bJ BZ Jp=Jp:=rfl
 unfold Ef nH
 rw [a1,a2,a3,R9,if_neg (by simp),if_neg (by decide)]
 rfl
end Go.Ab
end
section
namespace Go.Ab
open Go.Proofs
set_option maxRecDepth 10000
set_option linter.unusedSectionVars false
def ky (t:It):Bool × Int × Int:=(decide (0≤t.1),t.2)
structure Alike (G G':Gr) (P P':Pl):Prop where
 n:G'.n=G.n
 need:∀x,aV G' x=aV G x
 out:∀x,(bE P' x).map (dZ G')=(bE P x).map (dZ G)
 o1:∀x,∀e∈bE P x,0≤e
 o2:∀x,∀e∈bE P' x,0≤e
structure Wi (f f':Fr):Prop where
 row:f'.row.map ky=f.row.map ky
 pl:f'.pl=f.pl
section
variable {G G':Gr} {P P':Pl} (hA:Alike G G' P P')
include hA
end
section
variable {G G':Gr} {P P':Pl} (hA:Alike G G' P P') (hm:aG G=true) (hm':aG G'=true)
include hA hm hm'
end
section
variable {G G':Gr} {P P':Pl} (hA:Alike G G' P P') (h:aN G P) (h':aN G' P')
include hA h h'
end
end Go.Ab
end
section
namespace Go.Ab
open Go.Proofs
set_option maxRecDepth 10000
set_option linter.unusedSectionVars false
theorem Sb {g:Gr} {p:Pl} :(ak g p).es.length=g.es.length+(bq g p).length:=by
 show (g.es++bq g p).length=_
 rw [List.length_append]
section
variable {g:Gr} {p:Pl} (h:nu g p)
include h
end
end Go.Ab
end
section
namespace Go.Ab
open Go.Proofs
attribute [local congr] ACall.congr gd.congr Nx.congr
set_option maxRecDepth 10000
set_option maxHeartbeats 8000000
def Wj (rev:Bool) (row:List It) (i:Nat):Int:=((gG rev row).getD i (0,0,0)).2.2
def Ti (g:Gr) (f:Fr) (rev:Bool):Int:=match (gG rev f.row).find? (fun t=>az g f t.2.2) with
 |some t=>t.2.2
 |none=>match (List.range g.n.toNat).find? (fun x:Nat=>az g f (x:Int)) with
  |some x=>(x:Int)
  |none=> -1
end Go.Ab
end
section
namespace Go.Ab
open Go.Proofs
attribute [local congr] ACall.congr gd.congr Nx.congr
set_option maxRecDepth 20000
set_option maxHeartbeats 16000000
end Go.Ab
end
section
namespace Go.Ab
set_option maxRecDepth 10000
set_option linter.unusedSectionVars false
variable {P:PS}
structure PS.Hi (P:PS) (R:Int→Int) (f0 f1:Int) (hi:Int→Int):Prop where
 mid:∀ {x u a b v},P.ins x=u++a::b::v→hi (R a)=x
 h0:hi f0=P.LZ
 h1:hi f1=P.LZ
def PS.Tj (P:PS) (a:Int):Prop:=∃x u b v,P.outs x=u++a::b::v
section
variable (h:P.Ok) {L R:Int→Int} {f0 f1:Int} {low:Int→Int} (F:P.fk L R f0 f1 low)
include h F
theorem PS.Hi.A7 {hi:Int→Int} (H:P.Hi R f0 f1 hi):P.A7.Hi L f1 f0 hi:=
 {mid:=fun {x u a b v} e=>by
   have e:=jg (show (P.ins x).reverse=_ from e)
   rw [← F.o8 e];exact H.mid e
  h0:=H.h1
  h1:=H.h0}
variable {L' R':Int→Int} {Vi Vj:Int} {low':Int→Int} (F':P.fk L' R' Vi Vj low')
include F'
end
section
variable (h:P.Ok) {L R:Int→Int} {f0 f1:Int} {low:Int→Int} (F:P.fk L R f0 f1 low)
include h F
theorem xb {e:Int} (he:P.E e):P.hd e∈(P.st P.m).D:=by
 have hi:=P.inv h P.m (Nat.le_refl _)
 obtain ⟨j,hj,e2⟩:=iq h he
 have h1:e∈P.ru P.m:=PS.qn.2 ⟨j,hj,e2⟩
 rcases ((hi.sh e).1 h1).2 with h2|h2
 ·rw [Ht h] at h2;cases h2
 ·exact h2
theorem oo {x:Int} (hx:x≠P.src):∀ {j:Nat},j≤P.m→x∈(P.st j).D→∃i A' B,i<j∧x∉(P.st i).D∧P.hd (P.sh i)=x∧(P.st i).B=P.sh i::B∧(P.st i).A++ [P.sh i]=A'++P.ins x∧P.ins x≠ []∧P.st (i+1)=⟨A',P.outs x++B,(P.st i).D++ [x]⟩
 |0,_,hm=>by
  have:x∈ [P.src]:=hm
  simp at this;exact absurd this hx
 |j+1,hj,hm=>by
  by_cases hp:x∈(P.st j).D
  ·obtain ⟨i,A',B,h1,h2⟩:=oo hx (j:=j) (by omega) hp
   exact ⟨i,A',B,by omega,h2⟩
  ·obtain ⟨B,hB,hc⟩:=j5 h (show j<P.m by omega)
   rcases hc with ⟨A',h1,h2,h3⟩|⟨h1,h3⟩
   ·rw [h3] at hm
    rcases List.mem_append.1 hm with hm|hm
    ·exact absurd hm hp
    ·rw [List.mem_singleton] at hm
     subst hm
     exact ⟨j,A',B,by omega,hp,rfl,hB,h1,h2,h3⟩
   ·rw [h3] at hm;exact absurd hm hp
theorem Kx:(P.st P.m).B= []:=by
 cases hB:(P.st P.m).B with
 |nil=>rfl
 |cons e B=>
  exfalso
  obtain ⟨k,hr⟩:=lU h (Nat.le_refl P.m)
  have hm:=(h.dy hr e).1 (by rw [hB];simp)
  exact hm.2.2 (xb h F hm.1)
variable {hi:Int→Int} (H:P.Hi R f0 f1 hi)
include H
end
def Sc (t h:Int→Int) (l:List Int) (x:Int):Int:=match l.find? (fun i=>decide (t i=x)) with
 |some i=>h i
 |none=>x
def Sd (t h:Int→Int) (l:List Int) (x:Int):Nat→Int
 |0=>x
 |k+1=>Sc t h l (Sd t h l x k)
section
variable (h:P.Ok) {L R:Int→Int} {f0 f1:Int} {low:Int→Int} (F:P.fk L R f0 f1 low) {hi:Int→Int} (H:P.Hi R f0 f1 hi)
include h F H
end
end Go.Ab
end
section
namespace Go.Ab
open Go.Proofs
set_option maxRecDepth 10000
set_option linter.unusedSectionVars false
section
variable (g:Gr) (p:Pl)
def cK:Nat→Nat
 |0=>1
 |k+1=>cK k+((bE p (aq p k)).length - 1)
def MD (e:Int):Nat:=(bE p (dQ g e)).findIdx (fun i=>decide (i=e))
def qX (x:Int):Int:=(fG g p x).headD 0
def yH (x:Int):Int:=(fG g p x).getLastD 0
def LK:Nat→Int→Int
 |0,_=>0
 |k+1,e=>if dQ g e=aq p k then (if MD g p e=0 then (if k=0 then 0 else LK k (qX g p (aq p k))) else (cK p k:Int)+MD g p e - 1) else LK k e
def RK (r:Int):Nat→Int→Int
 |0,_=>0
 |k+1,e=>if dQ g e=aq p k then (if MD g p e+1<(bE p (aq p k)).length then (cK p k:Int)+MD g p e else (if k=0 then r else RK r k (yH g p (aq p k)))) else RK r k e
def qY:Nat→List Int
 |0=> [aq p 0]
 |k+1=>qY k++List.replicate ((bE p (aq p k)).length - 1) (aq p k)
end
section
variable {g:Gr} {p:Pl}
theorem nI:∀ {k:Nat},(qY p k).length=cK p k
 |0=>rfl
 |k+1=>by rw [qY,List.length_append,List.length_replicate,nI,cK]
theorem C6:∀ {k:Nat},0<cK p k
 |0=>by simp [cK]
 |k+1=>by rw [cK];have:= @C6 k;omega
theorem uz {k:Nat} :∀ {d:Nat},cK p k≤cK p (k+d)
 |0=>Nat.le_refl _
 |d+1=>by
  have:= @uz k d
  show _≤cK p (k+d+1)
  rw [cK];omega
theorem yI {k:Nat} {f:Nat} (hf:f<cK p k):∀ {d:Nat},(qY p (k+d)).getD f 0=(qY p k).getD f 0
 |0=>rfl
 |d+1=>by
  show (qY p (k+d+1)).getD f 0=_
  have:=uz (p:=p) (k:=k) (d:=d)
  rw [qY,List.getD_eq_getElem?_getD,List.getElem?_append_left (by rw [nI];omega), ← List.getD_eq_getElem?_getD,yI hf]
theorem I2 {k f:Nat} (h1:cK p k≤f) (h2:f<cK p (k+1)):(qY p (k+1)).getD f 0=aq p k:=by
 rw [qY,List.getD_eq_getElem?_getD,List.getElem?_append_right (by rw [nI];exact h1),List.getElem?_replicate,nI,if_pos (by rw [cK] at h2;omega)]
 rfl
variable (h:aN g p)
include h
theorem xd {k:Nat} (hk:k<g.n.toNat) {u v:List Int} {e:Int} (he:bE p (aq p k)=u++e::v):dQ g e=aq p k∧MD g p e=u.length:=by
 have hx:=aH h.2.1 hk
 have px:=bp h.2.1 hx.1 hx.2
 have h1:=(aZ.1 (px.mem_iff.1 (show e∈bE p (aq p k) by rw [he];simp))).2
 have h1:dQ g e=aq p k:=h1
 refine ⟨h1, ?_⟩
 have bN:(bE p (aq p k)).Nodup:=px.nodup_iff.2 cq
 unfold MD
 rw [h1,he]
 rw [he,List.nodup_append] at bN
 rw [List.findIdx_append]
 have h2:u.findIdx (fun i=>decide (i=e))=u.length:=by
  rw [List.findIdx_eq_length]
  intro i hi
  exact decide_eq_false fun e2=>bN.2.2 i hi e (by simp) e2
 rw [h2,if_neg (by omega)]
 simp [List.findIdx_cons]
theorem Eh {e:Int} {k:Nat} (hk:k<g.n.toNat) (he:dQ g e=aq p k):∀ {d:Nat},k+1+d≤g.n.toNat→LK g p (k+1+d) e=LK g p (k+1) e
 |0,_=>rfl
 |d+1,hd=>by
  show LK g p (k+1+d+1) e=_
  rw [LK,if_neg (fun e2=>by have:=cQ h.2.1 hk (show k+1+d<g.n.toNat by omega) (he.symm.trans e2);omega),Eh hk he (by omega)]
theorem Ei {r:Int} {e:Int} {k:Nat} (hk:k<g.n.toNat) (he:dQ g e=aq p k):∀ {d:Nat},k+1+d≤g.n.toNat→RK g p r (k+1+d) e=RK g p r (k+1) e
 |0,_=>rfl
 |d+1,hd=>by
  show RK g p r (k+1+d+1) e=_
  rw [RK,if_neg (fun e2=>by have:=cQ h.2.1 hk (show k+1+d<g.n.toNat by omega) (he.symm.trans e2);omega),Ei hk he (by omega)]
theorem nJ {e:Int} {k:Nat} (hk:k<g.n.toNat) (he:dQ g e=aq p k) {j:Nat} (h1:k+1≤j) (h2:j≤g.n.toNat):LK g p j e=LK g p (k+1) e:=by
 obtain ⟨d,rfl⟩:=Nat.exists_eq_add_of_le h1
 exact Eh h hk he h2
theorem nK {r:Int} {e:Int} {k:Nat} (hk:k<g.n.toNat) (he:dQ g e=aq p k) {j:Nat} (h1:k+1≤j) (h2:j≤g.n.toNat):RK g p r j e=RK g p r (k+1) e:=by
 obtain ⟨d,rfl⟩:=Nat.exists_eq_add_of_le h1
 exact Ei h hk he h2
theorem Ad {k:Nat} (hk:k<g.n.toNat) {v:List Int} {e:Int} (he:bE p (aq p k)=e::v) {j:Nat} (h1:k+1≤j) (h2:j≤g.n.toNat):LK g p j e=if k=0 then 0 else LK g p k (qX g p (aq p k)):=by
 obtain ⟨a,b⟩:=xd h hk (u:= []) he
 rw [nJ h hk a h1 h2,LK,if_pos a,if_pos (show MD g p e=0 from b)]
theorem Ej {k:Nat} (hk:k<g.n.toNat) {u v:List Int} {e:Int} (he:bE p (aq p k)=u++e::v) (hu:u≠ []) {j:Nat} (h1:k+1≤j) (h2:j≤g.n.toNat):LK g p j e=(cK p k:Int)+u.length - 1:=by
 obtain ⟨a,b⟩:=xd h hk he
 have:=List.length_pos_iff.2 hu
 rw [nJ h hk a h1 h2,LK,if_pos a,if_neg (by omega),b]
theorem C7 {r:Int} {k:Nat} (hk:k<g.n.toNat) {u:List Int} {e:Int} (he:bE p (aq p k)=u++ [e]) {j:Nat} (h1:k+1≤j) (h2:j≤g.n.toNat):RK g p r j e=if k=0 then r else RK g p r k (yH g p (aq p k)):=by
 obtain ⟨a,b⟩:=xd h hk he
 rw [nK h hk a h1 h2,RK,if_pos a,if_neg (by rw [b,he];simp)]
theorem oq {r:Int} {k:Nat} (hk:k<g.n.toNat) {u v:List Int} {e c:Int} (he:bE p (aq p k)=u++e::c::v) {j:Nat} (h1:k+1≤j) (h2:j≤g.n.toNat):RK g p r j e=(cK p k:Int)+u.length:=by
 obtain ⟨a,b⟩:=xd h hk he
 rw [nK h hk a h1 h2,RK,if_pos a,if_pos (by rw [b,he];simp),b]
theorem yJ {x:Int} {a:Int} {u:List Int} (hu:fG g p x=a::u):qX g p x=a:=by unfold qX;rw [hu];rfl
theorem B0 {x:Int} {a:Int} {u:List Int} (hu:fG g p x=u++ [a]):yH g p x=a:=by unfold yH;rw [hu];simp
theorem I3 {k:Nat} (hk:k<g.n.toNat) (hI:fG g p (aq p k)≠ []):k≠0:=fun h0=>by
 subst h0
 have:=iI h (aH h.2.1 hk)
 rw [eX h] at this
 exact hI (List.eq_nil_of_length_eq_zero this)
theorem xe {k:Nat} (hk:k<g.n.toNat) {a:Int} (ha:a∈fG g p (aq p k)):∃j,j<k∧dQ g a=aq p j:=by
 obtain ⟨h1,h2⟩:=((lg h (aH h.2.1 hk)).2 a).1 ha
 obtain ⟨j,h3,h4⟩:=zU h h1 hk h2
 exact ⟨j,h3,h4.symm⟩
def WK (g:Gr) (p:Pl) (k:Nat):List Int:=(dM (fK g p k).row).map (·.1)
theorem I4 (hn:0<g.n.toNat):WK g p 1=bE p (aq p 0):=by
 have hx:=aH h.2.1 hn
 have px:=bp h.2.1 hx.1 hx.2
 have hno:fe (aq p 0) (fK g p 0).row:=fun t ht=>by cases ht
 have hf:(fK g p 1).row=aL g (aq p 0) (bE p (aq p 0)):=by
  show (aC g (fK g p 0) (aq p 0) _).2.row=_
  rw [dK _ hno]
  show _++ []=_
  simp
 unfold WK
 rw [hf,gZ (fun i hi=>(aZ.1 (px.mem_iff.1 hi)).1.1),List.map_map]
 have e7:((fun t:It=>t.1) ∘ fc g (aq p 0))=id:=rfl
 rw [e7,List.map_id]
theorem Ek {k:Nat} (h0:k≠0) (hk:k<g.n.toNat):∃A C,WK g p k=A++fG g p (aq p k)++C∧fG g p (aq p k)≠ []∧WK g p (k+1)=A++bE p (aq p k)++C:=by
 have hm:=ag h.1
 obtain ⟨hi,bZ,_⟩:=bz hm h.2.1 (k:=k) (by omega) fun j hj=>h.2.2 j (by omega)
 have hR:=h.2.2 k hk
 have hx:=aH h.2.1 hk
 have px:=bp h.2.1 hx.1 hx.2
 have hn:aV g (aq p k)≠0:=fun hz=>by
  have Vk:=aH h.2.1 (show 0<g.n.toNat by omega)
  have:=eV h.1 hx Vk hz (eX h)
  exact h0 (cQ h.2.1 hk (by omega) this)
 obtain ⟨a,c,e1,_,_,_,hl,e2⟩:=um hm hi.toeo hR hn (bE p (aq p k))
 refine ⟨a.map (·.1),c.map (·.1), ?_, ?_, ?_⟩
 ·rw [uo h hk];unfold WK;rw [e1,List.map_append,List.map_append];rfl
 ·intro h1
  have:=iI h hx
  rw [h1] at this
  exact hn this.symm
 ·unfold WK
  show (dM (aC g (fK g p k) (aq p k) _).2.row).map (·.1)=_
  rw [e2,List.map_append,List.map_append,gZ (fun i hi=>(aZ.1 (px.mem_iff.1 hi)).1.1),List.map_map]
  have e7:((fun t:It=>t.1) ∘ fc g (aq p k))=id:=rfl
  rw [e7,List.map_id]
theorem El {k:Nat} (hk:k≤g.n.toNat) {a:Int} (ha:a∈WK g p k):∃j,j<k∧dQ g a=aq p j:=by
 have hm:=ag h.1
 obtain ⟨hi,bZ,_⟩:=bz hm h.2.1 (k:=k) (by omega) fun j hj=>h.2.2 j (by omega)
 obtain ⟨t,ht,rfl⟩:=List.mem_map.1 ha
 obtain ⟨h1,h2,_⟩:=qQ hm hi.toeo ht
 obtain ⟨h4,h5⟩:=dA.1 ht
 have:=hi.tail t h4 h5
 rw [bZ,h2] at this
 obtain ⟨j,hj,e⟩:=take_at (by rw [aM h.2.1];omega) this
 exact ⟨j,hj,e.symm⟩
theorem Em {r:Int} {k:Nat} (hk:k<g.n.toNat) {j:Nat} (h1:k+1≤j) (h2:j≤g.n.toNat):gE (LK g p j) (RK g p r j) (if k=0 then 0 else LK g p k (qX g p (aq p k))) (bE p (aq p k)):=by
 refine qo (fun u a b v e=> ?_) fun a u e=>Ad h hk e h1 h2
 rw [oq h hk e h1 h2,Ej h hk (u:=u++ [a]) (v:=v) (e:=b) (by rw [e];simp) (by simp) h1 h2]
 simp;omega
theorem En {r:Int} {k:Nat} (hk:k<g.n.toNat) {j:Nat} (h1:k+1≤j) (h2:j≤g.n.toNat) (hO:bE p (aq p k)≠ []) (f:Int):iS (RK g p r j) f (bE p (aq p k))=if k=0 then r else RK g p r k (yH g p (aq p k)):=by
 obtain ⟨v,b,hv⟩:=gn hO
 rw [hv,dJ,C7 h hk hv h1 h2]
theorem nL {L R L' R':Int→Int} :∀ {W:List Int} {f:Int},(∀a∈W,L a=L' a∧R a=R' a)→(gE L R f W↔gE L' R' f W)
 | [],_,_=>Iff.rfl
 |a::W,f,hh=>by
  have h1:=hh a (List.mem_cons_self ..)
  simp only [gE,h1.1,h1.2,nL (W:=W) fun b hb=>hh b (List.mem_cons_of_mem _ hb)]
theorem xg {R R':Int→Int} :∀ {W:List Int} {f:Int},(∀a∈W,R a=R' a)→iS R f W=iS R' f W
 | [],_,_=>rfl
 |a::W,f,hh=>by
  simp only [iS,hh a (List.mem_cons_self ..),xg (W:=W) fun b hb=>hh b (List.mem_cons_of_mem _ hb)]
theorem I5 {r:Int} (hI:lG g=true):∀ {k:Nat},1≤k→k<g.n.toNat→WK g p k≠ []→gE (LK g p k) (RK g p r k) 0 (WK g p k)∧iS (RK g p r k) 0 (WK g p k)=r
 |0,h1,_,_=>by omega
 |k+1,_,hk,hW=>by
  by_cases h0:k=0
  ·subst h0
   rw [I4 h (by omega)] at hW ⊢
   have a:=Em (r:=r) h (k:=0) (by omega) (j:=1) (Nat.le_refl _) (by omega)
   have b:=En (r:=r) h (k:=0) (by omega) (j:=1) (Nat.le_refl _) (by omega) hW 0
   rw [if_pos rfl] at a b
   exact ⟨a,b⟩
  ·obtain ⟨A,C,e1,hne,e2⟩:=Ek h h0 (show k<g.n.toNat by omega)
   obtain ⟨l1,l2⟩:=I5 hI (k:=k) (by omega) (by omega) (by rw [e1];simp [hne])
   have hO:bE p (aq p k)≠ []:=fun h1=>by
    have:=(lp h hI (aH h.2.1 (show k<g.n.toNat by omega))).1 h1
    have:=cQ h.2.1 (show k<g.n.toNat by omega) (by omega) this
    omega
   have K8:∀a∈WK g p k,LK g p (k+1) a=LK g p k a∧RK g p r (k+1) a=RK g p r k a:=fun a ha=>by
    obtain ⟨j,hj,e⟩:=El h (by omega) ha
    exact ⟨by rw [nJ h (by omega) e (j:=k+1) (by omega) (by omega),nJ h (by omega) e (j:=k) (by omega) (by omega)],by rw [nK h (by omega) e (j:=k+1) (by omega) (by omega),nK h (by omega) e (j:=k) (by omega) (by omega)]⟩
   rw [← nL h K8] at l1
   rw [← xg h fun a ha=>(K8 a ha).2] at l2
   rw [e1] at l1 l2 K8
   rw [e2]
   obtain ⟨a0,u0,MW⟩:=ij hne
   obtain ⟨u,a,hu⟩:=gn hne
   obtain ⟨l3,l5⟩:=cy.1 l1
   obtain ⟨l4,l6⟩:=cy.1 l3
   have Vl:LK g p (k+1) a0=iS (RK g p r (k+1)) 0 A:=by rw [MW] at l6;exact l6.1
   have Oy:∀f,iS (RK g p r (k+1)) f (fG g p (aq p k))=RK g p r k (yH g p (aq p k)):=fun f=>by
    rw [B0 h hu,hu,dJ,(K8 a (by rw [hu];simp)).2]
   have hlk:=Em (r:=r) h (k:=k) (by omega) (j:=k+1) (Nat.le_refl _) (by omega)
   have hfe:=En (r:=r) h (k:=k) (by omega) (j:=k+1) (Nat.le_refl _) (by omega) hO
   rw [if_neg h0] at hlk hfe
   rw [yJ h MW, ← (K8 a0 (by rw [MW];simp)).1,Vl] at hlk
   refine ⟨?_, ?_⟩
   ·rw [cy,cy,cC,hfe]
    rw [cC,Oy] at l5
    exact ⟨⟨l4,hlk⟩,l5⟩
   ·rw [cC,cC,hfe]
    rw [cC,cC,Oy] at l2
    exact l2
theorem C8 (hI:lG g=true) {r:Int} (hr:r<0∨cK p g.n.toNat≤r):(bu g p).fk (LK g p g.n.toNat) (RK g p r g.n.toNat) 0 r (fun f=>(qY p g.n.toNat).getD f.toNat 0):=by
 have hm:=ag h.1
 have hn:=aA hm
 have lZ:∀ {x:Int} {l:List Int},(bu g p).outs x=l→l≠ []→∃k,k<g.n.toNat∧aq p k=x∧bE p (aq p k)=l:=fun {x l} h1 h2=>by
  by_cases hx:kC g x
  ·obtain ⟨k,hk,rfl⟩:=cz h.2.1 hx.1 hx.2
   exact ⟨k,hk,rfl,by rw [← h1,er hx]⟩
  ·rw [lf hx] at h1;exact absurd h1.symm h2
 have Se:∀ {x:Int} {l:List Int},(bu g p).ins x=l→l≠ []→∃k,k<g.n.toNat∧aq p k=x∧fG g p (aq p k)=l:=fun {x l} h1 h2=>by
  by_cases hx:kC g x
  ·obtain ⟨k,hk,rfl⟩:=cz h.2.1 hx.1 hx.2
   exact ⟨k,hk,rfl,by rw [← h1,fH hx]⟩
  ·rw [j9 hx] at h1;exact absurd h1.symm h2
 have h0:(bu g p).src=aq p 0:=rfl
 have Pw:∀k,0<cK p k:=fun k=>C6
 exact {
  ne:=by have:=Pw g.n.toNat;omega
  iR:=fun {x u a b v} e=>by
   obtain ⟨k,hk,_,e2⟩:=lZ e (by simp)
   rw [oq h hk e2 (by omega) (Nat.le_refl _),Ej h hk (u:=u++ [a]) (v:=v) (e:=b) (by rw [e2];simp) (by simp) (by omega) (Nat.le_refl _)]
   simp;omega
  o8:=fun {x u a b v} e=>by
   obtain ⟨k,hk,_,e2⟩:=Se e (by simp)
   have xo:=I3 h hk (by rw [e2];simp)
   obtain ⟨A,C,e1,hne,_⟩:=Ek h xo hk
   have l1:=(I5 (r:=r) h hI (k:=k) (by omega) hk (by rw [e1];simp [hne])).1
   have K8:∀a∈WK g p k,LK g p g.n.toNat a=LK g p k a∧RK g p r g.n.toNat a=RK g p r k a:=fun a ha=>by
    obtain ⟨j,hj,e⟩:=El h (by omega) ha
    exact ⟨by rw [nJ h (by omega) e (j:=g.n.toNat) (by omega) (by omega),nJ h (by omega) e (j:=k) (by omega) (by omega)],by rw [nK h (by omega) e (j:=g.n.toNat) (by omega) (by omega),nK h (by omega) e (j:=k) (by omega) (by omega)]⟩
   rw [← nL h K8,e1,e2,show A++(u++a::b::v)++C=(A++u)++a::b::(v++C) by simp] at l1
   exact Hr l1
  fst:=fun {x a u b v} e1 e2=>by
   obtain ⟨k,hk,hx,e3⟩:=lZ e2 (by simp)
   have e4:fG g p (aq p k)=a::u:=by
    have Jk:kC g x:=by rw [← hx];exact aH h.2.1 hk
    rw [hx, ← fH Jk];exact e1
   have xo:=I3 h hk (by rw [e4];simp)
   obtain ⟨j,hj,et⟩:=xe h hk (a:=a) (by rw [e4];simp)
   rw [Ad h hk e3 (by omega) (Nat.le_refl _),if_neg xo,yJ h e4,nJ h (by omega) et (j:=g.n.toNat) (by omega) (Nat.le_refl _),nJ h (by omega) et (j:=k) (by omega) (by omega)]
  F5:=fun {x a u b v} e1 e2=>by
   obtain ⟨k,hk,hx,e3⟩:=lZ e2 (by simp)
   have e4:fG g p (aq p k)=u++ [a]:=by
    have Jk:kC g x:=by rw [← hx];exact aH h.2.1 hk
    rw [hx, ← fH Jk];exact e1
   have xo:=I3 h hk (by rw [e4];simp)
   obtain ⟨j,hj,et⟩:=xe h hk (a:=a) (by rw [e4];simp)
   rw [C7 h hk e3 (by omega) (Nat.le_refl _),if_neg xo,B0 h e4,nK h (by omega) et (j:=g.n.toNat) (by omega) (Nat.le_refl _),nK h (by omega) et (j:=k) (by omega) (by omega)]
  s0:=fun {b v} e=>by
   obtain ⟨k,hk,hx,e3⟩:=lZ e (by simp)
   have:k=0:=cQ h.2.1 hk (by omega) hx
   rw [Ad h hk e3 (by omega) (Nat.le_refl _),if_pos this]
  s1:=fun {b v} e=>by
   obtain ⟨k,hk,hx,e3⟩:=lZ e (by simp)
   have:k=0:=cQ h.2.1 hk (by omega) hx
   rw [C7 h hk e3 (by omega) (Nat.le_refl _),if_pos this]
  new:=fun {x u a b v} e=>by
   obtain ⟨k,hk,hx,e3⟩:=lZ e (by simp)
   have hR:=oq (r:=r) h hk e3 (j:=g.n.toNat) (by omega) (Nat.le_refl _)
   have hl:(bE p (aq p k)).length=u.length+(v.length+2):=by rw [e3];simp
   have Ce:cK p (k+1)=cK p k+((bE p (aq p k)).length - 1):=rfl
   obtain ⟨d,hd⟩:=Nat.exists_eq_add_of_le (show k+1≤g.n.toNat by omega)
   have hmo:=uz (p:=p) (k:=k+1) (d:=d)
   rw [← hd] at hmo
   have:=Pw k
   refine ⟨?_,by omega,by omega⟩
   show (qY p g.n.toNat).getD (RK g p r g.n.toNat a).toNat 0=x
   rw [hR,show ((cK p k:Int)+(u.length:Int)).toNat=cK p k+u.length by omega,hd,yI (by omega),I2 (by omega) (by omega),hx]
  new1:=fun {x u a b v u' a' b' v'} e1 e2 e3=>by
   obtain ⟨k,hk,hx,e4⟩:=lZ e1 (by simp)
   have e5:bE p (aq p k)=u'++a'::b'::v':=by
    have Jk:kC g x:=by rw [← hx];exact aH h.2.1 hk
    rw [hx, ← er Jk];exact e2
   rw [oq h hk e4 (by omega) (Nat.le_refl _),oq h hk e5 (by omega) (Nat.le_refl _)] at e3
   have hl:u.length=u'.length:=by omega
   rw [e4] at e5
   have:=(List.append_inj e5 hl).2
   simp only [List.cons.injEq] at this
   exact this.1}
end
end Go.Ab
end
section
namespace Go.Ab
open Go.Proofs
attribute [local congr] ACall.congr gd.congr Nx.congr
set_option maxRecDepth 10000
set_option maxHeartbeats 8000000
def Eo (A o:List Int) (f:Nat→Int):Nat→List Int
 |0=>A
 |j+1=>(Eo A o f j).set (o.getD j 0).toNat (f j)
def Tk (A o:List Int) (left:Int) (c:Nat) (j:Nat):List Int:=Eo A o (fun j=>if j=0 then left else (c:Int)+j - 1) j
def Tl (A o:List Int) (right:Int) (c:Nat) (j:Nat):List Int:=Eo A o (fun j=>if j+1<o.length then (c:Int)+j else right) j
def K9 (c k:Nat):List Int:=(List.range k).map fun i:Nat=>((c+i:Nat):Int)
def Wk (left:Int) (c d j:Nat):Int:=if min j (d - 1)=0 then left else (c:Int)+(min j (d - 1):Nat) - 1
def Wl (ed gp:D) (A B lo hi:List Int):List (Nat × AObj):= [(10000, .box [.d ed, .d gp, .ref 10001, .ref 10002, .ref 10003, .ref 10004]),(10001, .own 3 1 (A.map rI)),(10002, .own 3 1 (B.map rI)),(10003, .tip 3 1 (lo.map rI)),(10004, .own 3 1 (hi.map rI))]
def Wm (ed gp:D) (A B lo hi:List Int):List (Nat × AObj):= [(10000, .box [.d ed, .d gp, .ref 10001, .ref 10002, .ref 10005, .ref 10006]),(10001, .own 3 1 (A.map rI)),(10002, .own 3 1 (B.map rI)),(10005, .tip 3 1 (lo.map rI)),(10006, .own 3 1 (hi.map rI))]
end Go.Ab
end
section
namespace Go.Ab
open Go.Proofs
attribute [local congr] ACall.congr gd.congr Nx.congr
set_option maxRecDepth 10000
set_option maxHeartbeats 8000000
def Pb (A fs:List Int) (x:Int) (j:Nat):List Int:=Eo A fs (fun _=>x) j
end Go.Ab
end
section
namespace Go.Ab
open Go.Proofs
set_option maxRecDepth 10000
set_option linter.unusedSectionVars false
def arr (f:Int→Int) (m:Nat):List Int:=(List.range m).map fun i:Nat=>f (i:Int)
section
variable {g:Gr} {p:Pl} (h:aN g p)
include h
theorem Ky {k:Nat} (hk:k<g.n.toNat) {e:Int} (he:e∈bE p (aq p k)):(0≤e∧e<g.es.length)∧dQ g e=aq p k:=by
 have hx:=aH h.2.1 hk
 exact aZ.1 ((bp h.2.1 hx.1 hx.2).mem_iff.1 he)
end
section
variable (g:Gr) (p:Pl)
def C9:Nat→List Int
 |0=>bE p (aq p 0)
 |j+1=>if bE p (aq p (j+1))= [] then C9 j else (C9 j).take (fY (C9 j) (qX g p (aq p (j+1)))).toNat++bE p (aq p (j+1))++(C9 j).drop ((fY (C9 j) (qX g p (aq p (j+1)))).toNat+(fG g p (aq p (j+1))).length)
def Pd:Nat→List Int
 |0=> [0]++K9 1 ((bE p (aq p 0)).length - 1)++ [-1]
 |j+1=>(Pd j).take ((fY (C9 g p j) (qX g p (aq p (j+1)))).toNat+1)++K9 (cK p (j+1)) ((bE p (aq p (j+1))).length - 1)++(Pd j).drop ((fY (C9 g p j) (qX g p (aq p (j+1)))).toNat+(fG g p (aq p (j+1))).length)
def Pe (k:Nat):List Int:=((fG g p (aq p k)).dropLast).map (RK g p (-1) k)
def Sf:Nat→List Int
 |0=> [aq p (g.n.toNat - 1)]
 |k+1=>Pb (Sf k) (Pe g p k) (aq p k) (Pe g p k).length++List.replicate ((bE p (aq p k)).length - 1) 0
end
section
variable {g:Gr} {p:Pl}
variable (h:aN g p)
include h
end
end Go.Ab
end
section
namespace Go.Ab
open Go.Proofs
attribute [local congr] ACall.congr gd.congr Nx.congr
set_option maxRecDepth 60000
set_option maxHeartbeats 8000000
structure Fc where
 L:List Int
 R:List Int
 lo:List Int
 hi:List Int
def Sg (g:Gr) (p:Pl) (f:Int):Int:=if f= -1 then (cK p g.n.toNat:Int) else f
def Vm (g:Gr) (p:Pl):Fc:=⟨arr (LK g p g.n.toNat) g.es.length,(arr (RK g p (-1) g.n.toNat) g.es.length).map (Sg g p),qY p g.n.toNat++ [aq p 0],Sf g p g.n.toNat++ [aq p (g.n.toNat - 1)]⟩
def Vn:Fc:=⟨[], [], [], []⟩
def Wn (b:Bool) (g:Gr) (p:Pl):Fc × Int:=if ((cA b g p).2.1=0∧lG g=true)∧0<g.es.length then (Vm g p,0) else (Vn,1)
def Wo (f:Fc):AV:= .agg [.d (sI f.L), .d (sI f.R), .d (sI f.lo), .d (sI f.hi)]
def Vo (l:List Int) (f:Int→Int) (j:Nat):List Int:=(l.take j).map f++l.drop j
end Go.Ab
end
section
namespace Go.Ab
open Go.Proofs
set_option maxRecDepth 10000
set_option linter.unusedSectionVars false
section
variable (g:Gr) (p:Pl)
def cN:Nat:=cK p g.n.toNat
def Lf (e:Int):Int:=LK g p g.n.toNat e
def Rf (e:Int):Int:=RK g p (cN g p) g.n.toNat e
def Vp:List Int:=qY p g.n.toNat++ [aq p 0]
def Vq:List Int:=Sf g p g.n.toNat++ [aq p (g.n.toNat - 1)]
def Sh (f:Int):Int:=(Vp g p).getD f.toNat 0
def Wp (f:Int):Int:=(Vq g p).getD f.toNat 0
end
section
variable {g:Gr} {p:Pl}
variable (h:aN g p) (hI:lG g=true)
include h hI
theorem Pf {a:Int} (ha:(bu g p).Tj a):∃k u b v,k<g.n.toNat∧dQ g a=aq p k∧bE p (aq p k)=u++a::b::v:=by
 obtain ⟨x,u,b,v,e⟩:=ha
 by_cases hx:kC g x
 ·obtain ⟨k,hk,rfl⟩:=cz h.2.1 hx.1 hx.2
  rw [er hx] at e
  exact ⟨k,u,b,v,hk,(xd h hk e).1,e⟩
 ·rw [lf hx] at e;cases u<;>cases e
theorem Pg {a:Int} (ha:(bu g p).Tj a):∃f:Nat,1≤f∧f<cN g p∧∀r,RK g p r g.n.toNat a=f:=by
 obtain ⟨k,u,b,v,hk,_,e⟩:=Pf h hI ha
 have hl:(bE p (aq p k)).length=u.length+(v.length+2):=by rw [e];simp
 have Ce:cK p (k+1)=cK p k+((bE p (aq p k)).length - 1):=rfl
 obtain ⟨d,hd⟩:=Nat.exists_eq_add_of_le (show k+1≤g.n.toNat by omega)
 have hmo:=uz (p:=p) (k:=k+1) (d:=d)
 rw [← hd] at hmo
 have hp:0<cK p k:=C6
 have Ny:cN g p=cK p g.n.toNat:=rfl
 exact ⟨cK p k+u.length,by omega,by omega,fun r=>by rw [oq h hk e (by omega) (Nat.le_refl _)];omega⟩
theorem jO:(bu g p).fk (Lf g p) (Rf g p) 0 (cN g p) (Sh g p):=by
 have F:=C8 h hI (r:=cN g p) (.inr (Int.le_refl _))
 exact {F with
  new:=fun {x u a b v} e=>by
   obtain ⟨h1,h2,h3⟩:=F.new e
   obtain ⟨f,_,h5,h6⟩:=Pg h hI (a:=a) ⟨x,u,b,v,e⟩
   have h7:Rf g p a=f:=h6 _
   have h8:RK g p (cN g p) g.n.toNat a=f:=h6 _
   refine ⟨?_,h2,h3⟩
   rw [h8] at h1
   show (qY p g.n.toNat++ [aq p 0]).getD (Rf g p a).toNat 0=x
   rw [h7, ← h1,Int.toNat_natCast,nt (by rw [nI];exact h5)]}
end
end Go.Ab
end
section
namespace Go.Ab
open Go.Proofs
set_option maxRecDepth 10000
set_option linter.unusedSectionVars false
theorem ME {G:Gr} {P:PS} {A B:Int→Int} (hm:aG G=true) (hl:G.es.length=P.m) (ht:∀i:Nat,i<P.m→tl G i=A i) (hh:∀i:Nat,i<P.m→hd G i=B i) {x:Nat} {y:Int} :
 P.Lp A B x y↔0≤y∧lB G false (fun _=>true) x y.toNat:=by
 constructor
 ·intro hp
  induction hp with
  |refl=>exact ⟨by omega,by simp only [Int.toNat_natCast];exact .refl⟩
  | @step e _ he ih=>
    have h1:=he.1;have h2:=he.2
    have hi:e.toNat<G.es.length:=by omega
    have e1:=ht e.toNat (by omega)
    have e2:=hh e.toNat (by omega)
    rw [show ((e.toNat:Nat):Int)=e by omega] at e1 e2
    have:=bh hm hi
    rw [← e2]
    refine ⟨this.1, .fwd hi rfl ?_⟩
    rw [e1];exact ih.2
 ·rintro ⟨h0,hr⟩
  have key:∀z,lB G false (fun _=>true) x z→P.Lp A B x (z:Int):=by
   intro z hz
   induction hz with
   |refl=>exact .refl
   | @fwd i hi _ _ ih=>
     have h1:=bg hm hi
     have h2:=bh hm hi
     rw [show (((tl G i).toNat:Nat):Int)=tl G i by omega,ht i (by omega)] at ih
     rw [show (((hd G i).toNat:Nat):Int)=hd G i by omega,hh i (by omega)]
     exact .step (e:=(i:Int)) ih ⟨by omega,by omega⟩
   |F9 _ _ h _ _=>cases h
  have:=key _ hr
  rwa [show ((y.toNat:Nat):Int)=y by omega] at this
theorem xh {P:PS} {x y:Int} :P.kJ x y↔P.Lp P.tl P.hd x y:=by
 constructor<;>intro hp
 ·induction hp with
  |refl=>exact .refl
  |step _ he ih=>exact .step ih he
 ·induction hp with
  |refl=>exact .refl
  |step _ he ih=>exact .step ih he
def tJ (s:Nat) (x:Int):Bool:=decide (0≤x)&&decide (x<64)&&s.testBit x.toNat
theorem Kz {G:Gr} {P:PS} {A B:Int→Int} (hm:aG G=true) (hl:G.es.length=P.m) (ht:∀i:Nat,i<P.m→tl G i=A i) (hh:∀i:Nat,i<P.m→hd G i=B i) {x y:Int} (hx:0≤x∧x<G.n) (hy:0≤y∧y<G.n):
 tJ ((yB G).getD x.toNat 0) y=true↔P.Lp A B x y:=by
 have hn:=aA hm
 have h1:=ME hm hl ht hh (x:=x.toNat) (y:=y)
 rw [show ((x.toNat:Nat):Int)=x by omega] at h1
 rw [h1]
 unfold tJ yB
 rw [if_pos hm,sF (by omega)]
 simp only [Bool.and_eq_true,decide_eq_true_eq,uu]
 constructor
 ·exact fun h=>⟨hy.1,h.2.2⟩
 ·exact fun h=>⟨⟨hy.1,by omega⟩,by omega,h.2⟩
theorem Ep {G:Gr} (hm:aG G=true):(yB G).length=G.n.toNat:=by
 unfold yB;rw [if_pos hm];exact qS
theorem MF {G:Gr} (hm:aG G=true) {x:Nat} :(yB G).getD x 0<18446744073709551616:=by
 have hn:=aA hm
 by_cases hx:x<G.n.toNat
 ·unfold yB
  rw [if_pos hm,sF hx]
  have:OZ G false (fun _=>true) x<2 ^ G.n.toNat:=DZ
  exact Nat.lt_of_lt_of_le this (Nat.pow_le_pow_right (by decide) (show G.n.toNat≤64 by omega))
 ·rw [List.getD_eq_getElem?_getD,List.getElem?_eq_none (by rw [Ep hm];omega)];decide
section
variable {P:PS} (h:P.Ok) {L R:Int→Int} {f0 f1:Int} {low:Int→Int} (F:P.fk L R f0 f1 low)
def Vr (P:PS) (R:Int→Int) (f:Int):Nat→Nat
 |0=>0
 |j+1=>if R (P.sh j)=f then j+1 else Vr P R f j
include h F
end
section
variable (g:Gr) (p:Pl)
def Wq:Gr:=⟨(cN g p:Int)+1,(List.range g.es.length).map fun i:Nat=>(Lf g p i,Rf g p i)⟩
end
section
variable {g:Gr} {p:Pl}
variable (h:aN g p) (hI:lG g=true)
include h hI
end
end Go.Ab
end
section
namespace Go.Ab
open Go.Proofs
attribute [local congr] ACall.congr gd.congr Nx.congr
set_option maxRecDepth 20000
set_option maxHeartbeats 8000000
end Go.Ab
end
section
namespace Go.Ab
open Go.Proofs
attribute [local congr] ACall.congr gd.congr Nx.congr
set_option maxRecDepth 20000
set_option maxHeartbeats 8000000
def Wr (f:Fc) (k:Nat):List Edge:=(List.range k).map fun i:Nat=>(f.L.getD i 0,f.R.getD i 0)
def Vs (b:Bool) (g:Gr) (p:Pl):Bool:= !wo g p&&lG g&&decide ((cA b g p).2.1=0)&&decide (0<(g.es.length:Int))&&decide ((g.es.length:Int)≤60)
def Ws:Gr:=⟨4, [(0,1),(1,3),(0,2),(2,3)]⟩
def Wt:Pl:=⟨[0,1,2,3], [[0,2], [1], [3], []]⟩
end Go.Ab
end
section
namespace Go.Ab
open Go.Proofs
attribute [local congr] ACall.congr gd.congr Nx.congr
set_option maxRecDepth 20000
set_option maxHeartbeats 8000000
theorem kz:Spec Tryz.prog 32 (Args []) [] (eB true) []:=by
 have Si:=yG BZ (by decide) Jp ⟨by decide,by decide,by decide⟩ (by decide) (by decide) (by decide) true LP
 rw [Sa] at Si
 simp only at Si
 have Vt:=BY d21 (by decide) (by decide) (by decide)
 have e1:BZ.es.map rE= [[.sc (.int .i64 0), .sc (.int .i64 1)], [.sc (.int .i64 1), .sc (.int .i64 2)], [.sc (.int .i64 0), .sc (.int .i64 2)]]:=rfl
 have e2:Jp.ord.map rI= [[.sc (.int .i64 0)], [.sc (.int .i64 1)], [.sc (.int .i64 2)]]:=rfl
 have e3:vI Jp.outs= [[.sl 1 [[.sc (.int .i64 0)], [.sc (.int .i64 2)]]], [.sl 1 [[.sc (.int .i64 1)]]], [.sl 1 []]]:=rfl
 have e4:BZ.n=3:=rfl
 have e5:d21.pts.map rP= [[.sc (.int .i64 0), .sc (.int .i64 0)], [.sc (.int .i64 1), .sc (.int .i64 2)], [.sc (.int .i64 3), .sc (.int .i64 3)]]:=rfl
 have e6:vP d21.ls= [[.sl 2 [[.sc (.int .i64 0), .sc (.int .i64 0)], [.sc (.int .i64 1), .sc (.int .i64 2)]]], [.sl 2 [[.sc (.int .i64 1), .sc (.int .i64 2)], [.sc (.int .i64 3), .sc (.int .i64 3)]]], [.sl 2 [[.sc (.int .i64 0), .sc (.int .i64 0)], [.sc (.int .i64 2), .sc (.int .i64 1)], [.sc (.int .i64 3), .sc (.int .i64 3)]]]]:=rfl
 (refine Spec.hd (C:=T.cfg [] []) (rs:= [.t 0]) (T.aj _ _) Tryz.func32 rfl rfl Tryz.ntmps32 Tryz.results32 (by simp [AObj.isNest]) (by simp [AObj.isNest]) (by kernel_rfl) T.mixed fun X hX hP hC aP bV=> ?_)
 repeat' (first|refine Rn.p ?_|(with_reducible apply And.intro)|((first|(refine hK _ ?_;clear hK K)|with_reducible intro K hK|refine Rs.p ?_|((with_reducible first|apply oP|apply oQ);exact rfl)|(refine cJ hX hC hP (Si) rfl rfl rfl ?_ ?_ rfl ?_;iterate 2 (focus (simp only [go_sem,simprocAttr,e1,e2,e3,e4,e5,e6,List.map_cons,List.map_nil,rI,decide_true];done)))|(refine cJ hX hC hP (Vt) rfl rfl rfl ?_ ?_ rfl ?_;iterate 2 (focus (simp only [go_sem,simprocAttr,e1,e2,e3,e4,e5,e6,List.map_cons,List.map_nil,rI,decide_true];done))));try simp only [go_sem,simprocAttr,e1,e2,e3,e4,e5,e6,List.map_cons,List.map_nil,rI,decide_true])|((with_reducible refine oD ?_ ?_);kernel_rfl)|((with_reducible intro h);try simp only [go_sem,simprocAttr,e1,e2,e3,e4,e5,e6,List.map_cons,List.map_nil,rI,decide_true] at h)|omega|intro h)
end Go.Ab
end
section
namespace Go.Ab
set_option maxRecDepth 10000
set_option linter.unusedSectionVars false
variable {P:PS}
section
variable (h:P.Ok)
include h
theorem KA {j:Nat} (hj:j<P.m) {x:Int} (hx:x∈(P.st j).D):x∈(P.st (j+1)).D:=by
 obtain ⟨B,hB,hc⟩:=j5 h hj
 rcases hc with ⟨A',h1,h2,h3⟩|⟨h1,h3⟩
 ·rw [h3];exact List.mem_append.2 (.inl hx)
 ·rw [h3];exact hx
theorem Da {j:Nat} {x:Int} :∀ {d:Nat},j+d≤P.m→x∈(P.st j).D→x∈(P.st (j+d)).D
 |0,_,hx=>hx
 |d+1,hj,hx=>KA h (j:=j+d) (by omega) (Da (d:=d) (by omega) hx)
theorem Ph {i j:Nat} (hij:i≤j) (hj:j≤P.m) {x:Int} (hx:x∈(P.st i).D):x∈(P.st j).D:=by
 obtain ⟨d,rfl⟩:=Nat.exists_eq_add_of_le hij
 exact Da h hj hx
theorem Ae {j:Nat} (hj:j<P.m):P.tl (P.sh j)∈(P.st j).D:=by
 obtain ⟨B,hB⟩:=gq h hj
 obtain ⟨k,hr⟩:=lU h (Nat.le_of_lt hj)
 exact ((h.dy hr (P.sh j)).1 (by rw [hB];simp)).2.1
theorem MG {j:Nat} (hj:j≤P.m) {e:Int} (he:P.E e) (hh:P.hd e∈(P.st j).D):P.tl e∈(P.st j).D:=by
 have h1:e∈P.ru j:=((P.inv h j hj).sh e).2 ⟨he, .inr hh⟩
 obtain ⟨i,hi,e1⟩:=PS.qn.1 h1
 have:=Ae h (j:=i) (by omega)
 rw [e1] at this
 exact Ph h (Nat.le_of_lt hi) hj this
theorem Pj {j:Nat} (hj:j≤P.m) {x y:Int} (hr:P.kJ x y) (hy:y∈(P.st j).D):x∈(P.st j).D:=by
 induction hr with
 |refl=>exact hy
 |step _ he ih=>exact ih (MG h hj he hy)
end
def PS.P4 (P:PS) (a b:Int):Prop:=∃j,j≤P.m∧a∈(P.st j).D∧b∉(P.st j).D
def PS.MH (P:PS) (L R:Int→Int) (a b:Int):Prop:=∃u e f v,P.outs a=u++ [e]∧P.outs b=f::v∧P.Lp L R (R e) (L f)
section
variable (h:P.Ok) {L R:Int→Int} {f0 f1:Int} {low:Int→Int} (F:P.fk L R f0 f1 low)
include h F
theorem I6 {x e e':Int} (hx:x≠P.src) (he:e∈P.outs x) (he':e'∈P.outs x) {i t k:Nat} (hi:P.sh i=e) (hk:P.sh k=e') (hkm:k<P.m) (h1:i≤t) (h2:t≤k):P.kJ x (P.tl (P.sh t)):=by
 obtain ⟨hE,ht⟩:=(h.bW x e).1 he
 obtain ⟨Wu,ht'⟩:=(h.bW x e').1 he'
 have F8:x∈(P.st i).D:=by have:=Ae h (j:=i) (by omega);rwa [hi,ht] at this
 obtain ⟨q,A',B,h3,h4,h5,h6,h7,h8,h9⟩:=oo h F hx (show i≤P.m by omega) F8
 obtain ⟨v,w,hv⟩:=List.append_of_mem he'
 have hB:(P.st (q+1)).B=v++e'::(w++B):=by rw [h9,hv];simp
 obtain ⟨Z,hZ,Vu⟩:=vt h F hkm (show q<k by omega) hB (fun z hz=>((h.bW x z).1 (by rw [hv];simp [hz])).2) ht' hk (t:=t) (by omega) h2
 by_cases zM:t=k
 ·subst zM;rw [hk,ht'];exact .refl
 ·cases Z with
  |nil=>
   exfalso
   obtain ⟨B2,xz⟩:=gq h (show t<P.m by omega)
   rw [hZ] at xz
   have:P.sh t=e':=by simpa using (List.cons.inj xz).1.symm
   exact zM (zw h (by omega) hkm (this.trans hk.symm))
  |cons z Z=>
   obtain ⟨B2,xz⟩:=gq h (show t<P.m by omega)
   rw [hZ] at xz
   have:P.sh t=z:=(List.cons.inj xz).1.symm
   rw [this]
   exact Vu z (by simp)
theorem uA {a e:Int} (he:e∈P.outs a) {y:Int} (hr:P.kJ (P.hd e) y):P.kJ a y:=by
 obtain ⟨hE,ht⟩:=(h.bW a e).1 he
 have:P.kJ a (P.tl e):=by rw [ht];exact .refl
 exact (PS.kJ.step this hE).trans hr
theorem FX {a b:Int} (ha:a≠P.src) (hb:b≠P.src) (hab:¬P.kJ a b) (hba:¬P.kJ b a) (P5:P.outs a≠ []) (Ah:P.outs b≠ []):P.MH L R a b∨P.MH L R b a:=by
 obtain ⟨u,e,hu⟩:=gn P5
 obtain ⟨e',u',tj⟩:=ij P5
 obtain ⟨v,f',hv⟩:=gn Ah
 obtain ⟨f,v',F4⟩:=ij Ah
 have m1:e∈P.outs a:=by rw [hu];simp
 have m2:e'∈P.outs a:=by rw [tj];simp
 have m3:f'∈P.outs b:=by rw [hv];simp
 have m4:f∈P.outs b:=by rw [F4];simp
 obtain ⟨E1,t1⟩:=(h.bW a e).1 m1
 obtain ⟨E2,t2⟩:=(h.bW a e').1 m2
 obtain ⟨E3,t3⟩:=(h.bW b f').1 m3
 obtain ⟨E4,t4⟩:=(h.bW b f).1 m4
 have hne:a≠b:=fun e1=>hab (e1 ▸ .refl)
 have c1:P.Lp L R (R e) (L f)∨P.Lp L R (R f) (L e):=by
  rcases xU h F E1 E4 (fun e1=>hne (by rw [← t1, ← t4,e1])) with g|g|g|g
  ·rw [t4] at g;exact absurd (uA h F m1 g) hab
  ·rw [t1] at g;exact absurd (uA h F m4 g) hba
  ·exact .inl g
  ·exact .inr g
 have c2:P.Lp L R (R e') (L f')∨P.Lp L R (R f') (L e'):=by
  rcases xU h F E2 E3 (fun e1=>hne (by rw [← t2, ← t3,e1])) with g|g|g|g
  ·rw [t3] at g;exact absurd (uA h F m2 g) hab
  ·rw [t2] at g;exact absurd (uA h F m3 g) hba
  ·exact .inl g
  ·exact .inr g
 rcases c1 with c1|c1
 ·exact .inl ⟨u,e,f,v',hu,F4,c1⟩
 rcases c2 with c2|c2
 rotate_left
 ·exact .inr ⟨v,f',e',u',hv,tj,c2⟩
 exfalso
 obtain ⟨p1,q1,r1,r2,r3,r4⟩:=rS h F E4 E1 c1
 obtain ⟨p2,q2,s1,s2,s3,s4⟩:=rS h F E2 E3 c2
 rcases Nat.lt_or_ge p1 p2 with h1|h1
 ·have:=I6 h F hb m4 m3 r3 s4 s2 (t:=p2) (by omega) (by omega)
  rw [s3,t2] at this;exact hba this
 ·have:=I6 h F ha m2 m1 s3 r4 r2 (t:=p1) (by omega) (by omega)
  rw [r3,t4] at this;exact hab this
theorem I7 {a b:Int} (hl:P.MH L R b a):∃p q e f,p<q∧q<P.m∧e∈P.outs b∧f∈P.outs a∧P.sh p=e∧P.sh q=f∧∃v,P.outs a=f::v:=by
 obtain ⟨u,e,f,v,hu,hv,hp⟩:=hl
 have m1:e∈P.outs b:=by rw [hu];simp
 have m2:f∈P.outs a:=by rw [hv];simp
 obtain ⟨i,j,h1,h2,h3,h4⟩:=rS h F ((h.bW b e).1 m1).1 ((h.bW a f).1 m2).1 hp
 exact ⟨i,j,e,f,h1,h2,m1,m2,h3,h4,v,hv⟩
theorem Er {a b:Int} (ha:a≠P.src) (hb:P.P4 a b) (hl:P.MH L R b a):False:=by
 obtain ⟨p,q,e,f,h1,h2,h3,h4,h5,h6,v,hv⟩:=I7 h F hl
 obtain ⟨j,hj,g1,g2⟩:=hb
 obtain ⟨i,A',B,k1,k2,k3,k4,k5,k6,k7⟩:=oo h F ha hj g1
 have hs:P.sh (i+1)=f:=by unfold PS.sh;rw [k7,hv];rfl
 have hq:q=i+1:=by
  by_cases hi:i+1<P.m
  ·exact zw h h2 hi (h6.trans hs.symm)
  ·exfalso
   have he:i+1=P.m:=by omega
   have:=Kx h F
   rw [← he,k7,hv] at this
   simp at this
 have ht:=Ae h (j:=p) (by omega)
 rw [h5,((h.bW b e).1 h3).2] at ht
 exact g2 (Ph h (by omega) hj ht)
theorem KB {a b:Int} (ha:a≠P.src) (hb:b≠P.src) (hab:¬P.kJ a b) (hba:¬P.kJ b a) (P5:P.outs a≠ []) (Ah:P.outs b≠ []) (Nf:P.P4 a b):P.MH L R a b:=by
 rcases FX h F ha hb hab hba P5 Ah with h1|h1
 ·exact h1
 ·exact absurd h1 (Er h F ha Nf)
theorem Af {a b:Int} (hr:P.kJ a b) (hb:P.P4 b a):False:=by
 obtain ⟨j,hj,h1,h2⟩:=hb
 exact h2 (Pj h hj hr h1)
end
end Go.Ab
end
section
namespace Go.Ab
open Go.Proofs
set_option maxRecDepth 10000
set_option linter.unusedSectionVars false
section
variable {g:Gr} {p:Pl} (h:aN g p)
include h
theorem yK {f:Fr} (hi:vW g f) {A C:List Int} {x:Int} (hW:(dM f.row).map (·.1)=A++(bu g p).ins x++C) (hI:(bu g p).ins x≠ []) (F8:x∉f.pl):
 az g f x=true∧kC g x∧aV g x≠0∧∃a X c,dM f.row=a++X++c∧a.map (·.1)=A∧X.map (·.1)=(bu g p).ins x∧c.map (·.1)=C∧fe x a∧fe x c∧tF x X∧X≠ []:=by
 have hm:=ag h.1
 have hx:kC g x:=Decidable.byContradiction fun h0=>hI (j9 h0)
 have bN:((dM f.row).map (·.1)).Nodup:=Iu hi
 rw [fH hx] at hW hI ⊢
 obtain ⟨i1,i2⟩:=lg h hx
 rw [hW] at bN
 obtain ⟨l1,c,e1,e2,e3⟩:=List.map_eq_append_iff.1 hW
 obtain ⟨a,X,e4,e5,e6⟩:=List.map_eq_append_iff.1 e2
 have hrow:dM f.row=a++X++c:=by rw [e1,e4]
 have hit:∀t∈a++X++c,(0≤t.1∧t.1<g.es.length)∧t.2.1=dQ g t.1∧t.2.2=dZ g t.1:=fun t ht=>qQ hm hi.toeo (by rw [hrow];exact ht)
 have hX:tF x X:=fun t ht=>by
  have h1:t.1∈fG g p x:=by rw [← e6];exact List.mem_map_of_mem ht
  rw [(hit t (by simp [ht])).2.2,((i2 _).1 h1).2]
 have hin:∀t∈a++X++c,t.2.2=x→t.1∈fG g p x:=fun t ht e=>by
  obtain ⟨h1,_,h3⟩:=hit t ht
  exact (i2 _).2 ⟨h1,by rw [← h3,e]⟩
 have ha:fe x a:=fun t ht e=>by
  have h1:=hin t (by simp [ht]) e
  have h2:t.1∈A:=by rw [← e5];exact List.mem_map_of_mem ht
  exact (List.nodup_append.1 (List.nodup_append.1 bN).1).2.2 _ h2 _ h1 rfl
 have K0:fe x c:=fun t ht e=>by
  have h1:=hin t (by simp [ht]) e
  have h2:t.1∈C:=by rw [← e3];exact List.mem_map_of_mem ht
  exact (List.nodup_append.1 bN).2.2 _ (List.mem_append.2 (.inr h1)) _ h2 rfl
 have M3:X.length=aV g x:=by rw [← iI h hx, ← e6,List.length_map]
 have nX:X≠ []:=fun h0=>hI (by rw [← e6,h0];rfl)
 have hR:=wR hm hi.toeo hx.1 hx.2 F8 hrow ha K0 hX nX M3
 have hn:aV g x≠0:=fun h0=>nX (List.eq_nil_of_length_eq_zero (M3.trans h0))
 exact ⟨hR,hx,hn,a,X,c,hrow,e5,e6,e3,ha,K0,hX,nX⟩
theorem Db {f:Fr} (hi:vW g f) {k:Nat} (hc:oN g p (k+1) f) (hlen:(f.pl.length:Int)+(k+1:Nat)=g.n) {A C:List Int} {x:Int} (hW:(dM f.row).map (·.1)=A++(bu g p).ins x++C) (hI:(bu g p).ins x≠ []) (F8:x∉f.pl) (hs:aq p 0∈f.pl)
 (hno:∀z,(bu g p).ins z≠ []→¬(bu g p).ins z<:+:A):dh g f false=x:=by
 have hm:=ag h.1
 obtain ⟨hR,hx,hn,a,X,c,hrow,e5,e6,e3,ha,K0,hX,nX⟩:=yK h hi hW hI F8
 unfold dh gG
 simp only [Bool.false_eq_true,if_false]
 cases hf:f.row.find? (fun t=>az g f t.2.2) with
 |none=>
  exfalso
  obtain ⟨t,X',rfl⟩:∃t X',X=t::X':=by
   cases X with
   |nil=>exact absurd rfl nX
   |cons t X'=>exact ⟨t,X',rfl⟩
  have h1:t∈f.row:=(dA.1 (by rw [hrow];simp)).1
  have h2:=List.find?_eq_none.1 hf t h1
  rw [hX t (by simp)] at h2
  exact h2 hR
 |some t=>
  show t.2.2=x
  obtain ⟨ht,l,r,hlr,hl⟩:=List.find?_eq_some_iff_append.1 hf
  refine Decidable.byContradiction fun Sj=> ?_
  have hz:=aD ht
  have Iw:0≤t.1:=by
   have:=(hi.it t (by rw [hlr];simp)).head hm
   exact this.1.2 (by omega)
  have Vv:dM f.row=dM l++t::dM r:=by rw [hlr,mu];simp [dM,Iw]
  have O2:∀s∈dM l,s.2.2≠x:=fun s hs e=>by
   have:=hl s (dA.1 hs).1
   rw [e,hR] at this;cases this
  have Vw:t∈a:=by
   have he:dM l++t::dM r=a++(X++c):=by rw [← Vv,hrow,List.append_assoc]
   rcases List.append_eq_append_iff.1 he with ⟨q,h1,h2⟩|⟨q,h1,h2⟩
   ·cases q with
    |nil=>
     exfalso
     cases X with
     |nil=>exact nX rfl
     |cons u X'=>
      have:t=u:=by simpa using (List.cons.inj h2).1
      exact Sj (this ▸ hX u (by simp))
    |cons u q=>
     have:t=u:=(List.cons.inj h2).1
     rw [h1,this];simp
   ·cases q with
    |nil=>
     exfalso
     cases X with
     |nil=>exact nX rfl
     |cons u X'=>
      have:u=t:=by simpa using (List.cons.inj h2).1
      exact Sj (this ▸ hX u (by simp))
    |cons u q=>
     exfalso
     cases X with
     |nil=>exact nX rfl
     |cons u' X'=>
      have:u'=u:=(List.cons.inj h2).1
      exact O2 u (by rw [h1];simp) (this ▸ hX u' (by simp))
  have hnz:aV g t.2.2≠0:=fun h0=>by
   have:=eV h.1 (x:=t.2.2) (y:=aq p 0) ⟨hz.1,hz.2.1⟩ (hi.oM _ hs) h0 (eX h)
   exact hz.2.2 (this ▸ hs)
  obtain ⟨b,d,g1,g2,g3,g4,g5,_⟩:=um hm hi.toeo ht hnz (bE p t.2.2)
  have JP:(dM (aC g f t.2.2 (bE p t.2.2)).1.1).map (·.1)=(bu g p).ins t.2.2:=by
   rw [fH ⟨hz.1,hz.2.1⟩];exact (og h.1 h.2.1 hi hlen hc ht).1
  generalize dM (aC g f t.2.2 (bE p t.2.2)).1.1=Y at g1 g4 g5 JP
  have nY:Y≠ []:=fun h0=>hnz (by rw [← g5,h0];rfl)
  have Vx:Y<:+:a:=by
   have he:b++(Y++d)=a++(X++c):=by rw [← List.append_assoc, ← g1,hrow,List.append_assoc]
   rcases List.append_eq_append_iff.1 he with ⟨q,h1,h2⟩|⟨q,h1,h2⟩
   ·rcases List.append_eq_append_iff.1 h2 with ⟨q2,h3,h4⟩|⟨q2,h3,h4⟩
    ·exact ⟨b,q2,by rw [h1,h3,List.append_assoc]⟩
    ·cases q2 with
     |nil=>exact ⟨b, [],by rw [h1,h3];simp⟩
     |cons u q2=>
      exfalso
      cases X with
      |nil=>exact nX rfl
      |cons u' X'=>
       have e1:u'=u:=(List.cons.inj h4).1
       have h5:=g4 u (by rw [h3];simp)
       exact Sj (by rw [← h5, ← e1];exact hX u' (by simp))
   ·exfalso
    exact g2 t (by rw [h1];simp [Vw]) rfl
  refine hno t.2.2 (fun h0=>nY (by rw [← JP] at h0;simpa using h0)) ?_
  rw [← JP, ← e5]
  obtain ⟨u,v,huv⟩:=Vx
  exact ⟨u.map (·.1),v.map (·.1),by rw [← huv];simp⟩
theorem yL:∀ {k:Nat},k≤g.n.toNat→oN g p (g.n.toNat - k) (aS g p false k)
 |0,_=>sx h (k:=0) (by omega)
 |k+1,hk=>by
  have ih:=yL (k:=k) (by omega)
  obtain ⟨h1,h2,_,_⟩:=fu h false (k:=k) (by omega)
  have hR:=(mo h false (k:=k) (by omega)).1
  rw [show g.n.toNat - k=(g.n.toNat - (k+1))+1 by omega] at ih
  exact (og h.1 h.2.1 h1 (by omega) ih hR).2
variable (hI:lG g=true)
include hI
theorem xj:∀ {j:Nat},j≤g.es.length→∃k,1≤k∧k≤g.n.toNat∧(aS g p false k).pl=((bu g p).st j).D∧(dM (aS g p false k).row).map (·.1)=((bu g p).st j).A++((bu g p).st j).B
 |0,_=>by
  have hm:=ag h.1
  have hn:=aA hm
  have hq:=oc h false
  have h0:=aH h.2.1 (k:=0) (by omega)
  have LG:=aH hq.2.1 (k:=0) (by omega)
  have he:aq (⟨fE g p false,p.outs⟩:Pl) 0=aq p 0:=eV h.1 LG h0 (eX hq) (eX h)
  have hp:dh g (aS g p false 0) false=aq p 0:=by
   rw [← he]
   show _=(fE g p false).getD 0 0
   rw [fE,List.getD_eq_getElem?_getD,List.getElem?_map,List.getElem?_range (by omega)];rfl
  have hw:aS g p false 1=fK g p 1:=by
   show qF g p (aS g p false 0) (dh g (aS g p false 0) false)=_
   rw [hp];rfl
  refine ⟨1,by omega,by omega, ?_, ?_⟩
  ·rw [hw];rfl
  ·have:=I4 h (by omega)
   unfold WK at this
   rw [hw,this]
   show _= []++(bu g p).outs (aq p 0)
   rw [er h0];rfl
 |j+1,hj=>by
  have hm:=ag h.1
  obtain ⟨k,k1,k2,k3,k4⟩:=xj (j:=j) (by omega)
  have hok:=ta h hI
  obtain ⟨B,hB,hc⟩:=j5 hok (j:=j) (by show j<g.es.length;omega)
  rcases hc with ⟨A',h1,h2,h3⟩|⟨h1,h3⟩
  rotate_left
  ·refine ⟨k,k1,k2,by rw [h3];exact k3, ?_⟩
   rw [h3,k4,hB];simp
  obtain ⟨i1,i2,_,_⟩:=fu h false (k:=k) k2
  have hinv:=(bu g p).inv hok j (by show j≤g.es.length;omega)
  have hW:(dM (aS g p false k).row).map (·.1)=A'++(bu g p).ins ((bu g p).hd ((bu g p).sh j))++B:=by rw [k4,hB, ← h1];simp
  have F8:(bu g p).hd ((bu g p).sh j)∉(aS g p false k).pl:=by
   rw [k3]
   obtain ⟨r,hr⟩:=lU hok (j:=j) (by show j≤g.es.length;omega)
   exact ((hok.dy hr ((bu g p).sh j)).1 (by rw [hB];simp)).2.2
  obtain ⟨hR,hx,hn,a,X,c,hrow,e5,e6,e3,ha,K0,hX,nX⟩:=yK h i1 hW h2 F8
  have hkn:k<g.n.toNat:=by
   refine Decidable.byContradiction fun hge=>F8 ?_
   exact gV i1.toeo (by omega) hx
  have hcmp:=yL h (k:=k) k2
  rw [show g.n.toNat - k=(g.n.toNat - k - 1)+1 by omega] at hcmp
  have hsrc:aq p 0∈(aS g p false k).pl:=by
   rw [k3]
   obtain ⟨r,hr⟩:=lU hok (j:=j) (by show j≤g.es.length;omega)
   exact hok.ql hr
  have hpk:=Db h i1 hcmp (by omega) hW h2 F8 hsrc fun z hz hA=>hinv.no z hz (by
   obtain ⟨u,w,Vy⟩:=hA
   rcases List.eq_nil_or_concat ((bu g p).ins ((bu g p).hd ((bu g p).sh j))) with g0|⟨I',b,g0⟩
   ·exact absurd g0 h2
   ·rw [g0,List.concat_eq_append, ← List.append_assoc] at h1
    have h5:=(List.append_inj' h1 rfl).1
    exact ⟨u,w++I',by rw [h5, ← Vy];simp⟩)
  have px:=bp h.2.1 hx.1 hx.2
  refine ⟨k+1,by omega,by omega, ?_, ?_⟩
  ·show (aS g p false k).pl++ [dh g (aS g p false k) false]=_
   rw [hpk,k3,h3]
  ·show (dM (aC g (aS g p false k) (dh g (aS g p false k) false) (bE p (dh g (aS g p false k) false))).2.row).map (·.1)=_
   rw [hpk,zT hm i1.toeo hR hn hrow ha K0 hX nX (bE p _),h3,List.map_append,List.map_append,e5,e3,gZ (fun i hi=>by
    have:=aZ.1 (px.mem_iff.1 hi);exact this.1.1),List.map_map,er hx]
   have e7:((fun t:It=>t.1) ∘ fc g ((bu g p).hd ((bu g p).sh j)))=id:=rfl
   rw [e7,List.map_id,List.append_assoc]
end
end Go.Ab
end
section
namespace Go.Ab
open Go.Proofs
set_option maxRecDepth 10000
theorem KC {g:Gr} {p:Pl} (h:aN g p) (x:Int):(bu g (b9 p)).ins x=((bu g p).ins x).reverse:=by
 by_cases hx:kC g x
 ·obtain ⟨k,hk,rfl⟩:=cz h.2.1 hx.1 hx.2
  rw [fH hx,fH hx,uo h hk]
  have h2:=uo (qG h) hk
  have e1:aq (b9 p) k=aq p k:=rfl
  rw [e1] at h2
  rw [h2]
  have g1:ow g p (fK g p k) (aq p k)=(dM (cH g p k)).map (·.1):=rfl
  have g2:ow g (b9 p) (fK g (b9 p) k) (aq p k)=(dM (cH g (b9 p) k)).map (·.1):=rfl
  rw [g1,g2,HZ h hk]
  unfold dM
  rw [List.filter_reverse,List.map_reverse]
 ·rw [j9 hx,j9 hx];rfl
theorem B1 {g:Gr} {p:Pl} (x:Int):(bu g (b9 p)).outs x=((bu g p).outs x).reverse:=by
 by_cases hx:kC g x
 ·rw [er hx,er hx,mq]
 ·rw [lf hx,lf hx];rfl
theorem tf {P Q:PS} {L R:Int→Int} {f0 f1:Int} {low:Int→Int} (h1:∀x,P.outs x=Q.outs x) (h2:∀x,P.ins x=Q.ins x) (h3:P.src=Q.src) (F:P.fk L R f0 f1 low):Q.fk L R f0 f1 low:=
 {ne:=F.ne
  iR:=fun {x u a b v} e=>F.iR ((h1 x).trans e)
  o8:=fun {x u a b v} e=>F.o8 ((h2 x).trans e)
  fst:=fun {x a u b v} e1 e2=>F.fst ((h2 x).trans e1) ((h1 x).trans e2)
  F5:=fun {x a u b v} e1 e2=>F.F5 ((h2 x).trans e1) ((h1 x).trans e2)
  s0:=fun {b v} e=>F.s0 ((h1 _).trans (h3 ▸ e))
  s1:=fun {b v} e=>F.s1 ((h1 _).trans (h3 ▸ e))
  new:=fun {x u a b v} e=>F.new ((h1 x).trans e)
  new1:=fun {x u a b v u' a' b' v'} e1 e2 e3=>F.new1 ((h1 x).trans e1) ((h1 x).trans e2) e3}
theorem FY {g:Gr} {p:Pl} (h:aN g p) (hI:lG g=true):(bu g p).fk (Rf g (b9 p)) (Lf g (b9 p)) (cN g (b9 p)) 0 (Sh g (b9 p)):=by
 have F:=jO (qG h) hI
 have ok:=ta h hI
 have F1:(bu g p).A7.fk (Lf g (b9 p)) (Rf g (b9 p)) 0 (cN g (b9 p)) (Sh g (b9 p)):=tf B1 (KC h) rfl F
 exact tf (P:=(bu g p).A7.A7) (fun x=>List.reverse_reverse _) (fun x=>List.reverse_reverse _) rfl (F1.A7 ok.A7)
end Go.Ab
end
section
namespace Go.Ab
open Go.Proofs
set_option maxRecDepth 10000
set_option linter.unusedSectionVars false
def tK (g:Gr) (p:Pl) (rev:Bool) (v:Int):Int:=(dL g p rev g.n.toNat).getD v.toNat 0
theorem Es {P Q:PS} {A B:Int→Int} {x y:Int} (hm:P.m=Q.m) (hp:P.Lp A B x y):Q.Lp A B x y:=by
 induction hp with
 |refl=>exact .refl
 | @step e _ he ih=>exact .step ih ⟨he.1,by have:=he.2;rw [hm] at this;exact this⟩
theorem KE {P Q:PS} {A B:Int→Int} {x y:Int} (hm:P.m=Q.m) (hp:P.Lp A B x y):Q.Lp B A y x:=by
 induction hp with
 |refl=>exact .refl
 | @step e _ he ih=>exact PS.Lp.trans (PS.Lp.step (L:=B) (R:=A) (e:=e) .refl ⟨he.1,by have:=he.2;rw [hm] at this;exact this⟩) ih
section
variable {g:Gr} {p:Pl} (h:aN g p)
include h
theorem qZ (rev:Bool) {v:Int} (hv:kC g v):∃i:Nat,i<g.n.toNat∧(fE g p rev).getD i 0=v∧tK g p rev v=i:=by
 have hm:v∈fE g p rev:=(Fx h rev).mem_iff.2 (cm.2 (by have:=hv.1;have:=hv.2;omega))
 obtain ⟨i,hi,e⟩:=List.mem_iff_getElem.1 hm
 have hl:(fE g p rev).length=g.n.toNat:=Bq
 have e2:(fE g p rev).getD i 0=v:=by rw [List.getD_eq_getElem?_getD,List.getElem?_eq_getElem hi];exact e
 refine ⟨i,by omega,e2, ?_⟩
 have:=DL h rev (k:=g.n.toNat) (Nat.le_refl _) i (by omega)
 rw [e2] at this
 exact this
theorem Et (rev:Bool) {a b:Int} (ha:kC g a) (hb:kC g b) (e:tK g p rev a=tK g p rev b):a=b:=by
 obtain ⟨i,h1,h2,h3⟩:=qZ h rev ha
 obtain ⟨j,g1,g2,g3⟩:=qZ h rev hb
 have:i=j:=by omega
 rw [← h2, ← g2,this]
variable (hI:lG g=true)
include hI
theorem Pk {v:Int} (hv:kC g v):v∈((bu g p).st (bu g p).m).D:=by
 have ok:=ta h hI
 by_cases hs:v=aq p 0
 ·have:=Da ok (j:=0) (x:=v) (d:=(bu g p).m) (by omega) (by
   show v∈ [aq p 0]
   rw [hs];simp)
  rwa [Nat.zero_add] at this
 ·have hn:aV g v≠0:=fun h0=>hs (eV h.1 hv (aH h.2.1 (by have:=aA (ag h.1);omega)) h0 (eX h))
  have hl:=iI h hv
  obtain ⟨a,u,hu⟩:=ij (l:=fG g p v) (fun h0=>by rw [h0] at hl;exact hn hl.symm)
  obtain ⟨h1,h2⟩:=(ok.de v a).1 (by rw [fH hv,hu];simp)
  have:=xb ok (jO h hI) h1
  rwa [h2] at this
theorem q8 {a b:Int} (ha:kC g a) (hb:kC g b) (hlt:tK g p false a<tK g p false b):(bu g p).P4 a b:=by
 have ok:=ta h hI
 have hn:=aA (ag h.1)
 obtain ⟨ia,a1,a2,a3⟩:=qZ h false ha
 obtain ⟨ib,b1,b2,b3⟩:=qZ h false hb
 have bZ:∀k,k≤g.n.toNat→(aS g p false k).pl=(fE g p false).take k:=fun k hk=>by
  rw [zN,fE, ← List.map_take,List.take_range,Nat.min_eq_left hk]
 have hl:(fE g p false).length=g.n.toNat:=Bq
 have bN:(fE g p false).Nodup:=b8 (oc h false).2.1
 have hidx:∀i k,i<g.n.toNat→k≤g.n.toNat→(fE g p false).getD i 0∈(fE g p false).take k→i<k:=fun i k hi hk hm=>by
  obtain ⟨j,hj,e⟩:=List.mem_iff_getElem.1 hm
  rw [List.length_take] at hj
  rw [List.getElem_take,List.getD_eq_getElem?_getD,List.getElem?_eq_getElem (by omega)] at e
  have:=(List.getElem_inj bN).1 e
  omega
 by_cases hs:a=aq p 0
 ·refine ⟨0,Nat.zero_le _, ?_,fun hb2=> ?_⟩
  ·show a∈ [aq p 0]
   rw [hs];simp
  ·have hb2:b∈ [aq p 0]:=hb2
   have:b=a:=by rw [hs];simpa using hb2
   rw [this] at hlt;omega
 ·obtain ⟨i,A',B,k1,k2,k3,k4,k5,k6,k7⟩:=oo ok (jO h hI) (show a≠(bu g p).src from hs) (Nat.le_refl _) (Pk h hI ha)
  refine ⟨i+1,k1,by rw [k7];simp,fun hb2=> ?_⟩
  obtain ⟨k,g1,g2,g3,_⟩:=xj h hI (j:=i+1) k1
  obtain ⟨k',NH,PA,KL,_⟩:=xj h hI (j:=i) (Nat.le_of_lt k1)
  have hlk:=(fu h false (k:=k) g2).2.1
  have Pm:=(fu h false (k:=k') PA).2.1
  rw [g3,k7] at hlk
  rw [KL] at Pm
  have hkk:k=k'+1:=by rw [← hlk, ← Pm];simp
  have Wv:¬ia<k':=fun hc=>k2 (by
   rw [← KL,bZ k' PA, ← a2]
   rw [List.getD_eq_getElem?_getD,List.getElem?_eq_getElem (by omega)]
   exact List.mem_iff_getElem.2 ⟨ia,by rw [List.length_take];omega,by rw [List.getElem_take];rfl⟩)
  have hib:=hidx ib k b1 g2 (by rw [b2, ← bZ k g2,g3];exact hb2)
  omega
theorem Eu:∀ {k:Nat},k<g.n.toNat→(bu g p).kJ (aq p 0) (aq p k):=by
 intro k
 induction k using Nat.strongRecOn with
 |_ k ih=>
  intro hk
  by_cases h0:k=0
  ·subst h0;exact .refl
  ·have hx:=aH h.2.1 hk
   have hn:aV g (aq p k)≠0:=fun h1=>by
    have:=eV h.1 hx (aH h.2.1 (k:=0) (by omega)) h1 (eX h)
    exact h0 (cQ h.2.1 hk (by omega) this)
   have hl:=iI h hx
   obtain ⟨a,u,hu⟩:=ij (l:=fG g p (aq p k)) (fun h1=>by rw [h1] at hl;exact hn hl.symm)
   obtain ⟨j,hj,et⟩:=xe h hk (a:=a) (by rw [hu];simp)
   obtain ⟨h1,h2⟩:=((ta h hI).de (aq p k) a).1 (by rw [fH hx,hu];simp)
   have:=ih j hj (by omega)
   have et':(bu g p).tl a=aq p j:=et
   rw [← et'] at this
   rw [← h2]
   exact .step this h1
theorem Ev:∀ {d k:Nat},k+d+1=g.n.toNat→(bu g p).kJ (aq p k) (aq p (g.n.toNat - 1)):=by
 intro d
 induction d using Nat.strongRecOn with
 |_ d ih=>
  intro k hk
  by_cases h0:d=0
  ·obtain rfl:k=g.n.toNat - 1:=by omega
   exact .refl
  ·have hx:=aH h.2.1 (show k<g.n.toNat by omega)
   have hO:bE p (aq p k)≠ []:=fun h1=>by
    have:=(lp h hI hx).1 h1
    have:=cQ h.2.1 (show k<g.n.toNat by omega) (by omega) this
    omega
   obtain ⟨e,v,hv⟩:=ij hO
   have he:=Ky h (show k<g.n.toNat by omega) (e:=e) (by rw [hv];simp)
   have hh:=bh (ag h.1) (i:=e.toNat) (by omega)
   obtain ⟨k',hk',e2⟩:=cz h.2.1 hh.1 hh.2
   have e2:aq p k'=dZ g e:=e2
   obtain ⟨j,hj,e3⟩:=zU h he.1 hk' e2.symm
   have:j=k:=cQ h.2.1 (show j<g.n.toNat by omega) (by omega) (e3.trans he.2)
   have h1:=ih (g.n.toNat - 1 - k') (by omega) (k:=k') (by omega)
   rw [e2] at h1
   have h2:(bu g p).kJ (aq p k) ((bu g p).hd e):= .step (by show (bu g p).kJ (aq p k) (dQ g e);rw [he.2];exact .refl) he.1
   exact h2.trans h1
theorem B4 {a b:Int} (ha:kC g a) (hb:kC g b) (hab:¬(bu g p).kJ a b) (hba:¬(bu g p).kJ b a):a≠aq p 0∧b≠aq p 0∧bE p a≠ []∧bE p b≠ []:=by
 obtain ⟨i,hi,rfl⟩:=cz h.2.1 ha.1 ha.2
 obtain ⟨j,hj,rfl⟩:=cz h.2.1 hb.1 hb.2
 refine ⟨fun e=>hab (by rw [e];exact Eu h hI hj),fun e=>hba (by rw [e];exact Eu h hI hi),fun e=>hba ?_,fun e=>hab ?_⟩
 ·rw [(lp h hI ha).1 e];exact Ev h hI (d:=g.n.toNat - 1 - j) (by omega)
 ·rw [(lp h hI hb).1 e];exact Ev h hI (d:=g.n.toNat - 1 - i) (by omega)
theorem I8 {a b:Int} (ha:kC g a) (hb:kC g b) (hab:¬(bu g p).kJ a b) (hba:¬(bu g p).kJ b a) (hlt:tK g p true a<tK g p true b):(bu g p).MH (Rf g (b9 p)) (Lf g (b9 p)) b a:=by
 have hm:=qG h
 have hx:∀v,tK g (b9 p) false v=tK g p true v:=fun v=>by
  unfold tK
  have:=wh h true (k:=g.n.toNat) (Nat.le_refl _)
  simp only [Bool.not_true] at this
  rw [this]
 have Nf:=q8 hm hI ha hb (by rw [hx,hx];exact hlt)
 have hR:∀ {x y:Int},(bu g (b9 p)).kJ x y→(bu g p).kJ x y:=fun hr=>by
  have:=xh.1 hr
  exact xh.2 (Es (P:=bu g (b9 p)) (Q:=bu g p) rfl this)
 obtain ⟨n1,n2,n3,n4⟩:=B4 h hI ha hb hab hba
 have hl:(bu g (b9 p)).MH (Lf g (b9 p)) (Rf g (b9 p)) a b:=KB (ta hm hI) (jO hm hI) n1 n2 (fun hr=>hab (hR hr)) (fun hr=>hba (hR hr)) (by rw [er ha,mq];simpa using n3) (by rw [er hb,mq];simpa using n4) Nf
 obtain ⟨u,e,f,v,h1,h2,h3⟩:=hl
 rw [B1] at h1 h2
 refine ⟨v.reverse,f,e,u.reverse, ?_, ?_,KE (P:=bu g (b9 p)) (Q:=bu g p) rfl h3⟩
 ·have:=congrArg List.reverse h2;simpa using this
 ·have:=congrArg List.reverse h1;simpa using this
theorem Dc {a b:Int} (ha:kC g a) (hb:kC g b):(bu g p).kJ a b↔tK g p false a≤tK g p false b∧tK g p true a≤tK g p true b:=by
 have ok:=ta h hI
 have hm:=qG h
 have hx:∀v,tK g (b9 p) false v=tK g p true v:=fun v=>by
  unfold tK
  have:=wh h true (k:=g.n.toNat) (Nat.le_refl _)
  simp only [Bool.not_true] at this
  rw [this]
 constructor
 ·intro hr
  refine ⟨?_, ?_⟩
  ·refine Decidable.byContradiction fun hc=> ?_
   exact Af ok (jO h hI) hr (q8 h hI hb ha (by omega))
  ·refine Decidable.byContradiction fun hc=> ?_
   have sS:(bu g (b9 p)).kJ a b:=xh.2 (Es (P:=bu g p) (Q:=bu g (b9 p)) rfl (xh.1 hr))
   exact Af (ta hm hI) (jO hm hI) sS (q8 hm hI hb ha (by rw [hx,hx];omega))
 ·rintro ⟨h1,h2⟩
  by_cases hab:a=b
  ·subst hab;exact .refl
  refine Classical.byContradiction fun Jj=> ?_
  have l1:tK g p false a<tK g p false b:=by
   have:tK g p false a≠tK g p false b:=fun e=>hab (Et h false ha hb e)
   omega
  have l2:tK g p true a<tK g p true b:=by
   have:tK g p true a≠tK g p true b:=fun e=>hab (Et h true ha hb e)
   omega
  have Nf:=q8 h hI ha hb l1
  by_cases hba:(bu g p).kJ b a
  ·exact Af ok (jO h hI) hba Nf
  ·exact Er ok (FY h hI) (B4 h hI ha hb Jj hba).1 Nf (I8 h hI ha hb Jj hba l2)
end
end Go.Ab
end
section
namespace Go.Ab
open Go.Proofs
attribute [local congr] ACall.congr gd.congr Nx.congr
set_option maxRecDepth 10000
set_option maxHeartbeats 8000000
def P6 (x y:List Int) (i:Int):Bool:=decide (0≤i)&&decide (i<min (x.length:Int) (y.length:Int))
def MI (x y:List Int) (a b:Int):Bool:=P6 x y a&&P6 x y b&&decide (x.getD a.toNat 0≤x.getD b.toNat 0)&&decide (y.getD a.toNat 0≤y.getD b.toNat 0)
def Ww:Gr:=⟨4, [(0,1),(1,3),(0,2),(2,3)]⟩
def Wx:Pl:=⟨[0,1,2,3], [[0,2], [1], [3], []]⟩
end Go.Ab
end
section
namespace Go.Ab
open Go.Proofs
attribute [local congr] ACall.congr gd.congr Nx.congr
set_option maxRecDepth 20000
set_option maxHeartbeats 16000000
theorem Ew {x y:List Int} {n a b:Nat} (hx:x.length=n) (hy:y.length=n) (ha:a<n) (hb:b<n):MI x y a b=(decide (x.getD a 0≤x.getD b 0)&&decide (y.getD a 0≤y.getD b 0)):=by
 have h1:∀i:Nat,i<n→P6 x y i=true:=fun i hi=>by
  unfold P6
  rw [hx,hy]
  simp;omega
 unfold MI
 rw [h1 a ha,h1 b hb]
 simp
theorem B5 {g:Gr} {p:Pl} (h:aN g p) (hI:lG g=true) {a b:Nat} (ha:a<g.n.toNat) (hb:b<g.n.toNat):
 tJ ((yB g).getD a 0) b=MI (dL g p false g.n.toNat) (dL g p true g.n.toNat) a b:=by
 have hm:=ag h.1
 have ga:kC g (a:Int):=⟨by omega,by omega⟩
 have gb:kC g (b:Int):=⟨by omega,by omega⟩
 have e1:=Kz (P:=bu g p) (A:=(bu g p).tl) (B:=(bu g p).hd) hm rfl (fun _ _=>rfl) (fun _ _=>rfl) (x:=(a:Int)) (y:=(b:Int)) ga gb
 rw [← xh,Dc h hI ga gb,Int.toNat_natCast] at e1
 rw [Ew jm jm ha hb,Bool.eq_iff_iff,e1,Bool.and_eq_true,decide_eq_true_eq,decide_eq_true_eq]
 rfl
end Go.Ab
end
section
namespace Go.Ab
open Go.Proofs
attribute [local congr] ACall.congr gd.congr Nx.congr
set_option maxRecDepth 20000
set_option maxHeartbeats 8000000
theorem Ag {g:Gr} (hm:aG g=true) {u v:Nat} (hu:u<g.n.toNat):tJ ((yB g).getD u 0) (v:Int)=true↔v<g.n.toNat∧lB g false (fun _=>true) u v:=by
 have hn:=aA hm
 unfold tJ yB
 rw [if_pos hm,sF hu,Bool.and_eq_true,Bool.and_eq_true,decide_eq_true_eq,decide_eq_true_eq,Int.toNat_natCast,uu]
 constructor
 ·rintro ⟨_,h1,h2⟩;exact ⟨h1,h2⟩
 ·rintro ⟨h1,h2⟩;exact ⟨⟨by omega,by omega⟩,h1,h2⟩
theorem KF {g:Gr} {bs:List Int} (hm:aG g=true) (hb:zW g bs) (Sk:aG (aI g bs)=true) {u v:Nat} (hu:u<g.n.toNat) (hv:v<g.n.toNat):tJ ((yB (aI g bs)).getD u 0) (v:Int)=tJ ((yB g).getD u 0) (v:Int):=by
 have hn:=aA hm
 have hN:(aI g bs).n.toNat=g.n.toNat+bs.length:=by show (g.n+(bs.length:Int)).toNat=_;omega
 rw [Bool.eq_iff_iff,Ag hm hu,Ag Sk (by omega),FW hm hb hu hv]
 constructor
 ·rintro ⟨_,h⟩;exact ⟨hv,h⟩
 ·rintro ⟨_,h⟩;exact ⟨by omega,h⟩
theorem MJ {g:Gr} {p:Pl} {u v:Nat} (h:lB g false (fun _=>true) u v):lB (ak g p) false (fun _=>true) u v:=by
 induction h with
 |refl=>exact .refl
 |F9 _ _ hf=>cases hf
 | @fwd i hi Jn _ ih=>
   have e1:tl (ak g p) i=tl g i:=by unfold tl;rw [pN i hi]
   have e2:hd (ak g p) i=hd g i:=by unfold hd;rw [pN i hi]
   rw [← e1] at ih
   rw [← e2]
   exact .fwd (by rw [Sb];omega) rfl ih
theorem MK {g:Gr} {p:Pl} (h:nu g p) (hI:lG g=true):ak g p=g:=by
 obtain ⟨h1,h2⟩:=IS h.run hI
 have e:=IQ (lE h.run) h.run h1 h2
 have h0:(k8 true g p).2.2=0:=by rw [e]
 have e2:=(z7 (lE h.run) h0).2
 rw [e] at e2
 exact (congrArg Prod.fst e2).symm
theorem ML {g:Gr} {p:Pl} (h:Room g p) {u v:Nat} (hu:u<g.n.toNat) (hv:v<g.n.toNat):
 (tJ ((yB g).getD u 0) (v:Int)=true→decide ((nH g p false).getD u 0≤(nH g p false).getD v 0)=true∧decide ((nH g p true).getD u 0≤(nH g p true).getD v 0)=true)∧
 (lG g=true→decide ((nH g p false).getD u 0≤(nH g p false).getD v 0)=true→decide ((nH g p true).getD u 0≤(nH g p true).getD v 0)=true→tJ ((yB g).getD u 0) (v:Int)=true):=by
 have hm:=ag h.ok.run.1
 have Md:=uh h.ok
 have hR:=BS h
 have Sk:=ag hR.1
 have hn:=aA hm
 have PF:=aA Md
 have Jm:=jL (g:=g) (p:=p)
 have hN:(aI (ak g p) (gC (ak g p))).n.toNat=(ak g p).n.toNat+(gC (ak g p)).length:=by show ((ak g p).n+((gC (ak g p)).length:Int)).toNat=_;omega
 have hb:=B5 hR (Eg h) (a:=u) (b:=v) (by omega) (by omega)
 have e1:dL (aI (ak g p) (gC (ak g p))) (zY (ak g p) (bJ g p) (gC (ak g p))) false (aI (ak g p) (gC (ak g p))).n.toNat=nH g p false:=rfl
 have e2:dL (aI (ak g p) (gC (ak g p))) (zY (ak g p) (bJ g p) (gC (ak g p))) true (aI (ak g p) (gC (ak g p))).n.toNat=nH g p true:=rfl
 rw [e1,e2,KF Md pQ Sk (by omega) (by omega),Ew (n:=(ak g p).n.toNat+(gC (ak g p)).length) (by rw [uw];omega) (by rw [uw];omega) (by omega) (by omega)] at hb
 constructor
 ·intro hh
  have h1:=((Ag hm hu).1 hh).2
  have h2:tJ ((yB (ak g p)).getD u 0) (v:Int)=true:=(Ag Md (by omega)).2 ⟨by omega,MJ h1⟩
  rw [hb,Bool.and_eq_true] at h2
  exact h2
 ·intro hI h1 h2
  rw [MK h.ok hI] at hb
  rw [hb,h1,h2];rfl
theorem xk (g:Gr) (p:Pl) (hl:g.es.length≤9223372036854775807) (hp:Ig p):Spec Tryz.prog 11 (Args [eG g,ePl p]) [] (eB true) []:=by
 have hG:=zR g p hl hp
 cases hB:wo g p with
 |true=>
  rw [hB] at hG
  (refine Spec.hd (C:=T.cfg [] []) (rs:= [.t 4]) (T.aj _ _) Tryz.func11 rfl rfl Tryz.ntmps11 Tryz.results11 (by simp [AObj.isNest]) (by simp [AObj.isNest]) (by kernel_rfl) T.mixed fun X hX hP hC aP bV=> ?_)
  repeat' (first|refine Rn.p ?_|(with_reducible apply And.intro)|((first|(refine hK _ ?_;clear hK K)|with_reducible intro K hK|refine Rs.p ?_|((with_reducible first|apply oP|apply oQ);exact rfl)|refine aa hX hC hP (kz) rfl rfl rfl (by simp only [go_sem,simprocAttr]) rfl ?_|refine aa hX hC hP (hG) rfl rfl rfl (by simp only [go_sem,simprocAttr]) rfl ?_);try simp only [go_sem,simprocAttr])|((with_reducible refine oD ?_ ?_);kernel_rfl)|((with_reducible intro h);try simp only [go_sem,simprocAttr] at h)|omega|intro h)
 |false=>
 rw [hB] at hG
 obtain ⟨b1,b2,b3,b4⟩:=DP hB
 obtain ⟨b,hr⟩:=U1 g p
 have Pn:=yG g (by omega) p (Ie hB) (by omega) (by omega) (fun l hl=>by have:=b4 l hl;omega) b hr
 by_cases h0:(Ef b g p).2=0
 rotate_left
 ·have Po:decide ((Ef b g p).2=0)=false:=decide_eq_false h0
  (refine Spec.hd (C:=T.cfg [] []) (rs:= [.t 4]) (T.aj _ _) Tryz.func11 rfl rfl Tryz.ntmps11 Tryz.results11 (by simp [AObj.isNest]) (by simp [AObj.isNest]) (by kernel_rfl) T.mixed fun X hX hP hC aP bV=> ?_)
  repeat' (first|refine Rn.p ?_|(with_reducible apply And.intro)|((first|(refine hK _ ?_;clear hK K)|with_reducible intro K hK|refine Rs.p ?_|((with_reducible first|apply oP|apply oQ);exact rfl)|refine aa hX hC hP (kz) rfl rfl rfl (by simp only [go_sem,simprocAttr,Po]) rfl ?_|refine aa hX hC hP (hG) rfl rfl rfl (by simp only [go_sem,simprocAttr,Po]) rfl ?_|refine aa hX hC hP (Pn) rfl rfl rfl (by simp only [go_sem,simprocAttr,Po]) rfl ?_);try simp only [go_sem,simprocAttr,Po])|((with_reducible refine oD ?_ ?_);kernel_rfl)|((with_reducible intro h);try simp only [go_sem,simprocAttr,Po] at h)|omega|intro h)
 obtain ⟨Nd,hE⟩:=I1 hr h0
 rw [hE] at Pn
 simp only at Pn
 have hm:=ag Nd.ok.run.1
 have hn:=aA hm
 have Tm:=FN g hl
 have IM:=CR g (by omega)
 have Gc:=Ep hm
 have sC:=fun x=>MF (x:=x) hm
 have Lh:=fun (u v:Nat) (hu:u<g.n.toNat) (hv:v<g.n.toNat)=>ML Nd hu hv
 have bZ:(Mz g (ak g p).n (gC (ak g p)) (nH g p false) (nH g p true)).pts.length=g.n.toNat:=Aa
 have hpa:∀v,v<g.n.toNat→(Mz g (ak g p).n (gC (ak g p)) (nH g p false) (nH g p true)).pts.getD v (0,0)=((nH g p false).getD v 0,(nH g p true).getD v 0):=fun v hv=>MA hv
 obtain ⟨N,hN⟩:∃N:Nat,g.n=N:=⟨g.n.toNat,by omega⟩
 have Vz:g.n.toNat=N:=by omega
 rw [Vz] at Gc Lh bZ hpa
 have H7:eG g= .agg [eN N, .d (sE g.es)]:=by rw [eG,hN]
 rw [H7] at hG Pn Tm IM
 clear hE Nd h0
 generalize Mz g (ak g p).n (gC (ak g p)) (nH g p false) (nH g p true)=D at*
 generalize nH g p false=xs at*
 generalize nH g p true=ys at*
 generalize yB g=U at*
 generalize lG g=st at*
 have Jm:decide ((N:Int)=(N:Int))=true:=decide_eq_true rfl
 (refine Spec.hd (C:=T.cfg [] []) (rs:= [.t 4]) (T.aj _ _) Tryz.func11 rfl rfl Tryz.ntmps11 Tryz.results11 (by simp [AObj.isNest]) (by simp [AObj.isNest]) (by kernel_rfl) T.mixed fun X hX hP hC aP bV=> ?_)
 repeat' (first|refine Rn.p ?_|(with_reducible apply And.intro)|((first|(refine hK _ ?_;clear hK K)|with_reducible intro K hK|refine Rs.p ?_|((with_reducible first|apply oP|apply oQ);exact rfl)|refine aa hX hC hP (kz) rfl rfl rfl (by simp only [go_sem,simprocAttr,Gc,bZ,Jm,hN]) rfl ?_|refine aa hX hC hP (hG) rfl rfl rfl (by simp only [go_sem,simprocAttr,Gc,bZ,Jm,hN]) rfl ?_|refine aa hX hC hP (Pn) rfl rfl rfl (by simp only [go_sem,simprocAttr,Gc,bZ,Jm,hN]) rfl ?_|refine aa hX hC hP (Tm) rfl rfl rfl (by simp only [go_sem,simprocAttr,Gc,bZ,Jm,hN]) rfl ?_|refine aa hX hC hP (IM) rfl rfl rfl (by simp only [go_sem,simprocAttr,Gc,bZ,Jm,hN]) rfl ?_);try simp only [go_sem,simprocAttr,Gc,bZ,Jm,hN])|((with_reducible refine oD ?_ ?_);kernel_rfl)|((with_reducible intro h);try simp only [go_sem,simprocAttr,Gc,bZ,Jm,hN] at h)|omega|intro h)
 refine ai (fun a:Nat=>a≤N) (fun a=>⟨[(4,eB false),(5, .ptr 5 0),(7, .d (sU U)),(8,eB st),(45, .d (sP D.pts)),(46,eN N),(47,eN a)], [(5, .box [.d (sP D.pts), .d (sLn D.ls)])]⟩) (fun a=>N - a) 0 (by omega) ?_ ?_
 ·refine Le.of ?_ ?_<;>simp [go_sem,simprocAttr]
 rintro a ha
 rcases Nat.lt_or_ge a N with xQ|Wy
 rotate_left
 ·have hba:decide ((a:Int)<(N:Int))=false:=decide_eq_false (by omega)
  repeat' (first|refine Rn.p ?_|(with_reducible apply And.intro)|((first|(refine hK _ ?_;clear hK K)|with_reducible intro K hK|refine Rs.p ?_|((with_reducible first|apply oP|apply oQ);exact rfl));try simp only [go_sem,simprocAttr,hba])|((with_reducible refine oD ?_ ?_);kernel_rfl)|((with_reducible intro h);try simp only [go_sem,simprocAttr,hba] at h)|omega|intro h)
 have hba:decide ((a:Int)<(N:Int))=true:=decide_eq_true (by omega)
 have Ng:=hpa a xQ
 repeat' (first|refine Rn.p ?_|(with_reducible apply And.intro)|((first|(refine hK _ ?_;clear hK K)|with_reducible intro K hK|refine Rs.p ?_|((with_reducible first|apply oP|apply oQ);exact rfl));try simp only [go_sem,simprocAttr,hba,bZ,Ng])|((with_reducible refine oD ?_ ?_);kernel_rfl)|((with_reducible intro h);try simp only [go_sem,simprocAttr,hba,bZ,Ng] at h)|omega|intro h)
 refine ai (fun c:Nat=>c≤N) (fun c=>⟨[(4,eB false),(5, .ptr 5 0),(7, .d (sU U)),(8,eB st),(45, .d (sP D.pts)),(46,eN N),(47,eN a),(9,eN a),(10, .ptr 10 0),(53, .d (sP D.pts)),(54,eN N),(55,eN c)], [(5, .box [.d (sP D.pts), .d (sLn D.ls)]),(10, .box [eN (xs.getD a 0),eN (ys.getD a 0)])]⟩) (fun c=>N - c) 0 (by omega) ?_ ?_
 ·refine Le.of ?_ ?_<;>simp [go_sem,simprocAttr]
 rintro c hc
 rcases Nat.lt_or_ge c N with hcl|K8
 rotate_left
 ·have hbc:decide ((c:Int)<(N:Int))=false:=decide_eq_false (by omega)
  repeat' (first|refine Rn.p ?_|(with_reducible apply And.intro)|((first|(refine hK _ ?_;clear hK K)|with_reducible intro K hK|refine Rs.p ?_|((with_reducible first|apply oP|apply oQ);exact rfl));try simp only [go_sem,simprocAttr,hbc])|((with_reducible refine oD ?_ ?_);kernel_rfl)|((with_reducible intro h);try simp only [go_sem,simprocAttr,hbc] at h)|omega|intro h)
  refine ⟨a+1,by omega, ?_,by omega⟩
  refine Le.of ?_ ?_<;>simp [go_sem,simprocAttr,hbc]
 have hbc:decide ((c:Int)<(N:Int))=true:=decide_eq_true (by omega)
 have P7:=hpa c hcl
 obtain ⟨o1,o2⟩:=Lh a c xQ hcl
 have Tn:Spec Tryz.prog 26 (Args [eU (U.getD a 0),eN c]) [] (eB (tJ (U.getD a 0) c)) []:=yz _ (sC a) _
 generalize tJ (U.getD a 0) (c:Int)=v at Tn o1 o2
 generalize Jo:decide (xs.getD a 0≤xs.getD c 0)=d1 at o1 o2
 generalize rC:decide (ys.getD a 0≤ys.getD c 0)=d2 at o1 o2
 cases v<;>cases d1<;>cases d2<;>cases st
 all_goals (first|(exact absurd (o1 rfl).1 (by decide))|(exact absurd (o1 rfl).2 (by decide))|(exact absurd (o2 rfl rfl rfl) (by decide))|skip)
 all_goals (repeat' (first|refine Rn.p ?_|(with_reducible apply And.intro)|((first|(refine hK _ ?_;clear hK K)|with_reducible intro K hK|refine Rs.p ?_|((with_reducible first|apply oP|apply oQ);exact rfl)|refine aa hX hC hP (Tn) rfl rfl rfl (by simp only [go_sem,simprocAttr,hbc,Gc,bZ,Ng,P7,Jo,rC]) rfl ?_);try simp only [go_sem,simprocAttr,hbc,Gc,bZ,Ng,P7,Jo,rC])|((with_reducible refine oD ?_ ?_);kernel_rfl)|((with_reducible intro h);try simp only [go_sem,simprocAttr,hbc,Gc,bZ,Ng,P7,Jo,rC] at h)|omega|intro h))
 all_goals (refine ⟨c+1,by omega, ?_,by omega⟩)
 all_goals (refine Le.of ?_ ?_<;>simp [go_sem,simprocAttr,hbc,Gc,bZ,Ng,P7,Jo,rC])
end Go.Ab
end
