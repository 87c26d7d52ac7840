/- A part of the proof. -/
import Derived.Test.YtchjjbfhlchpfaaGreatL8P17
set_option linter.unusedSimpArgs false
set_option linter.unusedVariables false
section
namespace Go.Ab
open Go.Proofs
set_option maxRecDepth 10000
set_option linter.unusedSectionVars false
theorem gy:∀ {l:List Int} {i:Nat},l.Nodup→i<l.length→l.idxOf (l.getD i 0)=i
 | [],i,_,h=>by simp at h
 |a::l,0,_,_=>by simp
 |a::l,i+1,hn,h=>by
  obtain ⟨h1,h2⟩:=List.nodup_cons.1 hn
  have hi:i<l.length:=by simpa using h
  have e:(a::l).getD (i+1) 0=l.getD i 0:=rfl
  have hm:l.getD i 0∈l:=aQ hi
  have hne:(a==l.getD i 0)=false:=by
   rw [beq_eq_false_iff_ne];intro e2;exact h1 (e2 ▸ hm)
  rw [e,List.idxOf_cons,hne,cond_false,gy h2 hi]
theorem sy {l:List Int} {u:Int} (h:u∈l):l.idxOf u<l.length∧l.getD (l.idxOf u) 0=u:=by
 have h1:=List.idxOf_lt_length_iff.2 h
 refine ⟨h1, ?_⟩
 rw [List.getD_eq_getElem?_getD,List.getElem?_eq_getElem h1,Option.getD_some]
 exact List.getElem_idxOf h1
theorem zV {A B:List Int} {u:Int} :(A++B).idxOf u=if u∈A then A.idxOf u else A.length+B.idxOf u:=by
 rw [List.idxOf_append];split<;>omega
section
variable {g:Gr} {p:Pl}
def wT (g:Gr) (p:Pl) (c:Nat):List Int:=(dM (fK g p c).row).map (·.1)
theorem kf (h:aN g p) {c:Nat} (hc:c≤g.n.toNat):(wT g p c).Nodup:=by
 obtain ⟨hi,_,_⟩:=bz (ag h.1) h.2.1 hc fun j hj=>h.2.2 j (by omega)
 rw [wT,List.Nodup,List.pairwise_map]
 exact (hi.once.filter _).imp_of_mem fun {s t} hs ht h=>h (dA.1 hs).2
theorem js (h:aN g p) {c:Nat} (hc:c<g.n.toNat):∃A X C,wT g p c=A++X++C∧(∀e∈A,dZ g e≠aq p c)∧(∀e∈X,dZ g e=aq p c)∧(∀e∈C,dZ g e≠aq p c)∧wT g p (c+1)=A++bE p (aq p c)++C:=by
 have hm:=ag h.1
 obtain ⟨hi,bZ,_⟩:=bz hm h.2.1 (k:=c) (by omega) fun j hj=>h.2.2 j (by omega)
 obtain ⟨x0,x1⟩:=aH h.2.1 hc
 have hR:az g (fK g p c) (aq p c)=true:=h.2.2 c hc
 have hpx:=bp h.2.1 x0 x1
 have hab:=gZ (g:=g) (x:=aq p c) (o:=bE p (aq p c)) fun i hi=>(aZ.1 (hpx.mem_iff.1 hi)).1.1
 have hmap:(dM (aL g (aq p c) (bE p (aq p c)))).map (·.1)=bE p (aq p c):=by
  rw [hab,List.map_map]
  have e7:((fun t:It=>t.1) ∘ fc g (aq p c))=id:=rfl
  rw [e7,List.map_id]
 have hd:∀t∈dM (fK g p c).row,dZ g t.1=t.2.2:=fun t ht=>(ke (p:=p) hm hi bZ ht).2.2
 have BH:fK g p (c+1)=(aC g (fK g p c) (aq p c) (bE p (aq p c))).2:=rfl
 by_cases hn:aV g (aq p c)=0
 ·have hno:=gU hm hi.toeo x0 hn
  have hrow:(fK g p c).row= []:=by
   rcases hi.src with h|⟨s,hs,hs0⟩
   ·exact h.2
   ·have:=eV h.1 (hi.oM s hs) ⟨x0,x1⟩ hs0 hn
    exact absurd (by rw [← bZ, ← this];exact hs) (yq h.2.1 hc)
  refine ⟨[], [], [],by simp [wT,hrow,dM],by simp,by simp,by simp, ?_⟩
  rw [wT,BH,dK _ hno,hrow]
  simpa using hmap
 ·obtain ⟨a,X,b,e,ha,hb,hX,_,hs⟩:=BF hm hi.toeo hR hn
  refine ⟨a.map (·.1),X.map (·.1),b.map (·.1),by rw [wT,e,List.map_append,List.map_append], ?_, ?_, ?_, ?_⟩
  ·intro q hq
   obtain ⟨t,ht,rfl⟩:=List.mem_map.1 hq
   rw [hd t (by rw [e];simp [ht])];exact ha t ht
  ·intro q hq
   obtain ⟨t,ht,rfl⟩:=List.mem_map.1 hq
   rw [hd t (by rw [e];simp [ht])];exact hX t ht
  ·intro q hq
   obtain ⟨t,ht,rfl⟩:=List.mem_map.1 hq
   rw [hd t (by rw [e];simp [ht])];exact hb t ht
  ·rw [wT,BH,hs,List.map_append,List.map_append,hmap]
theorem BI (h:aN g p):∀ {c:Nat},c≤g.n.toNat→∀e,lu g p c e→e∈wT g p c
 |0,_,e,he=>by have:=he.low;simp at this
 |c+1,hc,e,he=>by
  obtain ⟨A,X,C,e1,hA,hX,hC,e2⟩:=js h (c:=c) (by omega)
  have hnext:=ic h.2.1 (k:=c) (by omega)
  have hl:=he.low
  have ht:=he.top
  rw [hnext,List.mem_append,List.mem_singleton] at hl ht
  rw [e2]
  rcases hl with hl|hl
  ·have:=BI h (c:=c) (by omega) e ⟨he.e0,he.e1,hl,fun h=>ht (.inl h)⟩
   rw [e1,List.mem_append,List.mem_append] at this
   rcases this with (h1|h1)|h1
   ·simp [h1]
   ·exact absurd (hX e h1) fun h=>ht (.inr h)
   ·simp [h1]
  ·obtain ⟨x0,x1⟩:=aH h.2.1 (k:=c) (by omega)
   have:e∈bE p (aq p c):=(bp h.2.1 x0 x1).mem_iff.2 (aZ.2 ⟨⟨he.e0,he.e1⟩,hl⟩)
   simp [this]
end
def wU (g:Gr) (bs:List Int) (i:Int):Int:=g.n+(bs.idxOf i:Nat)
def jU (g:Gr) (bs:List Int):List Edge:=
 ((List.range g.es.length).map fun i:Nat=>(tl g i,if (i:Int)∈bs then wU g bs i else hd g i))++(List.range bs.length).map fun k:Nat=>(g.n+(k:Int),dZ g (bs.getD k 0))
def aI (g:Gr) (bs:List Int):Gr:=⟨g.n+bs.length,jU g bs⟩
structure zW (g:Gr) (bs:List Int):Prop where
 nd:bs.Nodup
 oM:∀i∈bs,0≤i∧i<g.es.length
section
variable {g:Gr} {bs:List Int}
theorem eY:(aI g bs).es.length=g.es.length+bs.length:=by simp [aI,jU]
theorem cR {e:Int} (h0:0≤e) (h1:e<g.es.length):dQ (aI g bs) e=dQ g e∧dZ (aI g bs) e=if e∈bs then wU g bs e else dZ g e:=by
 have hl:e.toNat<g.es.length:=by omega
 have:(aI g bs).es.getD e.toNat (0,0)=(tl g e.toNat,if ((e.toNat:Nat):Int)∈bs then wU g bs ((e.toNat:Nat):Int) else hd g e.toNat):=by
  simp only [aI,jU]
  rw [List.getD_eq_getElem?_getD,List.getElem?_append_left (by simpa using hl),List.getElem?_map,List.getElem?_range hl]
  rfl
 rw [show ((e.toNat:Nat):Int)=e by omega] at this
 exact ⟨by unfold dQ;rw [this];rfl,by unfold dZ;rw [this];rfl⟩
theorem iu {k:Nat} (h:k<bs.length):dQ (aI g bs) ((g.es.length+k:Nat):Int)=g.n+(k:Int)∧dZ (aI g bs) ((g.es.length+k:Nat):Int)=dZ g (bs.getD k 0):=by
 have:(aI g bs).es.getD (g.es.length+k) (0,0)=(g.n+(k:Int),dZ g (bs.getD k 0)):=by
  simp only [aI,jU]
  rw [List.getD_eq_getElem?_getD,List.getElem?_append_right (by simp),List.length_map,List.length_range,Nat.add_sub_cancel_left,List.getElem?_map,List.getElem?_range h]
  rfl
 exact ⟨by unfold dQ;rw [Int.toNat_natCast,this],by unfold dZ;rw [Int.toNat_natCast,this];rfl⟩
def CS (g:Gr) (bs:List Int) (e:Int):Int:=if e<g.es.length then e else bs.getD (e - g.es.length).toNat 0
def tc (g:Gr) (bs:List Int) (u:Int):Int:=if u<g.n then u else dQ g (bs.getD (u - g.n).toNat 0)
theorem dr (hb:zW g bs) {i:Int} (hi:i∈bs):g.n≤wU g bs i∧wU g bs i<g.n+bs.length∧tc g bs (wU g bs i)=dQ g i∧bs.getD (wU g bs i - g.n).toNat 0=i:=by
 obtain ⟨h1,h2⟩:=sy hi
 have e:(wU g bs i - g.n).toNat=bs.idxOf i:=by unfold wU;omega
 refine ⟨by unfold wU;omega,by unfold wU;omega, ?_,by rw [e,h2]⟩
 unfold tc
 rw [if_neg (by unfold wU;omega),e,h2]
end
structure Iy (g:Gr) (p:Pl) (bs:List Int) (q:Pl):Prop where
 len:q.outs.length=(g.n+bs.length).toNat
 K6:∀x:Nat,x<g.n.toNat→q.outs.getD x []=p.outs.getD x []
 Iz:∀k:Nat,k<bs.length→q.outs.getD (g.n.toNat+k) []= [((g.es.length+k:Nat):Int)]
 perm:q.ord.Perm (dW (g.n+bs.length).toNat)
 sort:q.ord.Pairwise fun u v=>p.ord.idxOf (tc g bs u)<p.ord.idxOf (tc g bs v)∨tc g bs u=tc g bs v∧u<v
theorem tG {A B:List Int} {u:Int} (h:u∈A):(A++B).idxOf u=A.idxOf u∧A.idxOf u<A.length:=⟨by rw [zV,if_pos h],List.idxOf_lt_length_iff.2 h⟩
theorem iY {A B:List Int} {u:Int} (hn:(A++B).Nodup) (h:u∈B):(A++B).idxOf u=A.length+B.idxOf u∧B.idxOf u<B.length:=
 ⟨by rw [zV,if_neg fun ha=>(List.nodup_append.1 hn).2.2 u ha u h rfl],List.idxOf_lt_length_iff.2 h⟩
theorem zX {g:Gr} {p:Pl} (h:aN g p) {e:Int} (h0:0≤e) (h1:e<g.es.length):p.ord.idxOf (dQ g e)<p.ord.idxOf (dZ g e):=by
 have hm:=ag h.1
 have bN:=b8 h.2.1
 have hl:=aM h.2.1
 obtain ⟨k,hk,ek⟩:=cz h.2.1 (bh hm (i:=e.toNat) (by omega)).1 (bh hm (i:=e.toNat) (by omega)).2
 obtain ⟨hi,bZ,_⟩:=bz hm h.2.1 (k:=k) (by omega) fun j hj=>h.2.2 j (by omega)
 obtain ⟨t,ht,e1,e2,_⟩:=r9 hm hi (h.2.2 k hk) (i:=e.toNat) (by omega) ek.symm
 have hin:=hi.tail t ht (by omega)
 rw [bZ,e2] at hin
 obtain ⟨j,j1,j2,j3⟩:=lz hin
 have a1:p.ord.idxOf (tl g e.toNat)=j:=by rw [← j3];exact gy bN j2
 have a2:p.ord.idxOf (hd g e.toNat)=k:=by rw [← ek];exact gy bN (by omega)
 show p.ord.idxOf (tl g e.toNat)<p.ord.idxOf (hd g e.toNat)
 omega
def M6 (g:Gr) (p:Pl) (bs:List Int) (u v:Int):Prop:=p.ord.idxOf (tc g bs u)<p.ord.idxOf (tc g bs v)∨tc g bs u=tc g bs v∧u<v
def gA (g:Gr) (q:Pl) (k:Nat):Nat:=((q.ord.take k).filter fun u=>decide (u<g.n)).length
section
variable {g:Gr} {p:Pl} {bs:List Int} {q:Pl} (h:aN g p) (hb:zW g bs) (hq:Iy g p bs q)
include h hb hq
theorem IA:(aI g bs).n.toNat=g.n.toNat+bs.length:=by
 have hn:=aA (ag h.1)
 show (g.n+(bs.length:Int)).toNat=_
 omega
theorem cW {e:Int} (h0:0≤e) (h1:e<(aI g bs).es.length):(e<g.es.length∧CS g bs e=e)∨∃k:Nat,k<bs.length∧e=((g.es.length+k:Nat):Int)∧CS g bs e=bs.getD k 0∧bs.getD k 0∈bs∧dQ (aI g bs) e=wU g bs (bs.getD k 0):=by
 rw [eY] at h1
 by_cases hlt:e<g.es.length
 ·exact .inl ⟨hlt,if_pos hlt⟩
 ·refine .inr ⟨(e - g.es.length).toNat,by omega,by omega,by unfold CS;rw [if_neg hlt],aQ (by omega), ?_⟩
  have hk:(e - g.es.length).toNat<bs.length:=by omega
  have:=(iu (g:=g) hk).1
  rw [show ((g.es.length+(e - g.es.length).toNat:Nat):Int)=e by omega] at this
  rw [this]
  unfold wU
  rw [gy hb.nd hk]
theorem iZ {u:Int} (hu:u<g.n):tc g bs u=u:=if_pos hu
theorem jM:bk (aI g bs) q:=by
 have hm:=ag h.1
 have hn:=aA hm
 have hN:=IA h hb hq
 refine ⟨by rw [hq.len];rfl,hq.perm,fun x hx=> ?_⟩
 rw [hN] at hx
 by_cases DA:x<g.n.toNat
 ·rw [hq.K6 x DA]
  have hp:=h.2.1.2.2 x DA
  refine (List.perm_ext_iff_of_nodup (hp.nodup_iff.2 cq) cq).2 fun e=> ?_
  rw [hp.mem_iff]
  show e∈aK (·.1) g.es g.es.length (x:Int)↔e∈aK (·.1) (aI g bs).es (aI g bs).es.length (x:Int)
  rw [aZ,aZ]
  constructor
  ·rintro ⟨⟨h0,h1⟩,h2⟩
   exact ⟨⟨h0,by rw [eY];omega⟩,(cR h0 h1).1.trans h2⟩
  ·rintro ⟨⟨h0,h1⟩,h2⟩
   rcases cW h hb hq h0 h1 with ⟨h3,_⟩|⟨k,h3,_,_,h4,h5⟩
   ·exact ⟨⟨h0,h3⟩,(cR h0 h3).1.symm.trans h2⟩
   ·have:=(dr hb h4).1
    have h2:dQ (aI g bs) e=x:=h2
    omega
 ·obtain ⟨k,rfl⟩:∃k,x=g.n.toNat+k:=⟨x - g.n.toNat,by omega⟩
  have hk:k<bs.length:=by omega
  rw [hq.Iz k hk]
  refine (List.perm_ext_iff_of_nodup (by simp) cq).2 fun e=> ?_
  rw [List.mem_singleton]
  show _↔e∈aK (·.1) (aI g bs).es (aI g bs).es.length ((g.n.toNat+k:Nat):Int)
  rw [aZ]
  have hnew:=iu (g:=g) hk
  constructor
  ·rintro rfl
   exact ⟨⟨by omega,by rw [eY];omega⟩,by have:dQ (aI g bs) ((g.es.length+k:Nat):Int)=((g.n.toNat+k:Nat):Int):=by {rw [hnew.1];omega};exact this⟩
  ·rintro ⟨⟨h0,h1⟩,h2⟩
   have h2:dQ (aI g bs) e=((g.n.toNat+k:Nat):Int):=h2
   rcases cW h hb hq h0 h1 with ⟨h3,_⟩|⟨j,h3,h6,_,h4,h5⟩
   ·have:=(cR (bs:=bs) h0 h3).1
    have:=bg hm (i:=e.toNat) (by omega)
    have e3:dQ g e=tl g e.toNat:=rfl
    omega
   ·unfold wU at h5
    rw [gy hb.nd h3] at h5
    have:j=k:=by omega
    rw [h6,this]
theorem K7 {e:Int} (h0:0≤e) (h1:e<(aI g bs).es.length):M6 g p bs (dQ (aI g bs) e) (dZ (aI g bs) e):=by
 have hm:=ag h.1
 have tr:=fun (i:Int) (a:0≤i) (b:i<g.es.length)=>show 0≤dQ g i∧dQ g i<g.n from bg hm (i:=i.toNat) (by omega)
 have hr:=fun (i:Int) (a:0≤i) (b:i<g.es.length)=>show 0≤dZ g i∧dZ g i<g.n from bh hm (i:=i.toNat) (by omega)
 rcases cW h hb hq h0 h1 with ⟨h3,_⟩|⟨k,h3,h6,_,h4,h5⟩
 ·obtain ⟨r1,r2⟩:=cR (g:=g) (bs:=bs) h0 h3
  rw [r1,r2]
  have t0:dQ g e<g.n:=(tr e h0 h3).2
  by_cases hin:e∈bs
  ·rw [if_pos hin]
   obtain ⟨n1,_,n3,_⟩:=dr hb hin
   exact .inr ⟨by rw [n3];exact iZ h hb hq t0,by omega⟩
  ·rw [if_neg hin]
   left
   rw [iZ h hb hq t0,iZ h hb hq (hr e h0 h3).2]
   exact zX h h0 h3
 ·rw [h5]
  obtain ⟨b0,b1⟩:=hb.oM _ h4
  obtain ⟨n1,_,n3,_⟩:=dr hb h4
  have:=(iu (g:=g) h3).2
  rw [← h6] at this
  rw [this]
  left
  rw [n3,iZ h hb hq (hr _ b0 b1).2]
  exact zX h b0 b1
theorem Mo {j k:Nat} (hj:j<k) (hk:k<(aI g bs).n.toNat):M6 g p bs (aq q j) (aq q k):=by
 have hl:=aM (jM h hb hq)
 have:=List.pairwise_iff_getElem.1 hq.sort j k (by omega) (by omega) hj
 rw [aq,aq,List.getD_eq_getElem?_getD,List.getD_eq_getElem?_getD,List.getElem?_eq_getElem (by omega),List.getElem?_eq_getElem (by omega)]
 exact this
theorem qR {u:Int} (h0:0≤u) (h1:u<(aI g bs).n) {k:Nat} (hk:k<(aI g bs).n.toNat) (hR:M6 g p bs u (aq q k)):u∈q.ord.take k:=by
 obtain ⟨j,hj,rfl⟩:=cz (jM h hb hq) h0 h1
 refine yp (Decidable.byContradiction fun hn=> ?_) (by rw [aM (jM h hb hq)];exact hj)
 by_cases e:j=k
 ·subst e
  unfold M6 at hR;omega
 ·have h8:=Mo h hb hq (j:=k) (k:=j) (by omega) hj
  unfold M6 at hR h8
  rcases hR with h9|⟨h9,SK⟩
  ·rcases h8 with Rv|⟨Rv,_⟩
   ·omega
   ·rw [Rv] at h9;omega
  ·rw [h9] at h8;omega
theorem yu {u v:Int} (h0:0≤u) (h1:u<(aI g bs).n) {k:Nat} (hk:k≤(aI g bs).n.toNat) (hv:v∈q.ord.take k) (hR:M6 g p bs u v):u∈q.ord.take k:=by
 obtain ⟨j,j1,j2,rfl⟩:=lz hv
 obtain ⟨i,i1,i2,i3⟩:=lz (qR h hb hq h0 h1 (k:=j) (by omega) hR)
 rw [← i3]
 exact yp (by omega) i2
theorem CT:(q.ord.filter fun u=>decide (u<g.n))=p.ord:=by
 have hn:=aA (ag h.1)
 have hN:=IA h hb hq
 have bN:=b8 h.2.1
 have hl:=aM h.2.1
 refine FG (R:=fun u v=>p.ord.idxOf u<p.ord.idxOf v) ?_ (fun a b h1 h2=>by omega) ?_ ?_
 ·refine (List.perm_ext_iff_of_nodup ((b8 (jM h hb hq)).filter _) bN).2 fun u=> ?_
  rw [List.mem_filter,hq.perm.mem_iff,h.2.1.2.1.mem_iff,cm,cm,decide_eq_true_eq]
  have e:(g.n+(bs.length:Int)).toNat=g.n.toNat+bs.length:=hN
  omega
 ·refine (hq.sort.filter _).imp_of_mem fun {u v} hu hv hR=> ?_
  have hu:=of_decide_eq_true (List.mem_filter.1 hu).2
  have hv:=of_decide_eq_true (List.mem_filter.1 hv).2
  rw [iZ h hb hq hu,iZ h hb hq hv] at hR
  omega
 ·rw [List.pairwise_iff_getElem]
  intro i j hi hj hij
  have a1:=gy bN hi
  have a2:=gy bN hj
  rw [List.getD_eq_getElem?_getD,List.getElem?_eq_getElem hi,Option.getD_some] at a1
  rw [List.getD_eq_getElem?_getD,List.getElem?_eq_getElem hj,Option.getD_some] at a2
  omega
theorem uq (k:Nat):((q.ord.take k).filter fun u=>decide (u<g.n))=p.ord.take (gA g q k):=by
 have hpre:((q.ord.take k).filter fun u=>decide (u<g.n))<+:(q.ord.filter fun u=>decide (u<g.n)):=(List.take_prefix k q.ord).filter _
 rw [CT h hb hq] at hpre
 exact List.prefix_iff_eq_take.1 hpre
theorem kg {u:Int} (hu:u<g.n) (k:Nat):u∈q.ord.take k↔u∈p.ord.take (gA g q k):=by
 rw [← uq h hb hq k,List.mem_filter]
 simp [hu]
theorem DX (k:Nat):gA g q k≤g.n.toNat:=by
 have h1:((q.ord.take k).filter fun u=>decide (u<g.n)).length=(p.ord.take (gA g q k)).length:=by rw [uq h hb hq k]
 have h2:gA g q k=((q.ord.take k).filter fun u=>decide (u<g.n)).length:=rfl
 have hl:=aM h.2.1
 rw [List.length_take] at h1
 omega
theorem wV {k:Nat} (hk:k<(aI g bs).n.toNat) (hx:g.n≤aq q k):gA g q (k+1)=gA g q k:=by
 unfold gA
 rw [ic (jM h hb hq) hk,List.filter_append]
 simp [show ¬aq q k<g.n by omega]
theorem nE {k:Nat} (hk:k<(aI g bs).n.toNat) (hx:aq q k<g.n):gA g q (k+1)=gA g q k+1∧gA g q k<g.n.toNat∧aq p (gA g q k)=aq q k:=by
 have e1:gA g q (k+1)=gA g q k+1:=by
  unfold gA
  rw [ic (jM h hb hq) hk,List.filter_append]
  simp [hx]
 have hc:=DX h hb hq (k+1)
 refine ⟨e1,by omega, ?_⟩
 have e2:=uq h hb hq (k+1)
 rw [ic (jM h hb hq) hk,List.filter_append,uq h hb hq k,e1,ic h.2.1 (by omega)] at e2
 have:=List.append_cancel_left e2
 simpa [hx] using this.symm
theorem IB {k:Nat} (hk:k≤(aI g bs).n.toNat) {e:Int} (he:lu (aI g bs) q k e):lu g p (gA g q k) (CS g bs e):=by
 have hm:=ag h.1
 have hn:=aA hm
 have tr:=fun (i:Int) (a:0≤i) (b:i<g.es.length)=>show 0≤dQ g i∧dQ g i<g.n from bg hm (i:=i.toNat) (by omega)
 have hr:=fun (i:Int) (a:0≤i) (b:i<g.es.length)=>show 0≤dZ g i∧dZ g i<g.n from bh hm (i:=i.toNat) (by omega)
 have hGn:(aI g bs).n=g.n+bs.length:=rfl
 have ot:=he.low
 have xD:=he.top
 rcases cW h hb hq he.e0 he.e1 with ⟨h3,h4⟩|⟨j,h3,h6,h7,h4,h5⟩
 ·obtain ⟨r1,r2⟩:=cR (g:=g) (bs:=bs) he.e0 h3
  rw [h4]
  rw [r1] at ot
  rw [r2] at xD
  refine ⟨he.e0,h3,(kg h hb hq (tr e he.e0 h3).2 k).1 ot,fun hc=> ?_⟩
  have hin:=(kg h hb hq (hr e he.e0 h3).2 k).2 hc
  by_cases rq:e∈bs
  ·rw [if_pos rq] at xD
   obtain ⟨n1,n2,n3,_⟩:=dr hb rq
   refine xD (yu h hb hq (by omega) (by omega) hk hin (.inl ?_))
   rw [n3,iZ h hb hq (hr e he.e0 h3).2]
   exact zX h he.e0 h3
  ·rw [if_neg rq] at xD
   exact xD hin
 ·rw [h7]
  obtain ⟨b0,b1⟩:=hb.oM _ h4
  obtain ⟨n1,n2,n3,_⟩:=dr hb h4
  have rC:=(iu (g:=g) h3).2
  rw [← h6] at rC
  rw [rC] at xD
  rw [h5] at ot
  have Iw:=tr _ b0 b1
  refine ⟨b0,b1,(kg h hb hq Iw.2 k).1 (yu h hb hq Iw.1 (by have:=Iw.2;omega) hk ot (.inr ⟨?_, ?_⟩)),fun hc=>xD ((kg h hb hq (hr _ b0 b1).2 k).2 hc)⟩
  ·rw [n3];exact iZ h hb hq Iw.2
  ·have:=Iw.2;omega
theorem eZ {k:Nat} (hk:k<(aI g bs).n.toNat) (hx:aq q k<g.n) {e:Int} (he:lu (aI g bs) q k e):dZ g (CS g bs e)=aq q k↔dZ (aI g bs) e=aq q k:=by
 have hm:=ag h.1
 have hn:=aA hm
 have hr:=fun (i:Int) (a:0≤i) (b:i<g.es.length)=>show 0≤dZ g i∧dZ g i<g.n from bh hm (i:=i.toNat) (by omega)
 have hGn:(aI g bs).n=g.n+bs.length:=rfl
 rcases cW h hb hq he.e0 he.e1 with ⟨h3,h4⟩|⟨j,h3,h6,h7,h4,h5⟩
 ·obtain ⟨r1,r2⟩:=cR (g:=g) (bs:=bs) he.e0 h3
  rw [h4,r2]
  by_cases rq:e∈bs
  ·rw [if_pos rq]
   obtain ⟨n1,n2,n3,_⟩:=dr hb rq
   constructor
   ·intro e2
    have xD:=he.top
    rw [r2,if_pos rq] at xD
    refine absurd (qR h hb hq (by omega) (by omega) hk (.inl ?_)) xD
    rw [n3,iZ h hb hq hx, ← e2]
    exact zX h he.e0 h3
   ·intro e2;omega
  ·rw [if_neg rq]
 ·have rC:=(iu (g:=g) h3).2
  rw [← h6] at rC
  rw [h7,rC]
theorem IC:Iv (aI g bs) q fun k a b=>(wT g p (gA g q k)).idxOf (CS g bs a)<(wT g p (gA g q k)).idxOf (CS g bs b):=by
 have hm:=ag h.1
 have hn:=aA hm
 have hGn:(aI g bs).n=g.n+bs.length:=rfl
 have tH:=jM h hb hq
 have mem:=fun (k:Nat) (hk:k≤(aI g bs).n.toNat) (e:Int) (he:lu (aI g bs) q k e)=>BI h (DX h hb hq k) _ (IB h hb hq hk he)
 have only:=fun (k:Nat) (hk:k<(aI g bs).n.toNat) (hx:g.n≤aq q k) (e:Int) (he:lu (aI g bs) q k e) (hd:dZ (aI g bs) e=aq q k)=>show e∈bs∧wU g bs e=aq q k∧CS g bs e=e by
  rcases cW h hb hq he.e0 he.e1 with ⟨h3,h4⟩|⟨j,h3,h6,h7,h4,h5⟩
  ·have r2:=(cR (g:=g) (bs:=bs) he.e0 h3).2
   rw [hd] at r2
   by_cases rq:e∈bs
   ·rw [if_pos rq] at r2
    exact ⟨rq,r2.symm,h4⟩
   ·rw [if_neg rq] at r2
    have h8:dZ g e<g.n:=(bh hm (i:=e.toNat) (by have:=he.e0;omega)).2
    omega
  ·have rC:=(iu (g:=g) h3).2
   rw [← h6,hd] at rC
   obtain ⟨b0,b1⟩:=hb.oM _ h4
   have h8:dZ g (bs.getD j 0)<g.n:=(bh hm (i:=(bs.getD j 0).toNat) (by omega)).2
   omega
 have same:=fun (k:Nat) (hk:k<(aI g bs).n.toNat) (hx:g.n≤aq q k) (e e':Int) (he:lu (aI g bs) q k e) (he':lu (aI g bs) q k e') (hd:dZ (aI g bs) e=aq q k) (hd':dZ (aI g bs) e'=aq q k)=>show e=e' by
  obtain ⟨a1,a2,_⟩:=only k hk hx e he hd
  obtain ⟨b1,b2,_⟩:=only k hk hx e' he' hd'
  have a3:=(dr hb a1).2.2.2
  have b3:=(dr hb b1).2.2.2
  rw [a2] at a3
  rw [b2] at b3
  rw [← a3,b3]
 have Mp:=fun (k:Nat) (hk:k<(aI g bs).n.toNat) (hx:aq q k<g.n)=>show bE q (aq q k)=bE p (aq q k) from hq.K6 _ (by have:=(aH tH hk).1;omega)
 have PV:=fun (v e:Int) (h0:0≤v) (h1:v<g.n) (he:e∈bE p v)=>show CS g bs e=e by
  have:=(aZ.1 ((bp h.2.1 h0 h1).mem_iff.1 he)).1.2
  exact if_pos this
 have jV:=fun (k:Nat) (hk:k<(aI g bs).n.toNat) (hx:g.n≤aq q k) (c:Int) (hc:c∈bE q (aq q k))=>show CS g bs c=bs.getD (aq q k - g.n).toNat 0 by
  obtain ⟨x0,x1⟩:=aH tH hk
  have hj:(aq q k - g.n).toNat<bs.length:=by omega
  have:=hq.Iz _ hj
  have e:bE q (aq q k)= [((g.es.length+(aq q k - g.n).toNat:Nat):Int)]:=by
   rw [← this];unfold bE;congr 1;omega
  rw [e,List.mem_singleton] at hc
  subst hc
  unfold CS
  rw [if_neg (by omega)]
  congr 1;omega
 refine ⟨fun e e0 e1 k hk ek=> ?_,fun k hk a b c ha hb' hc ea ec r1 r2=> ?_,fun k hk a b ha hb' na nb r=> ?_,fun k hk a b c ha hb' na eb hc r=> ?_,fun k hk a b c ha hb' na eb hc r=> ?_,fun k hk=> ?_⟩
 ·have tR:=K7 h hb hq e0 e1
  rw [← ek] at tR
  have yh:0≤dQ (aI g bs) e∧dQ (aI g bs) e<(aI g bs).n:=by
   rcases cW h hb hq e0 e1 with ⟨h3,h4⟩|⟨j,h3,h6,h7,h4,h5⟩
   ·rw [(cR (g:=g) (bs:=bs) e0 h3).1]
    have h8:0≤dQ g e∧dQ g e<g.n:=bg hm (i:=e.toNat) (by omega)
    omega
   ·obtain ⟨n1,n2,_⟩:=dr hb h4
    omega
  exact qR h hb hq yh.1 yh.2 hk tR
 ·by_cases hx:aq q k<g.n
  ·obtain ⟨c1,c2,c3⟩:=nE h hb hq hk hx
   obtain ⟨A,X,C,e1,hA,hX,hC,_⟩:=js h c2
   have bN:=kf h (c:=gA g q k) (by omega)
   have ma:=mem k (by omega) a ha
   have mb:=mem k (by omega) b hb'
   have mc:=mem k (by omega) c hc
   have da:=(eZ h hb hq hk hx ha).2 ea
   have dc:=(eZ h hb hq hk hx hc).2 ec
   refine (eZ h hb hq hk hx hb').1 ?_
   rw [c3] at hA hX hC
   rw [e1] at ma mb mc r1 r2 bN
   have Rx:CS g bs a∈X:=by
    rcases List.mem_append.1 ma with h1|h1
    ·rcases List.mem_append.1 h1 with h1|h1
     ·exact absurd da (hA _ h1)
     ·exact h1
    ·exact absurd da (hC _ h1)
   have Ce:CS g bs c∈X:=by
    rcases List.mem_append.1 mc with h1|h1
    ·rcases List.mem_append.1 h1 with h1|h1
     ·exact absurd dc (hA _ h1)
     ·exact h1
    ·exact absurd dc (hC _ h1)
   rw [List.append_assoc] at r1 r2 mb bN
   have UP:(X++C).Nodup:=(List.nodup_append.1 bN).2.1
   obtain ⟨i1,_⟩:=iY (A:=A) (B:=X++C) bN (List.mem_append_left C Rx)
   obtain ⟨i2,_⟩:=iY (A:=A) (B:=X++C) bN (List.mem_append_left C Ce)
   obtain ⟨i3,i4⟩:=tG (A:=X) (B:=C) Ce
   rcases List.mem_append.1 mb with h1|h1
   ·obtain ⟨i5,i6⟩:=tG (A:=A) (B:=X++C) h1
    omega
   ·rcases List.mem_append.1 h1 with h2|h2
    ·exact hX _ h2
    ·obtain ⟨i5,_⟩:=iY (A:=A) (B:=X++C) bN h1
     obtain ⟨i7,_⟩:=iY (A:=X) (B:=C) UP h2
     omega
  ·have:=same k hk (by omega) a c ha hc ea ec
   subst this
   omega
 ·by_cases hx:aq q k<g.n
  ·obtain ⟨c1,c2,c3⟩:=nE h hb hq hk hx
   obtain ⟨A,X,C,e1,hA,hX,hC,e2⟩:=js h c2
   have bN:=kf h (c:=gA g q k) (by omega)
   have fZ:=kf h (c:=gA g q k+1) (by omega)
   have ma:=mem k (by omega) a ha
   have mb:=mem k (by omega) b hb'
   have da:=fun e=>na ((eZ h hb hq hk hx ha).1 e)
   have db:=fun e=>nb ((eZ h hb hq hk hx hb').1 e)
   rw [c1,e2]
   rw [c3] at hA hX hC
   rw [e2] at fZ
   rw [e1] at ma mb r bN
   rw [List.append_assoc] at r ma mb bN fZ ⊢
   have PW:(X++C).Nodup:=(List.nodup_append.1 bN).2.1
   have M7:=(List.nodup_append.1 fZ).2.1
   have sp:∀u,u∈A++(X++C)→dZ g u≠aq q k→u∈A∨u∈C:=fun u hu hne=>by
    rcases List.mem_append.1 hu with h1|h1
    ·exact .inl h1
    ·rcases List.mem_append.1 h1 with h2|h2
     ·exact absurd (hX _ h2) hne
     ·exact .inr h2
   rcases sp _ ma da with h1|h1<;>rcases sp _ mb db with h2|h2
   ·rw [(tG h1).1,(tG h2).1] at r ⊢
    exact r
   ·have i1:=tG (B:=bE p (aq p (gA g q k))++C) h1
    have i2:=iY fZ (List.mem_append_right _ h2)
    omega
   ·have i1:=tG (B:=X++C) h2
    have i2:=iY bN (List.mem_append_right X h1)
    omega
   ·have i1:=iY bN (List.mem_append_right X h1)
    have i2:=iY bN (List.mem_append_right X h2)
    have i3:=iY PW h1
    have i4:=iY PW h2
    have j1:=iY fZ (List.mem_append_right (bE p (aq p (gA g q k))) h1)
    have j2:=iY fZ (List.mem_append_right (bE p (aq p (gA g q k))) h2)
    have j3:=iY M7 h1
    have j4:=iY M7 h2
    omega
  ·rw [wV h hb hq hk (by omega)];exact r
 ·by_cases hx:aq q k<g.n
  ·obtain ⟨c1,c2,c3⟩:=nE h hb hq hk hx
   obtain ⟨A,X,C,e1,hA,hX,hC,e2⟩:=js h c2
   have bN:=kf h (c:=gA g q k) (by omega)
   have fZ:=kf h (c:=gA g q k+1) (by omega)
   have ma:=mem k (by omega) a ha
   have mb:=mem k (by omega) b hb'
   have da:=fun e=>na ((eZ h hb hq hk hx ha).1 e)
   have db:=(eZ h hb hq hk hx hb').2 eb
   rw [Mp k hk hx] at hc
   rw [PV _ c (aH tH hk).1 hx hc]
   rw [c1,e2]
   rw [c3] at hA hX hC ⊢
   rw [e2] at fZ
   rw [e1] at ma mb r bN
   rw [List.append_assoc] at r ma mb bN fZ ⊢
   rw [c3] at fZ
   have PW:(X++C).Nodup:=(List.nodup_append.1 bN).2.1
   have hb2:CS g bs b∈X:=by
    rcases List.mem_append.1 mb with h1|h1
    ·exact absurd db (hA _ h1)
    ·rcases List.mem_append.1 h1 with h1|h1
     ·exact h1
     ·exact absurd db (hC _ h1)
   have i2:=iY bN (List.mem_append_left C hb2)
   have i3:=tG (B:=C) hb2
   have j2:=iY fZ (List.mem_append_left C hc)
   rcases List.mem_append.1 ma with h1|h1
   ·have j1:=tG (B:=bE p (aq q k)++C) h1
    omega
   ·rcases List.mem_append.1 h1 with h2|h2
    ·exact absurd (hX _ h2) da
    ·have i1:=iY bN h1
     have i4:=iY PW h2
     omega
  ·have hx:g.n≤aq q k:=by omega
   obtain ⟨a1,a2,a3⟩:=only k hk hx b hb' eb
   have a4:=(dr hb a1).2.2.2
   rw [a2] at a4
   rw [wV h hb hq hk hx,jV k hk hx c hc,a4, ← a3]
   exact r
 ·by_cases hx:aq q k<g.n
  ·obtain ⟨c1,c2,c3⟩:=nE h hb hq hk hx
   obtain ⟨A,X,C,e1,hA,hX,hC,e2⟩:=js h c2
   have bN:=kf h (c:=gA g q k) (by omega)
   have fZ:=kf h (c:=gA g q k+1) (by omega)
   have ma:=mem k (by omega) a ha
   have mb:=mem k (by omega) b hb'
   have da:=fun e=>na ((eZ h hb hq hk hx ha).1 e)
   have db:=(eZ h hb hq hk hx hb').2 eb
   rw [Mp k hk hx] at hc
   rw [PV _ c (aH tH hk).1 hx hc]
   rw [c1,e2]
   rw [c3] at hA hX hC ⊢
   rw [e2] at fZ
   rw [e1] at ma mb r bN
   rw [List.append_assoc] at r ma mb bN fZ ⊢
   rw [c3] at fZ
   have M7:=(List.nodup_append.1 fZ).2.1
   have hb2:CS g bs b∈X:=by
    rcases List.mem_append.1 mb with h1|h1
    ·exact absurd db (hA _ h1)
    ·rcases List.mem_append.1 h1 with h1|h1
     ·exact h1
     ·exact absurd db (hC _ h1)
   have i2:=iY bN (List.mem_append_left C hb2)
   have j2:=iY fZ (List.mem_append_left C hc)
   have j3:=tG (B:=C) hc
   rcases List.mem_append.1 ma with h1|h1
   ·have i1:=tG (B:=X++C) h1
    omega
   ·rcases List.mem_append.1 h1 with h2|h2
    ·exact absurd (hX _ h2) da
    ·have j1:=iY fZ (List.mem_append_right (bE p (aq q k)) h2)
     have j4:=iY M7 h2
     omega
  ·have hx:g.n≤aq q k:=by omega
   obtain ⟨a1,a2,a3⟩:=only k hk hx b hb' eb
   have a4:=(dr hb a1).2.2.2
   rw [a2] at a4
   rw [wV h hb hq hk hx,jV k hk hx c hc,a4, ← a3]
   exact r
 ·by_cases hx:aq q k<g.n
  ·obtain ⟨c1,c2,c3⟩:=nE h hb hq hk hx
   obtain ⟨A,X,C,_,_,_,_,e2⟩:=js h c2
   have fZ:=kf h (c:=gA g q k+1) (by omega)
   rw [Mp k hk hx,c1,e2]
   rw [e2,List.append_assoc] at fZ
   rw [List.append_assoc]
   rw [c3] at fZ ⊢
   have M7:=(List.nodup_append.1 fZ).2.1
   have SX:=(List.nodup_append.1 M7).1
   rw [List.pairwise_iff_getElem]
   intro i j hi hj hij
   have m1:(bE p (aq q k))[i]∈bE p (aq q k):=List.getElem_mem hi
   have m2:(bE p (aq q k))[j]∈bE p (aq q k):=List.getElem_mem hj
   rw [PV _ _ (aH tH hk).1 hx m1,PV _ _ (aH tH hk).1 hx m2]
   have j1:=iY fZ (List.mem_append_left C m1)
   have j2:=iY fZ (List.mem_append_left C m2)
   have j3:=tG (B:=C) m1
   have j4:=tG (B:=C) m2
   have a1:=gy SX hi
   have a2:=gy SX hj
   rw [List.getD_eq_getElem?_getD,List.getElem?_eq_getElem hi,Option.getD_some] at a1
   rw [List.getD_eq_getElem?_getD,List.getElem?_eq_getElem hj,Option.getD_some] at a2
   omega
  ·have hx:g.n≤aq q k:=by omega
   obtain ⟨x0,x1⟩:=aH tH hk
   have hj:(aq q k - g.n).toNat<bs.length:=by omega
   have:=hq.Iz _ hj
   have e:bE q (aq q k)= [((g.es.length+(aq q k - g.n).toNat:Nat):Int)]:=by
    rw [← this];unfold bE;congr 1;omega
   rw [e]
   exact List.pairwise_singleton ..
theorem ID (hG:(bT (aI g bs)).1=0):aN (aI g bs) q:=FF hG (jM h hb hq) (IC h hb hq)
end
end Go.Ab
end
section
namespace Go.Ab
open Go.Proofs
set_option maxRecDepth 10000
set_option linter.unusedSectionVars false
theorem Kg {G:Gr} (hm:aG G=true) (φ:Int→Nat) (up:∀i,i<G.es.length→φ (tl G i)<φ (hd G i)) (tw:∀i k,i<G.es.length→k<G.es.length→i≠k→G.es.getD i (0,0)≠G.es.getD k (0,0)) (s:Int)
 (src:∀y,0≤y→y<G.n→(∀i,i<G.es.length→hd G i≠y)→y=s):(bT G).1=0:=by
 have Io:DD G=true:=(ug hm).2 ⟨φ,up⟩
 have Ip:¬0≤jD G:=fun hl=>by
  have h1:=fL (fun e:Edge=>decide (e.1=e.2)) G.es
  have h0:decide (0≤bQ (fun e:Edge=>decide (e.1=e.2)) G.es)=true:=decide_eq_true hl
  rw [h0] at h1
  obtain ⟨e,he,h2⟩:=List.any_eq_true.1 h1.symm
  obtain ⟨i,hi,rfl⟩:=List.mem_iff_getElem.1 he
  have h3:tl G i=hd G i:=by simpa [tl,hd,List.getD_eq_getElem?_getD,List.getElem?_eq_getElem hi] using h2
  have:=up i hi
  rw [h3] at this
  omega
 have HG:¬0≤dV G:=fun ht=>by
  obtain ⟨i,k,hi,hk,hik,e⟩:=(jq _).1 ht
  exact tw i k hi hk hik e
 have Iq:¬1<(bF (·.2) G).length:=fun hb=>by
  have hs:∀y∈bF (·.2) G,y=s:=fun y hy=>by
   obtain ⟨⟨y0,y1⟩,y2⟩:=n0.1 hy
   refine src y y0 y1 fun i hi e=> ?_
   have:=nZ (g:=G) (e:=(i:Int)) (by omega) (by omega)
   rw [Int.toNat_natCast,show (G.es.getD i (0,0)).2=y from e] at this
   omega
  have:=wQ eH hs
  omega
 unfold bT fS
 rw [if_neg (by simp [hm]),if_neg Ip,if_neg HG,if_neg (by rw [zS hm Io];simp),if_neg Iq]
theorem CU {g:Gr} (h:(bT g).1=0) {i k:Nat} (hi:i<g.es.length) (hk:k<g.es.length) (e:g.es.getD i (0,0)=g.es.getD k (0,0)):i=k:=by
 refine Decidable.byContradiction fun hik=> ?_
 have hgt:¬0≤dV g:=by
  unfold bT fS at h
  intro h2
  split at h
  ·cases h
  split at h
  ·cases h
  cases h
 exact hgt ((jq g).2 ⟨i,k,hi,hk,hik,e⟩)
section
variable {g:Gr} {p:Pl} {bs:List Int} {q:Pl} (h:aN g p) (hb:zW g bs) (hq:Iy g p bs q) (hs1:g.n+bs.length≤64) (F3:g.es.length+bs.length≤128)
include h hb hq hs1 F3
theorem Kh:aG (aI g bs)=true:=by
 have hm:=ag h.1
 have hn:=aA hm
 have hGn:(aI g bs).n=g.n+bs.length:=rfl
 simp only [aG,Bool.and_eq_true,decide_eq_true_eq,Bool.not_eq_true',List.any_eq_false]
 refine ⟨⟨⟨by omega,by omega⟩,by rw [eY];omega⟩,fun e he=> ?_⟩
 simp only [oZ,vk,Bool.or_eq_true,decide_eq_true_eq,not_or]
 obtain ⟨i,hi,rfl⟩:=List.mem_iff_getElem.1 he
 have e0:(aI g bs).es.getD i (0,0)=(aI g bs).es[i]:=by rw [List.getD_eq_getElem?_getD,List.getElem?_eq_getElem hi];rfl
 have et:((aI g bs).es[i]).1=dQ (aI g bs) (i:Int):=by unfold dQ;rw [Int.toNat_natCast,e0]
 have eh:((aI g bs).es[i]).2=dZ (aI g bs) (i:Int):=by unfold dZ;rw [Int.toNat_natCast,e0]
 rw [et,eh]
 rcases cW h hb hq (e:=(i:Int)) (by omega) (by omega) with ⟨h3,h4⟩|⟨j,h3,h6,h7,h4,h5⟩
 ·obtain ⟨r1,r2⟩:=cR (g:=g) (bs:=bs) (e:=(i:Int)) (by omega) h3
  have t0:0≤dQ g i∧dQ g i<g.n:=bg hm (i:=i) (by omega)
  have d0:0≤dZ g i∧dZ g i<g.n:=bh hm (i:=i) (by omega)
  rw [r1,r2]
  by_cases rq:(i:Int)∈bs
  ·rw [if_pos rq]
   obtain ⟨n1,n2,_⟩:=dr hb rq
   omega
  ·rw [if_neg rq];omega
 ·obtain ⟨b0,b1⟩:=hb.oM _ h4
  obtain ⟨n1,n2,_⟩:=dr hb h4
  have d0:0≤dZ g (bs.getD j 0)∧dZ g (bs.getD j 0)<g.n:=bh hm (i:=(bs.getD j 0).toNat) (by omega)
  have rC:=(iu (g:=g) h3).2
  rw [← h6] at rC
  rw [h5,rC]
  omega
theorem Mq {i k:Int} (MU:0≤i) (hi1:i<(aI g bs).es.length) (xo:0≤k) (yO:k<(aI g bs).es.length) (e1:dQ (aI g bs) i=dQ (aI g bs) k) (e2:dZ (aI g bs) i=dZ (aI g bs) k):i=k:=by
 have hm:=ag h.1
 have tr:=fun (i:Int) (a:0≤i) (b:i<g.es.length)=>show 0≤dQ g i∧dQ g i<g.n from bg hm (i:=i.toNat) (by omega)
 have hr:=fun (i:Int) (a:0≤i) (b:i<g.es.length)=>show 0≤dZ g i∧dZ g i<g.n from bh hm (i:=i.toNat) (by omega)
 rcases cW h hb hq MU hi1 with ⟨h3,h4⟩|⟨j,h3,h6,h7,h4,h5⟩
 ·obtain ⟨r1,r2⟩:=cR (g:=g) (bs:=bs) MU h3
  have t0:=tr i MU h3
  rcases cW h hb hq xo yO with ⟨g3,g4⟩|⟨j',g3,g6,g7,g4,g5⟩
  ·obtain ⟨s1,s2⟩:=cR (g:=g) (bs:=bs) xo g3
   rw [r1,s1] at e1
   rw [r2,s2] at e2
   by_cases M8:i∈bs
   ·by_cases CC:k∈bs
    ·rw [if_pos M8,if_pos CC] at e2
     have a1:=(dr hb M8).2.2.2
     have a2:=(dr hb CC).2.2.2
     rw [e2] at a1
     rw [← a1,a2]
    ·rw [if_pos M8,if_neg CC] at e2
     have:=(dr hb M8).1
     have:=hr k xo g3
     omega
   ·by_cases CC:k∈bs
    ·rw [if_neg M8,if_pos CC] at e2
     have:=(dr hb CC).1
     have:=hr i MU h3
     omega
    ·rw [if_neg M8,if_neg CC] at e2
     have:=CU h.1 (i:=i.toNat) (k:=k.toNat) (by omega) (by omega) (Prod.ext e1 e2)
     omega
  ·have:=(dr hb g4).1
   omega
 ·rcases cW h hb hq xo yO with ⟨g3,g4⟩|⟨j',g3,g6,g7,g4,g5⟩
  ·have:=(dr hb h4).1
   have:=(cR (g:=g) (bs:=bs) xo g3).1
   have:=tr k xo g3
   omega
  ·rw [h5,g5] at e1
   have a1:=gy hb.nd h3
   have a2:=gy hb.nd g3
   unfold wU at e1
   have:j=j':=by omega
   rw [h6,g6,this]
theorem BJ:(bT (aI g bs)).1=0:=by
 have hm:=ag h.1
 have hn:=aA hm
 have yh:=Kh h hb hq hs1 F3
 have hGn:(aI g bs).n=g.n+bs.length:=rfl
 have tH:=jM h hb hq
 have OX:=b8 tH
 have EA:=aM tH
 refine Kg yh (fun v=>q.ord.idxOf v) (fun i hi=> ?_) (fun i k hi hk hik e=>hik ?_) (aq p 0) (fun y y0 y1 hy=> ?_)
 ·have hR:=K7 h hb hq (e:=(i:Int)) (by omega) (by omega)
  have e1:dQ (aI g bs) (i:Int)=tl (aI g bs) i:=rfl
  have e2:dZ (aI g bs) (i:Int)=hd (aI g bs) i:=rfl
  rw [e1,e2] at hR
  obtain ⟨t0,t1⟩:=bg yh hi
  obtain ⟨d0,d1⟩:=bh yh hi
  obtain ⟨k,hk,ek⟩:=cz tH d0 d1
  rw [← ek] at hR
  obtain ⟨j,j1,j2,j3⟩:=lz (qR h hb hq t0 t1 hk hR)
  have a1:q.ord.idxOf (tl (aI g bs) i)=j:=by rw [← j3];exact gy OX j2
  have a2:q.ord.idxOf (hd (aI g bs) i)=k:=by rw [← ek];exact gy OX (by omega)
  omega
 ·have e1:dQ (aI g bs) (i:Int)=dQ (aI g bs) (k:Int):=by unfold dQ;simp only [Int.toNat_natCast];rw [e]
  have e2:dZ (aI g bs) (i:Int)=dZ (aI g bs) (k:Int):=by unfold dZ;simp only [Int.toNat_natCast];rw [e]
  have:=Mq h hb hq hs1 F3 (i:=(i:Int)) (k:=(k:Int)) (by omega) (by omega) (by omega) (by omega) e1 e2
  omega
 ·have L7:y<g.n:=by
   refine Decidable.byContradiction fun L7=> ?_
   have hj:(y - g.n).toNat<bs.length:=by omega
   have hin:bs.getD (y - g.n).toNat 0∈bs:=aQ hj
   obtain ⟨b0,b1⟩:=hb.oM _ hin
   have r2:=(cR (g:=g) (bs:=bs) b0 b1).2
   rw [if_pos hin] at r2
   unfold wU at r2
   rw [gy hb.nd hj] at r2
   refine hy (bs.getD (y - g.n).toNat 0).toNat (by rw [eY];omega) ?_
   have:hd (aI g bs) (bs.getD (y - g.n).toNat 0).toNat=dZ (aI g bs) (bs.getD (y - g.n).toNat 0):=rfl
   rw [this,r2];omega
  have h0:=aH h.2.1 (k:=0) (by omega)
  have hz:aV g y=0:=by
   refine Decidable.byContradiction fun hnz=> ?_
   obtain ⟨e,he⟩:∃e,e∈aK (·.2) g.es g.es.length y:=by
    cases hc:aK (·.2) g.es g.es.length y with
    |nil=>exact absurd (by unfold aV;rw [hc];rfl) hnz
    |cons e l=>exact ⟨e,by simp⟩
   obtain ⟨⟨e0,e1⟩,e2⟩:=aZ.1 he
   have e2:dZ g e=y:=e2
   have r2:=(cR (g:=g) (bs:=bs) e0 e1).2
   by_cases rq:e∈bs
   ·obtain ⟨i1,i2⟩:=sy rq
    have rC:=(iu (g:=g) i1).2
    rw [i2,e2] at rC
    exact hy (g.es.length+bs.idxOf e) (by rw [eY];omega) rC
   ·rw [if_neg rq,e2] at r2
    exact hy e.toNat (by rw [eY];omega) r2
  refine eV h.1 ⟨y0,L7⟩ h0 hz ?_
  refine Decidable.byContradiction fun hnz=> ?_
  obtain ⟨A,X,C,hrw,_,_,hX,_⟩:=bM hm (qC g).toeo (h.2.2 0 (by omega)) hnz
  obtain ⟨q,X0,e1,_⟩:=hX.fst
  rw [e1] at hrw
  simp at hrw
theorem Ki:aN (aI g bs) q:=ID h hb hq (BJ h hb hq hs1 F3)
theorem Mr (hI:lG g=true):lG (aI g bs)=true:=by
 have hm:=ag h.1
 have hn:=aA hm
 have hGn:(aI g bs).n=g.n+bs.length:=rfl
 have hN:=IA h hb hq
 have tH:=jM h hb hq
 unfold lG at hI ⊢
 rw [Bool.and_eq_true,decide_eq_true_eq,decide_eq_true_eq] at hI
 rw [decide_eq_true (BJ h hb hq hs1 F3),Bool.true_and,decide_eq_true_eq]
 have key:∀y,y∈bF (·.1) (aI g bs)↔y∈bF (·.1) g:=fun y=>by
  rw [eW,eW]
  constructor
  ·rintro ⟨⟨y0,y1⟩,y2⟩
   by_cases L7:y<g.n
   ·refine ⟨⟨y0,L7⟩,List.eq_nil_iff_forall_not_mem.2 fun e he=> ?_⟩
    obtain ⟨⟨e0,e1⟩,e2⟩:=aZ.1 he
    have:e∈aK (·.1) (aI g bs).es (aI g bs).es.length y:=aZ.2 ⟨⟨e0,by rw [eY];omega⟩,((cR (g:=g) (bs:=bs) e0 e1).1.trans e2)⟩
    rw [y2] at this;cases this
   ·exfalso
    have hj:(y - g.n).toNat<bs.length:=by omega
    have PR:=(iu (g:=g) hj).1
    have:((g.es.length+(y - g.n).toNat:Nat):Int)∈aK (·.1) (aI g bs).es (aI g bs).es.length y:=aZ.2 ⟨⟨by omega,by rw [eY];omega⟩,by have:dQ (aI g bs) ((g.es.length+(y - g.n).toNat:Nat):Int)=y:=by {rw [PR];omega};exact this⟩
    rw [y2] at this;cases this
  ·rintro ⟨⟨y0,y1⟩,y2⟩
   refine ⟨⟨y0,by omega⟩,List.eq_nil_iff_forall_not_mem.2 fun e he=> ?_⟩
   obtain ⟨⟨e0,e1⟩,e2⟩:=aZ.1 he
   have e2:dQ (aI g bs) e=y:=e2
   rcases cW h hb hq e0 e1 with ⟨h3,h4⟩|⟨j,h3,h6,h7,h4,h5⟩
   ·have:e∈aK (·.1) g.es g.es.length y:=aZ.2 ⟨⟨e0,h3⟩,((cR (g:=g) (bs:=bs) e0 h3).1.symm.trans e2)⟩
    rw [y2] at this;cases this
   ·have:=(dr hb h4).1
    omega
 have hp:(bF (·.1) (aI g bs)).Perm (bF (·.1) g):=(List.perm_ext_iff_of_nodup eH eH).2 key
 rw [hp.length_eq]
 exact hI.2
end
end Go.Ab
end
section
namespace Go.Ab
open Go.Proofs
set_option maxRecDepth 10000
set_option linter.unusedSectionVars false
def pO (g:Gr) (bs:List Int) (k:Nat) (v:Int):List Int:=((List.range k).filter fun j=>dQ g (bs.getD j 0)=v).map fun j:Nat=>g.n+(j:Int)
def e8 (g:Gr) (bs:List Int) (k:Nat) (ord:List Int):List Int:=ord.flatMap fun v=>v::pO g bs k v
def jV (g:Gr) (k:Nat):List (List Int):=(List.range k).map fun j:Nat=> [((g.es.length+j:Nat):Int)]
def zY (g:Gr) (p:Pl) (bs:List Int):Pl:=⟨e8 g bs bs.length p.ord,p.outs++jV g bs.length⟩
theorem BK {g:Gr} {bs:List Int} {k:Nat} (v:Int):pO g bs (k+1) v=pO g bs k v++if dQ g (bs.getD k 0)=v then [g.n+(k:Int)] else []:=by
 unfold pO
 rw [List.range_succ,List.filter_append,List.map_append]
 congr 1
 by_cases h:dQ g (bs.getD k 0)=v
 ·rw [if_pos h,List.filter_cons,if_pos (decide_eq_true h)];rfl
 ·rw [if_neg h,List.filter_cons,if_neg (by rw [decide_eq_false h];decide)];rfl
theorem iw {g:Gr} {bs:List Int} {k:Nat} {v u:Int} :u∈pO g bs k v↔∃j:Nat,j<k∧dQ g (bs.getD j 0)=v∧u=g.n+(j:Int):=by
 simp only [pO,List.mem_map,List.mem_filter,List.mem_range,decide_eq_true_eq]
 constructor
 ·rintro ⟨j,⟨h1,h2⟩,rfl⟩;exact ⟨j,h1,h2,rfl⟩
 ·rintro ⟨j,h1,h2,rfl⟩;exact ⟨j,⟨h1,h2⟩,rfl⟩
theorem BL {g:Gr} {bs:List Int} {k:Nat} {a b:List Int} :e8 g bs k (a++b)=e8 g bs k a++e8 g bs k b:=by simp [e8]
theorem jt {g:Gr} {bs:List Int} {k:Nat} {v:Int} {b:List Int} :e8 g bs k (v::b)=v::(pO g bs k v++e8 g bs k b):=by simp [e8]
theorem yw {g:Gr} {bs:List Int} {a:List Int} :e8 g bs 0 a=a:=by
 induction a with
 |nil=>rfl
 |cons v a ih=>rw [jt,ih];rfl
theorem wW {g:Gr} {bs:List Int} {k:Nat} {a:List Int} (h:dQ g (bs.getD k 0)∉a):e8 g bs (k+1) a=e8 g bs k a:=by
 induction a with
 |nil=>rfl
 |cons v a ih=>
  rw [jt,jt,ih fun e=>h (List.mem_cons.2 (.inr e)),BK,if_neg fun e=>h (List.mem_cons.2 (.inl e)),List.append_nil]
theorem BM {g:Gr} {bs:List Int} {k:Nat} {a:List Int} {u:Int} :u∈e8 g bs k a↔∃v∈a,u=v∨u∈pO g bs k v:=by simp [e8]
theorem yx {g:Gr} {bs:List Int} {k:Nat} {ord:List Int} (bN:ord.Nodup) (hr:∀u∈ord,u<g.n) (ht:dQ g (bs.getD k 0)∈ord):
 ∃A B,e8 g bs k ord=A++dQ g (bs.getD k 0)::(pO g bs k (dQ g (bs.getD k 0))++B)∧e8 g bs (k+1) ord=A++dQ g (bs.getD k 0)::(pO g bs k (dQ g (bs.getD k 0))++(g.n+(k:Int))::B)∧dQ g (bs.getD k 0)∉A∧∀u r,B=u::r→u<g.n:=by
 obtain ⟨o1,o2,e⟩:=List.append_of_mem ht
 have fZ:=bN
 rw [e,List.nodup_append] at fZ
 obtain ⟨_,n2,n3⟩:=fZ
 obtain ⟨n4,_⟩:=List.nodup_cons.1 n2
 have n5:dQ g (bs.getD k 0)∉o1:=fun h=>n3 _ h _ (by simp) rfl
 refine ⟨e8 g bs k o1,e8 g bs k o2, ?_, ?_,fun h=> ?_,fun u r hB=> ?_⟩
 ·rw [congrArg (e8 g bs k) e,BL,jt]
 ·rw [congrArg (e8 g bs (k+1)) e,BL,jt,wW n5,wW n4,BK,if_pos rfl];simp
 ·obtain ⟨v,hv,h1|h1⟩:=BM.1 h
  ·exact n5 (h1 ▸ hv)
  ·obtain ⟨j,_,_,h2⟩:=iw.1 h1
   have:=hr _ ht
   omega
 ·cases o2 with
  |nil=>simp [e8] at hB
  |cons w o2=>
   rw [jt] at hB
   cases hB
   exact hr _ (by rw [e];simp)
theorem wX {bs:List Int} {k j:Nat} (h:j<k):(bs.take k).getD j 0=bs.getD j 0:=by
 rw [List.getD_eq_getElem?_getD,List.getD_eq_getElem?_getD,List.getElem?_take_of_lt h]
theorem ur {bs:List Int} {k:Nat} (h:k<bs.length):bs.take (k+1)=bs.take k++ [bs.getD k 0]:=by
 rw [List.take_add_one,List.getElem?_eq_getElem h,List.getD_eq_getElem?_getD,List.getElem?_eq_getElem h];rfl
theorem FH {g:Gr} {bs:List Int} (hb:zW g bs) {k:Nat} (hk:k<bs.length) {i:Nat} (hi:bs.getD k 0=i):
 i<g.es.length∧(jU g (bs.take k)).getD i (0,0)=(tl g i,hd g i)∧jU g (bs.take (k+1))=(jU g (bs.take k)++ [(g.n+(k:Int),hd g i)]).set i (tl g i,g.n+(k:Int)):=by
 have hil:i<g.es.length:=by have:=hb.oM _ (aQ (d:=0) hk);omega
 have hlt:(bs.take k).length=k:=by simp;omega
 have sC:(bs.take (k+1)).length=k+1:=by simp;omega
 have hni:(i:Int)∉bs.take k:=fun hm=>by
  have bN:=hb.nd
  rw [← List.take_append_drop (k+1) bs,ur hk,hi] at bN
  have:=(List.nodup_append.1 (List.nodup_append.1 bN).1).2.2 _ hm _ (List.mem_singleton.2 rfl)
  exact this rfl
 refine ⟨hil, ?_, ?_⟩
 ·unfold jU
  rw [List.getD_eq_getElem?_getD,List.getElem?_append_left (by simpa using hil),List.getElem?_map,List.getElem?_range hil,Option.map_some,Option.getD_some,if_neg hni]
 ·unfold jU
  rw [hlt,sC,List.append_assoc,List.set_append_left _ _ (by simpa using hil),List.range_succ (n:=k),List.map_append,List.map_cons,List.map_nil]
  have rC:dZ g ((bs.take (k+1)).getD k 0)=hd g i:=by rw [wX (by omega),hi];rfl
  rw [rC]
  congr 1
  ·refine List.ext_getElem? fun j=> ?_
   rw [List.getElem?_set]
   by_cases hj:j<g.es.length
   ·rw [List.getElem?_map,List.getElem?_range hj,List.getElem?_map,List.getElem?_range hj]
    simp only [Option.map_some,List.length_map,List.length_range]
    by_cases e:i=j
    ·subst e
     have hin:(i:Int)∈bs.take (k+1):=by rw [ur hk,hi];simp
     rw [if_pos rfl,if_pos hj,if_pos hin]
     unfold wU
     rw [ur hk,hi,zV,if_neg hni,hlt]
     simp
    ·rw [if_neg e,ur hk,hi]
     by_cases hm:(j:Int)∈bs.take k
     ·rw [if_pos hm,if_pos (by simp [hm])]
      unfold wU
      rw [zV,if_pos hm]
     ·rw [if_neg hm,if_neg (by simp [hm];omega)]
   ·rw [if_neg (by omega),List.getElem?_eq_none (by simpa using hj),List.getElem?_eq_none (by simpa using hj)]
  ·congr 1
   refine List.map_congr_left fun j hj=> ?_
   rw [List.mem_range] at hj
   rw [wX hj,wX (by omega)]
theorem FI {g:Gr} :jU g []=g.es:=by
 unfold jU
 simp only [List.length_nil,List.range_zero,List.map_nil,List.append_nil,List.not_mem_nil,if_false]
 refine List.ext_getElem? fun j=> ?_
 by_cases hj:j<g.es.length
 ·rw [List.getElem?_map,List.getElem?_range hj,Option.map_some,List.getElem?_eq_getElem hj]
  simp only [tl,hd,List.getD_eq_getElem?_getD,List.getElem?_eq_getElem hj,Option.getD_some]
 ·rw [List.getElem?_eq_none (by simpa using hj),List.getElem?_eq_none (by omega)]
section
variable {g:Gr} {p:Pl} {bs:List Int} (h:aN g p) (hb:zW g bs)
include h hb
theorem Kj:(e8 g bs bs.length p.ord).Nodup∧∀u,u∈e8 g bs bs.length p.ord↔0≤u∧u<g.n+bs.length:=by
 have hm:=ag h.1
 have hn:=aA hm
 have bN:=b8 h.2.1
 have hr:∀u∈p.ord,0≤u∧u<g.n:=fun u hu=>by
  have:=h.2.1.2.1.mem_iff.1 hu
  simp only [dW,List.mem_map,List.mem_range] at this
  obtain ⟨k,hk,e⟩:=this
  have e:(k:Int)=u:=e
  omega
 have hown:∀v,(pO g bs bs.length v).Nodup:=fun v=>by
  unfold pO
  refine List.Pairwise.map _ (fun a b hab=> ?_) ((List.nodup_range).filter _)
  intro e;apply hab;omega
 constructor
 ·unfold e8
  rw [List.Nodup,List.pairwise_flatMap]
  refine ⟨fun v hv=>List.nodup_cons.2 ⟨fun hh=> ?_,hown v⟩, ?_⟩
  ·obtain ⟨j,_,_,e⟩:=iw.1 hh
   have:=(hr v hv).2
   omega
  ·refine List.Pairwise.imp_of_mem (fun {a b} ha hb' hne=> ?_) bN
   intro u hu u' tj UQ
   subst UQ
   rcases List.mem_cons.1 hu with rfl|hu
   ·rcases List.mem_cons.1 tj with rfl|tj
    ·exact hne rfl
    ·obtain ⟨j,_,_,e⟩:=iw.1 tj
     have:=(hr u ha).2
     omega
   ·obtain ⟨j,_,j2,e⟩:=iw.1 hu
    rcases List.mem_cons.1 tj with rfl|tj
    ·have:=(hr u hb').2
     omega
    ·obtain ⟨l,_,l2,e'⟩:=iw.1 tj
     obtain rfl:j=l:=by omega
     exact hne (j2.symm.trans l2)
 ·intro u
  rw [BM]
  constructor
  ·rintro ⟨v,hv,rfl|hu⟩
   ·have:=hr u hv;omega
   ·obtain ⟨j,j1,_,e⟩:=iw.1 hu
    omega
  ·rintro ⟨h0,h1⟩
   by_cases hlt:u<g.n
   ·obtain ⟨l,hl,e⟩:=cz h.2.1 h0 hlt
    exact ⟨u,by rw [← e,aq,List.getD_eq_getElem?_getD,List.getElem?_eq_getElem (by rw [aM h.2.1];exact hl)];exact List.getElem_mem _, .inl rfl⟩
   ·have hk:(u - g.n).toNat<bs.length:=by omega
    have xm:=hb.oM _ (aQ (d:=0) hk)
    have ht:=bg hm (i:=(bs.getD (u - g.n).toNat 0).toNat) (by omega)
    obtain ⟨l,hl,e⟩:=cz h.2.1 ht.1 ht.2
    refine ⟨dQ g (bs.getD (u - g.n).toNat 0), ?_, .inr (iw.2 ⟨(u - g.n).toNat,hk,rfl,by omega⟩)⟩
    show tl g (bs.getD (u - g.n).toNat 0).toNat∈p.ord
    rw [← e,aq,List.getD_eq_getElem?_getD,List.getElem?_eq_getElem (by rw [aM h.2.1];exact hl)];exact List.getElem_mem _
theorem DY:Iy g p bs (zY g p bs):=by
 have hm:=ag h.1
 have hn:=aA hm
 have bZ:=h.2.1.1
 have bN:=b8 h.2.1
 obtain ⟨n1,n2⟩:=Kj h hb
 refine ⟨?_,fun x hx=> ?_,fun k hk=> ?_, ?_, ?_⟩
 ·show (p.outs++jV g bs.length).length=_
  rw [List.length_append,bZ,jV,List.length_map,List.length_range];omega
 ·show (p.outs++jV g bs.length).getD x []=_
  rw [List.getD_eq_getElem?_getD,List.getElem?_append_left (by omega), ← List.getD_eq_getElem?_getD]
 ·show (p.outs++jV g bs.length).getD (g.n.toNat+k) []=_
  rw [List.getD_eq_getElem?_getD,List.getElem?_append_right (by omega),bZ,Nat.add_sub_cancel_left,jV,List.getElem?_map,List.getElem?_range hk];rfl
 ·refine (List.perm_ext_iff_of_nodup n1 ?_).2 fun u=> ?_
  ·unfold dW
   exact List.Pairwise.map _ (fun a b hab=>by intro e;apply hab;exact Int.ofNat.inj e) List.nodup_range
  ·show u∈e8 g bs bs.length p.ord↔_
   rw [n2]
   simp only [dW,List.mem_map,List.mem_range]
   constructor
   ·rintro ⟨h0,h1⟩;exact ⟨u.toNat,by omega,by show ((u.toNat:Nat):Int)=u;omega⟩
   ·rintro ⟨k,hk,e⟩
    have e:(k:Int)=u:=e
    omega
 ·have hr:∀u∈p.ord,u<g.n:=fun u hu=>by
   have:=h.2.1.2.1.mem_iff.1 hu
   simp only [dW,List.mem_map,List.mem_range] at this
   obtain ⟨k,hk,e⟩:=this
   have e:(k:Int)=u:=e
   omega
  have e9:∀v∈p.ord,∀u∈v::pO g bs bs.length v,tc g bs u=v:=fun v hv u hu=>by
   rcases List.mem_cons.1 hu with rfl|hu
   ·exact if_pos (hr u hv)
   ·obtain ⟨j,j1,j2,rfl⟩:=iw.1 hu
    unfold tc
    rw [if_neg (by omega),show (g.n+(j:Int) - g.n).toNat=j by omega]
    exact j2
  show (e8 g bs bs.length p.ord).Pairwise _
  unfold e8
  rw [List.pairwise_flatMap]
  refine ⟨fun v hv=> ?_, ?_⟩
  ·refine List.Pairwise.imp_of_mem (R:=fun a b=>a<b) (fun {a b} ha hb' hab=> .inr ⟨(e9 v hv a ha).trans (e9 v hv b hb').symm,hab⟩) (List.pairwise_cons.2 ⟨fun u hu=> ?_, ?_⟩)
   ·obtain ⟨j,_,_,rfl⟩:=iw.1 hu
    have:=hr v hv
    omega
   ·unfold pO
    refine List.Pairwise.map _ (fun a b hab=> ?_) (List.pairwise_lt_range.filter _)
    omega
  ·refine List.Pairwise.imp_of_mem (R:=fun a b=>p.ord.idxOf a<p.ord.idxOf b) (fun {a b} ha hb' hab=> ?_) ?_
   ·intro u hu v hv
    rw [e9 a ha u hu,e9 b hb' v hv]
    exact .inl hab
   ·rw [List.pairwise_iff_getElem]
    intro i j hi hj hij
    have e1:=gy bN hi
    have e2:=gy bN hj
    rw [List.getD_eq_getElem?_getD,List.getElem?_eq_getElem hi,Option.getD_some] at e1
    rw [List.getD_eq_getElem?_getD,List.getElem?_eq_getElem hj,Option.getD_some] at e2
    omega
end
end Go.Ab
end
section
namespace Go.Ab
open Go.Proofs Go.RowKit
attribute [local congr] ACall.congr gd.congr Nx.congr
set_option maxRecDepth 10000
theorem Spec.of_same {P:Program} {f:Nat} {A:Env→World→List Value→Prop} {m:List (Nat × AObj)} {res:AV} (hc:y6 P f)
 (h:∀E w vals,Good m E w→A E w vals→Calls P f vals.toArray w fun e w'=>∃v,e= .returned v∧w'.os=w.os∧w'.tape=w.tape∧w'.output=w.output∧w.heap.size≤w'.heap.size∧(∀b,b<w.heap.size→w'.heap[b]? =w.heap[b]?)∧ck w' E res v):Spec P f A m res m:=by
 refine ⟨hc,fun E w vals hg hA=>(h E w vals hg hA).mono ?_⟩
 rintro e w' ⟨v,rfl,h1,h2,h3,h4,h5,h6⟩
 have hst:aO w E.z w' E.z:=fun b=>⟨Nat.le_refl _,fun o ho=>by
  by_cases hb:b<w.heap.size
  ·simp only [World.cell?,h5 b hb]
  ·have:=hg.fresh b (by omega);omega⟩
 refine ⟨v,E,rfl,⟨h1,h2,h3,h4,hst,fun b hb _=>⟨h5 b hb,rfl⟩,fun _ _=>⟨rfl,rfl⟩⟩,⟨hg.low,hg.inj,fun l o hl=> ?_,fun b hb=>hg.fresh b (by omega)⟩,fun l o b hl hro hb=> .inr ⟨l,o,hl,hro,hb⟩,h6⟩
 have h0:=hg.iz l o hl
 have:=bA.keep (k:= []) (E':=E) hst (fun _ _=>⟨rfl,rfl⟩) (fun l x hx=>by cases hx) rfl (fun _ _=>rfl) (fun b hb=>⟨h5 b (h0.lt hb),rfl⟩) h0
 rwa [AObj.lH] at this
theorem zZ {an:List (List Int × Int)} {es:Array MapEntry} (h:ju 0 an es) {y:MapEntry} :y∈es.toList↔∃i p,an[i]? =some p∧y=⟨kV 0 p.1, .int .i64 p.2,i⟩:=by
 constructor
 ·intro hy
  obtain ⟨i,hi,e⟩:=List.mem_iff_getElem.1 hy
  have hi':i<es.size:=by simpa using hi
  have hp:=List.getElem?_eq_getElem (l:=an) (i:=i) (by rw [← h.size];exact hi')
  refine ⟨i,_,hp, ?_⟩
  have:=h.Gd i _ hp
  rw [Array.getElem?_eq_getElem hi'] at this
  rw [← e]
  simpa using Option.some.inj this
 ·rintro ⟨i,p,hp,rfl⟩
  have:=h.Gd i p hp
  obtain ⟨hi,e⟩:=Array.getElem?_eq_some_iff.1 this
  rw [← e]
  simp
theorem IE {an:List (List Int × Int)} {es:Array MapEntry} (h:ju 0 an es):es.toList.map (·.born)=List.range es.size:=by
 refine List.ext_getElem? fun i=> ?_
 rw [List.getElem?_map,Array.getElem?_toList]
 by_cases hi:i<es.size
 ·have hp:=List.getElem?_eq_getElem (l:=an) (i:=i) (by rw [← h.size];exact hi)
  rw [h.Gd i _ hp,List.getElem?_range hi]
  rfl
 ·rw [Array.getElem?_eq_none (by omega),List.getElem?_eq_none (by simpa using hi)]
  rfl
def jW (n:Int) (es:List Edge) (ord:List Int) (outs:List (List Int)) (an:List (List Int × Int)):List (Nat × AObj):=
 [(10000, .box [eN n, .ref 10001, .ref 10002, .ref 10003, .mref 10004]),(10001, .own 73 2 (es.map rE)),(10002, .own 3 1 (ord.map rI)),(10003, .own 31 1 (vI outs)),(10004, .mp 0 an)]
def wY (es:List Edge) (an:List (List Int × Int)) (x:Int) (e:Nat):Bool:=an.any fun p=>fh (fun i=>(es.getD i (0,0)).1) x e (p.1.getD 0 0).toNat p.2
theorem FJ (n:Int) (es:List Edge) (ord:List Int) (outs:List (List Int)) (an:List (List Int × Int)) (x:Int) (e:Nat) (he:e<es.length) (hne:es.length≤1000) (hE:∀p∈an,0≤p.1.getD 0 0∧p.1.getD 0 0<es.length):
 Spec Tryz.prog 167 (Args [.ptr 10000 0,eN x,eN e]) (jW n es ord outs an) (eB (wY es an x e)) (jW n es ord outs an):=by
 refine Spec.of_same ⟨Tryz.f167,_,Tryz.func167,by kernel_rfl,rfl⟩ fun E w vals hg hA=> ?_
 obtain ⟨v,vs,rfl,h0,h3⟩:=hA
 obtain ⟨v2,T1,rfl,h1,h4⟩:=h3
 obtain ⟨v3,T6,rfl,h2,h5⟩:=h4
 simp only [AVrs] at h5
 subst h5
 have h1:=o5 h1
 have h2:=o5 h2
 subst h1 h2
 obtain ⟨B,hB,rfl⟩:=h0
 obtain ⟨B',cs,ty,g1,g2,g3,g4,g5⟩:=hg.iz 10000 (.box [eN n, .ref 10001, .ref 10002, .ref 10003, .mref 10004]) rfl
 obtain rfl:B'=B:=by rw [g1] at hB;exact Option.some.inj hB
 obtain ⟨_,_,o1⟩:=hg.iz 10001 (.own 73 2 (es.map rE)) rfl
 obtain ⟨bm,me,m1,m2,m3,m4⟩:=hg.iz 10004 (.mp 0 an) rfl
 obtain ⟨u0,r0,rfl,_,g4⟩:=g4
 obtain ⟨u1,r1,rfl,c1,g4⟩:=g4
 obtain ⟨u2,r2,rfl,_,g4⟩:=g4
 obtain ⟨u3,r3,rfl,_,g4⟩:=g4
 obtain ⟨u4,r4,rfl,c4,g4⟩:=g4
 obtain ⟨rfl,_⟩:=c1
 obtain ⟨R3,c5,rfl⟩:=c4
 obtain rfl:R3=bm:=by rw [m1] at c5;exact (Option.some.inj c5).symm
 obtain ⟨be,cur,ce,p1,p2,p3,p4,p5,p6,p7,p8⟩:∃b cur cap,E.ρ 10001=some b∧w.heap[b]? =some (.cells cur 73 (0,0))∧E.σ 10001= .slice (some ⟨b,0,none⟩) (es.map rE).length cap∧(es.map rE).length≤cap∧cap*2=cur.size∧cap≤maxLen∧
  E.z b=0∧∀(i j:Nat) (r:List D) (y:D),(es.map rE)[i]? =some r→r[j]? =some y→∃v,cur[i*2+j]? =some v∧Rd w E.z v y:=by
  rcases o1 with ⟨_,h,_⟩|h
  ·rw [List.map_eq_nil_iff] at h
   subst h
   simp at he
  ·exact h
 rw [List.length_map] at p3 p4
 have UR:B'<w.heap.size:=(Array.getElem?_eq_some_iff.1 g2).1
 have tO:be<w.heap.size:=(Array.getElem?_eq_some_iff.1 p2).1
 have key:=Cx B' R3 be es.length ce me (fun i=>(es.getD i (0,0)).1) x e w UR tO ?_ ?_ m2 (fun i hi=> ?_) he hne ⟨fun y hy=> ?_, ?_⟩ (fun y hy=> ?_)
 ·refine key.mono ?_
  rintro en w' ⟨rfl,w1,seen,⟨xQ,PE⟩,rfl⟩
  refine ⟨_,rfl,xQ.2.1,PE,xQ.2.2, ?_,fun b hb=> ?_, ?_⟩
  ·have:=o7 w1 (.mapIter (some R3) me.size seen me.size)
   rw [xQ.1] at this
   exact this
  ·rw [nV _ _ (by rw [xQ.1];exact hb),xQ.1]
  ·have:(me.toList.any fun y=>fh (fun i=>(es.getD i (0,0)).1) x e (KU y.key) (KW y.val))=wY es an x e:=by
    rw [Bool.eq_iff_iff,wY,List.any_eq_true,List.any_eq_true]
    constructor
    ·rintro ⟨y,hy,hm⟩
     obtain ⟨i,p,hp,rfl⟩:=(zZ m4).1 hy
     exact ⟨p,List.mem_of_getElem? hp,hm⟩
    ·rintro ⟨p,hp,hm⟩
     obtain ⟨i,hi⟩:=List.mem_iff_getElem?.1 hp
     exact ⟨_,(zZ m4).2 ⟨i,p,hi,rfl⟩,hm⟩
   rw [this]
   exact .sc _ rfl
 ·simp [World.cell?,g2,p3]
 ·simp [World.cell?,g2]
 ·obtain ⟨v,q1,q2⟩:=p8 i 0 (rE es[i]) (.sc (.int .i64 es[i].1)) (by simp [List.getElem?_eq_getElem hi]) rfl
  rw [o5 q2] at q1
  simp only [World.cell?,p2,Option.isSome_none,Bool.false_eq_true,if_false]
  rw [List.getD_eq_getElem?_getD,List.getElem?_eq_getElem hi]
  exact q1
 ·obtain ⟨i,p,hp,rfl⟩:=(zZ m4).1 hy
  have:=(List.getElem?_eq_some_iff.1 hp).1
  have:=m4.size
  show i<me.size
  omega
 ·rw [IE m4];exact List.nodup_range
 ·obtain ⟨i,p,hp,rfl⟩:=(zZ m4).1 hy
  obtain ⟨h1,h2⟩:=hE p (List.mem_of_getElem? hp)
  refine ⟨(p.1.getD 0 0).toNat,p.2, ?_,rfl,by omega⟩
  show Value.int .i64 (p.1.getD 0 0)=_
  rw [Int.toNat_of_nonneg h1]
end Go.Ab
end
section
namespace Go.Ab
open Go.Proofs
attribute [local congr] ACall.congr gd.congr Nx.congr
set_option maxRecDepth 20000
set_option maxHeartbeats 8000000
def IF (n:Int) (es:List Edge) (ord:List Int) (outs:List (List Int)) (an:List (List Int × Int)):List (Nat × AObj):=
 [(10000, .box [eN n, .ref 10011, .ref 10012, .ref 10013, .mref 10004]),(10011, .own 73 2 (es.map rE)),(10012, .own 3 1 (ord.map rI)),(10013, .own 31 1 (vI outs)),(10004, .mp 0 an)]
theorem IG {an:List (List Int × Int)} {k:List Int} {v:Int} (h:∀p∈an,k≠p.1):yN an k v=an++ [(k,v)]:=by
 have hf:cr an k=none:=by
  rw [cr,List.findIdx?_eq_none_iff]
  intro p hp
  exact decide_eq_false (h p hp)
 unfold yN fA ki
 rw [hf]
 simp only [th]
 refine List.ext_getElem? fun i=> ?_
 rw [List.getElem?_modify]
 rcases Nat.lt_trichotomy i an.length with h1|h1|h1
 ·rw [List.getElem?_append_left h1,List.getElem?_append_left h1]
  simp [show ¬an.length=i by omega]
 ·subst h1;simp
 ·rw [List.getElem?_eq_none (by simp;omega),List.getElem?_eq_none (by simp;omega)];rfl
theorem Ms {a b:List (List Int)} :vI (a++b)=vI a++vI b:=by simp [vI]
theorem Kk {A B:List Int} {t:Int} (h:t∉A):fY (A++t::B) t=A.length:=by
 refine c8 (d:=0) (by simp) (fun j hj=>decide_eq_false fun e=>h ?_) (decide_eq_true ?_)
 ·rw [e,List.getD_eq_getElem?_getD,List.getElem?_append_left hj,List.getElem?_eq_getElem hj];exact List.getElem_mem _
 ·rw [List.getD_eq_getElem?_getD,List.getElem?_append_right (by omega)];simp
theorem Mt {A O B:List Int} {t:Int} {j:Nat} (hj:j<O.length):(A++t::(O++B)).getD (A.length+1+j) 0=O.getD j 0:=by
 rw [List.getD_eq_getElem?_getD,List.getElem?_append_right (by omega),show A.length+1+j - A.length=j+1 by omega,List.getElem?_cons_succ,List.getElem?_append_left hj, ← List.getD_eq_getElem?_getD]
theorem Kl {A O B:List Int} {t u:Int} :(A++t::(O++u::B)).getD (A.length+1+O.length) 0=u:=by
 rw [List.getD_eq_getElem?_getD,List.getElem?_append_right (by omega),show A.length+1+O.length - A.length=O.length+1 by omega,List.getElem?_cons_succ,List.getElem?_append_right (by omega)]
 simp
theorem Km {A O B:List Int} {t x:Int} :tC (A++t::(O++B)) (A.length+1+O.length) x=A++t::(O++x::B):=by
 unfold tC
 rw [show A++t::(O++B)=(A++t::O)++B by simp,List.take_left' (by simp;omega),List.drop_left' (by simp;omega)]
 simp
theorem oh {es:List Edge} {a b:Int} :List.map rE es++ [[D.sc (.int .i64 a),D.sc (.int .i64 b)]]=List.map rE (es++ [(a,b)]):=by simp [rE]
theorem z1 {es:List Edge} {e:Nat} {a b:Int} (h:es.getD e (0,0)=(a,b)):(List.map rE es).getD e [D.sc (.int .i64 0),D.sc (.int .i64 0)]= [D.sc (.int .i64 a),D.sc (.int .i64 b)]:=by
 rw [show [D.sc (.int .i64 0),D.sc (.int .i64 0)]=rE (0,0) from rfl,List.getD_eq_getElem?_getD,List.getElem?_map]
 rw [List.getD_eq_getElem?_getD] at h
 cases hq:es[e]? with
 |none=>rw [hq] at h;cases h;rfl
 |some q=>rw [hq] at h;cases h;rfl
theorem sD {es:List Edge} {e:Nat} {a b:Int} :(List.map rE es).set e [D.sc (.int .i64 a),D.sc (.int .i64 b)]=List.map rE (es.set e (a,b)):=by
 rw [List.map_set];rfl
theorem FK (n:Int) (es:List Edge) (outs:List (List Int)) (an:List (List Int × Int)) (e:Nat) (A O B:List Int) (t:Int) (hn:0≤n∧n<1000) (he:e<es.length) (hne:es.length<1000) (tQ:outs.length<1000) (Wb:(A++t::(O++B)).length<1000)
 (hE:∀p∈an,0≤p.1.getD 0 0∧p.1.getD 0 0<es.length) (hnew:∀p∈an, [(e:Int)]≠p.1) (ht:(es.getD e (0,0)).1=t) (MY:t∉A)
 (hO:∀u∈O,wY ((es++ [(n,(es.getD e (0,0)).2)]).set e (t,n)) (an++ [([(e:Int)],n)]) u e=true) (hB:∀u r,B=u::r→wY ((es++ [(n,(es.getD e (0,0)).2)]).set e (t,n)) (an++ [([(e:Int)],n)]) u e=false):
 Spec Tryz.prog 118 (Args [.ptr 10000 0,eN e]) (jW n es (A++t::(O++B)) outs an) (.tup []) (IF (n+1) ((es++ [(n,(es.getD e (0,0)).2)]).set e (t,n)) (A++t::(O++n::B)) (outs++ [[(es.length:Int)]]) (an++ [([(e:Int)],n)])):=by
 have hi:=aW (A++t::(O++B)) t (by omega)
 rw [Kk MY] at hi
 have M9:=IG (v:=n) hnew
 obtain ⟨hd,J9⟩:∃hd,(es.getD e (0,0)).2=hd:=⟨_,rfl⟩
 rw [J9] at hO hB ⊢
 have KJ:(List.map rE es).getD e [D.sc (.int .i64 0),D.sc (.int .i64 0)]= [D.sc (.int .i64 t),D.sc (.int .i64 hd)]:=z1 (Prod.ext ht J9)
 have pV:(List.map rE (es++ [(n,hd)])).getD e [D.sc (.int .i64 0),D.sc (.int .i64 0)]= [D.sc (.int .i64 t),D.sc (.int .i64 hd)]:=z1 (by
  rw [List.getD_eq_getElem?_getD,List.getElem?_append_left he, ← List.getD_eq_getElem?_getD];exact Prod.ext ht J9)
 have sS:(List.map rE ((es++ [(n,hd)]).set e (t,n))).getD e [D.sc (.int .i64 0),D.sc (.int .i64 0)]= [D.sc (.int .i64 t),D.sc (.int .i64 n)]:=z1 (by
  rw [List.getD_eq_getElem?_getD,List.getElem?_set_self (by simp;omega)];rfl)
 have Cd:((es++ [(n,hd)]).set e (t,n)).length=es.length+1:=by simp
 have SY:∀p∈an++ [([(e:Int)],n)],0≤p.1.getD 0 0∧p.1.getD 0 0<((es++ [(n,hd)]).set e (t,n)).length:=fun p hp=>by
  rw [Cd]
  rcases List.mem_append.1 hp with h|h
  ·have:=hE p h;omega
  ·rw [List.mem_singleton] at h
   subst h
   simp only [List.getD_cons_zero]
   omega
 have mU:=fun (outs:List (List Int)) (u:Int)=>FJ (n+1) ((es++ [(n,hd)]).set e (t,n)) (A++t::(O++B)) outs (an++ [([(e:Int)],n)]) u e (by rw [Cd];omega) (by rw [Cd];omega) SY
 have hins:=A6 (A++t::(O++B)) (A.length+1+O.length) n (by simp;omega) (by omega)
 rw [Km] at hins
 have hlen:(A++t::(O++B)).length=A.length+1+O.length+B.length:=by simp;omega
 generalize Na:(es++ [(n,hd)]).set e (t,n)=E2 at hO hB sS Cd SY mU ⊢
 have hv:vI outs++ [[D.sl 1 [[D.sc (.int .i64 (es.length:Int))]]]]=vI (outs++ [[(es.length:Int)]]):=by simp [vI,sI,rI]
 generalize J7:A++t::(O++n::B)=US at hins ⊢
 unfold jW IF
 (refine Spec.vf (C:=T.cfg [51,73,125,126,72] []) (rs:= []) [(10011,51),(10013,73),(10012,126)] (T.aj _ _) Tryz.func118 rfl rfl Tryz.ntmps118 Tryz.results118 (by simp [AObj.isNest]) (by simp [AObj.isNest]) (by first|(simp [look];done)|(simp [asN];done)|(intro l hl;simp only [asN];repeat (rw [if_neg (fun e=>by subst e;simp [look] at hl)]))) (by first|(simp [look];done)|(simp [asN];done)|(intro l hl;simp only [asN];repeat (rw [if_neg (fun e=>by subst e;simp [look] at hl)]))) (by kernel_rfl) T.mixed fun X hX hP hC aP bV=> ?_)
 repeat' (first|refine Rn.p ?_|(with_reducible apply And.intro)|((first|(refine hK _ ?_;clear hK K)|with_reducible intro K hK|refine Rs.p ?_|((with_reducible first|apply oP|apply oQ);exact rfl)|(refine ah hX hC hP (hi) rfl rfl rfl ?_ ?_ ?_ ?_;iterate 3 (focus (simp only [go_sem,simprocAttr,M9,oh,sD,KJ,pV,sS,Na,hv,List.length_append,List.length_cons,List.length_nil];done)))|(refine au hX hC hP [(10000,10000),(10001,51),(10002,10002),(10003,73),(10004,10004)] (mU _ _) rfl rfl rfl ?_ ?_ ?_ ?_ ?_ ?_ ?_ ?_ ?_ ?_ ?_ ?_ ?_ ?_;(focus (simp only [go_sem,simprocAttr,M9,oh,sD,KJ,pV,sS,Na,hv,List.length_append,List.length_cons,List.length_nil];done));(iterate 12 (focus (simp [go_sem,simprocAttr,M9,oh,sD,KJ,pV,sS,Na,hv,List.length_append,List.length_cons,List.length_nil];done)));try simp only [List.map_cons,List.map_nil]));try simp only [go_sem,simprocAttr,M9,oh,sD,KJ,pV,sS,Na,hv,List.length_append,List.length_cons,List.length_nil])|((with_reducible refine oD ?_ ?_);kernel_rfl)|((with_reducible intro h);try simp only [go_sem,simprocAttr,M9,oh,sD,KJ,pV,sS,Na,hv,List.length_append,List.length_cons,List.length_nil] at h)|omega|intro h)
 refine ai (fun j:Nat=>j≤O.length) (fun j=>⟨[(0, .ptr 10000 0),(1,eN e),(4,eN n),(6,eN ((A.length+1+j:Nat):Int))], [(10000, .box [eN (n+1), .ref 51, .ref 10002, .ref 73, .mref 10004]),(51, .own 73 2 (E2.map rE)),(10002, .own 3 1 ((A++t::(O++B)).map rI)),(73, .own 31 1 (vI (outs++ [[(es.length:Int)]]))),(10004, .mp 0 (an++ [([(e:Int)],n)]))]⟩) (fun j=>O.length - j) 0 (by omega) ?_ ?_
 ·refine Le.of ?_ ?_<;>simp [go_sem,simprocAttr,M9,oh,sD,KJ,pV,sS,Na,hv,List.length_append,List.length_cons,List.length_nil]
 rintro j hj
 obtain ⟨L,hL⟩:∃L,L=A++t::(O++B):=⟨_,rfl⟩
 rcases Nat.lt_or_ge j O.length with hlt|hge
 ·have hb:decide (((A.length+1+j:Nat):Int)<(L.length:Int))=true:=decide_eq_true (by rw [hL];omega)
  have lZ:L.getD (A.length+1+j) 0=O.getD j 0:=by rw [hL];exact Mt hlt
  have hm:=hO _ (aQ (d:=0) hlt)
  have hm2:=mU (outs++ [[(es.length:Int)]]) (O.getD j 0)
  rw [hm] at hm2
  rw [← hL] at hm2 ⊢
  have hjl:A.length+1+j<L.length:=by rw [hL];omega
  repeat' (first|refine Rn.p ?_|(with_reducible apply And.intro)|((first|(refine hK _ ?_;clear hK K)|with_reducible intro K hK|refine Rs.p ?_|((with_reducible first|apply oP|apply oQ);exact rfl)|(refine au hX hC hP [(10000,10000),(10001,51),(10002,10002),(10003,73),(10004,10004)] (hm2) rfl rfl rfl ?_ ?_ ?_ ?_ ?_ ?_ ?_ ?_ ?_ ?_ ?_ ?_ ?_ ?_;(focus (simp only [go_sem,simprocAttr,jW,hb,lZ];done));(iterate 12 (focus (simp [go_sem,simprocAttr,jW,hb,lZ];done)));try simp only [List.map_cons,List.map_nil]));try simp only [go_sem,simprocAttr,jW,hb,lZ])|((with_reducible refine oD ?_ ?_);kernel_rfl)|((with_reducible intro h);try simp only [go_sem,simprocAttr,jW,hb,lZ] at h)|omega|intro h)
  refine ⟨j+1,by omega, ?_,by omega⟩
  refine Le.of ?_ ?_<;>simp [go_sem,simprocAttr,jW,hb,lZ]
  omega
 ·obtain rfl:j=O.length:=by omega
  have hm2:=mU (outs++ [[(es.length:Int)]])
  rw [← hL] at hm2 hins ⊢
  cases OY:B with
  |nil=>
   have hb:decide (((A.length+1+O.length:Nat):Int)<(L.length:Int))=false:=decide_eq_false (by rw [hL,hlen,OY];simp)
   repeat' (first|refine Rn.p ?_|(with_reducible apply And.intro)|((first|(refine hK _ ?_;clear hK K)|with_reducible intro K hK|refine Rs.p ?_|((with_reducible first|apply oP|apply oQ);exact rfl)|(refine au hX hC hP [(10000,10002),(10002,125),(10001,126)] (hins) rfl rfl rfl ?_ ?_ ?_ ?_ ?_ ?_ ?_ ?_ ?_ ?_ ?_ ?_ ?_ ?_;(focus (simp only [go_sem,simprocAttr,jW,rI,hb];done));(iterate 12 (focus (simp [go_sem,simprocAttr,jW,rI,hb];done)));try simp only [List.map_cons,List.map_nil]));try simp only [go_sem,simprocAttr,jW,rI,hb])|((with_reducible refine oD ?_ ?_);kernel_rfl)|((with_reducible intro h);try simp only [go_sem,simprocAttr,jW,rI,hb] at h)|omega|intro h)
   all_goals rfl
  |cons u r=>
   have hb:decide (((A.length+1+O.length:Nat):Int)<(L.length:Int))=true:=decide_eq_true (by rw [hL,hlen,OY];simp;omega)
   have lZ:L.getD (A.length+1+O.length) 0=u:=by rw [hL,OY];exact Kl
   have MZ:=hm2 u
   rw [hB u r OY] at MZ
   have hjl:A.length+1+O.length<L.length:=by rw [hL,hlen,OY];simp
   repeat' (first|refine Rn.p ?_|(with_reducible apply And.intro)|((first|(refine hK _ ?_;clear hK K)|with_reducible intro K hK|refine Rs.p ?_|((with_reducible first|apply oP|apply oQ);exact rfl)|(refine au hX hC hP [(10000,10002),(10002,125),(10001,126)] (hins) rfl rfl rfl ?_ ?_ ?_ ?_ ?_ ?_ ?_ ?_ ?_ ?_ ?_ ?_ ?_ ?_;(focus (simp only [go_sem,simprocAttr,jW,rI,hb,lZ];done));(iterate 12 (focus (simp [go_sem,simprocAttr,jW,rI,hb,lZ];done)));try simp only [List.map_cons,List.map_nil])|(refine au hX hC hP [(10000,10000),(10001,51),(10002,10002),(10003,73),(10004,10004)] (MZ) rfl rfl rfl ?_ ?_ ?_ ?_ ?_ ?_ ?_ ?_ ?_ ?_ ?_ ?_ ?_ ?_;(focus (simp only [go_sem,simprocAttr,jW,rI,hb,lZ];done));(iterate 12 (focus (simp [go_sem,simprocAttr,jW,rI,hb,lZ];done)));try simp only [List.map_cons,List.map_nil]));try simp only [go_sem,simprocAttr,jW,rI,hb,lZ])|((with_reducible refine oD ?_ ?_);kernel_rfl)|((with_reducible intro h);try simp only [go_sem,simprocAttr,jW,rI,hb,lZ] at h)|omega|intro h)
   all_goals rfl
end Go.Ab
end
section
namespace Go.Ab
open Go.Proofs
set_option maxRecDepth 10000
def FL (q:Nat→Bool):Nat→Nat
 |0=>0
 |n+1=>FL q n ||| (if q n then 2 ^ n else 0)
theorem mw {q:Nat→Bool} {y:Nat} :∀ {n:Nat},(FL q n).testBit y=(decide (y<n)&&q y)
 |0=>by simp [FL]
 |n+1=>by
  rw [FL,Nat.testBit_or,mw]
  by_cases h:y=n
  ·subst h
   cases hq:q y<;>simp [Nat.testBit_two_pow_self]
  ·have h2:(if q n then 2 ^ n else 0).testBit y=false:=by
    split
    ·rw [Nat.testBit_two_pow];exact decide_eq_false fun e=>h e.symm
    ·simp
   rw [h2,Bool.or_false]
   congr 1
   rw [decide_eq_decide];omega
theorem DZ {q:Nat→Bool} {n:Nat} :FL q n<2 ^ n:=by
 refine Nat.lt_pow_two_of_testBit _ fun i hi=> ?_
 rw [mw,decide_eq_false (by omega)];rfl
inductive lB (g:Gr) (both:Bool) (c:Nat→Bool) (x:Nat):Nat→Prop
 |refl:lB g both c x x
 |fwd {i:Nat} :i<g.es.length→c i=true→lB g both c x (tl g i).toNat→lB g both c x (hd g i).toNat
 |F9 {i:Nat} :i<g.es.length→c i=true→both=true→lB g both c x (hd g i).toNat→lB g both c x (tl g i).toNat
theorem lB.trans {g:Gr} {both:Bool} {c:Nat→Bool} {x y z:Nat} (h1:lB g both c x y) (h2:lB g both c y z):lB g both c x z:=by
 induction h2 with
 |refl=>exact h1
 |fwd a b _ ih=>exact .fwd a b ih
 |F9 a b d _ ih=>exact .F9 a b d ih
open Classical in
noncomputable def OZ (g:Gr) (both:Bool) (c:Nat→Bool) (x:Nat):Nat:=FL (fun y=>decide (lB g both c x y)) g.n.toNat
noncomputable def Aj (g:Gr) (both:Bool) (c:Nat→Bool):List Nat:=(List.range g.n.toNat).map (OZ g both c)
theorem qS {g:Gr} {both:Bool} {c:Nat→Bool} :(Aj g both c).length=g.n.toNat:=by simp [Aj]
theorem sF {g:Gr} {both:Bool} {c:Nat→Bool} {x:Nat} (h:x<g.n.toNat):(Aj g both c).getD x 0=OZ g both c x:=by
 simp [Aj,List.getD_eq_getElem?_getD,List.getElem?_range h]
open Classical in
theorem uu {g:Gr} {both:Bool} {c:Nat→Bool} {x y:Nat} :(OZ g both c x).testBit y=true↔y<g.n.toNat∧lB g both c x y:=by
 unfold OZ
 rw [mw]
 simp
def aY (g:Gr) (both:Bool) (c:Nat→Bool) (a:List Nat):Nat→List Nat × Bool
 |0=>(a,false)
 |k+1=>
  let s:=aY g both c a k
  if c k=true then
   let t:=s.1.getD (tl g k).toNat 0 ||| s.1.getD (hd g k).toNat 0
   let h:=if both=true then t else s.1.getD (hd g k).toNat 0
   ((s.1.set (tl g k).toNat t).set (hd g k).toNat h,s.2||(decide (t≠s.1.getD (tl g k).toNat 0)||decide (h≠s.1.getD (hd g k).toNat 0)))
  else s
theorem sG {g:Gr} {both:Bool} {c:Nat→Bool} {a:List Nat} :∀ {k:Nat},(aY g both c a k).1.length=a.length
 |0=>rfl
 |k+1=>by
  simp only [aY]
  split
  ·simp [sG]
  ·exact sG
theorem om {l:List Nat} {i j:Nat} {a:Nat} (hi:i<l.length):(l.set i a).getD j 0=if j=i then a else l.getD j 0:=by
 rw [List.getD_eq_getElem?_getD,List.getElem?_set]
 by_cases h:i=j
 ·subst h;rw [if_pos rfl,if_pos hi,if_pos rfl];rfl
 ·rw [if_neg h,if_neg (Ne.symm h), ← List.getD_eq_getElem?_getD]
structure D2 (g:Gr) (both:Bool) (c:Nat→Bool) (a:List Nat):Prop where
 len:a.length=g.n.toNat
 own:∀x,x<g.n.toNat→(a.getD x 0).testBit x=true
 snd:∀x y,x<g.n.toNat→(a.getD x 0).testBit y=true→y<g.n.toNat∧lB g both c x y
theorem D2.lt {g:Gr} {both:Bool} {c:Nat→Bool} {a:List Nat} (h:D2 g both c a) (hn:g.n.toNat≤64) (x:Nat):a.getD x 0<18446744073709551616:=by
 by_cases hx:x<g.n.toNat
 ·have:a.getD x 0<2 ^ 64:=Nat.lt_pow_two_of_testBit _ fun i hi=>by
   cases hb:(a.getD x 0).testBit i with
   |false=>rfl
   |true=>have:=(h.snd x i hx hb).1;omega
  simpa using this
 ·rw [List.getD_eq_getElem?_getD,List.getElem?_eq_none (by rw [h.len];omega)];simp
theorem grow_step {g:Gr} (hm:aG g=true) {both:Bool} {c:Nat→Bool} {a:List Nat} (h:D2 g both c a) {i:Nat} (hi:i<g.es.length) (hc:c i=true):
 D2 g both c ((a.set (tl g i).toNat (a.getD (tl g i).toNat 0 ||| a.getD (hd g i).toNat 0)).set (hd g i).toNat (if both=true then a.getD (tl g i).toNat 0 ||| a.getD (hd g i).toNat 0 else a.getD (hd g i).toNat 0))∧
 ∀x y,(a.getD x 0).testBit y=true→(((a.set (tl g i).toNat (a.getD (tl g i).toNat 0 ||| a.getD (hd g i).toNat 0)).set (hd g i).toNat (if both=true then a.getD (tl g i).toNat 0 ||| a.getD (hd g i).toNat 0 else a.getD (hd g i).toNat 0)).getD x 0).testBit y=true:=by
 obtain ⟨ht,hh⟩:=cM hm hi
 have ht:0≤tl g i∧tl g i<g.n:=ht
 have hh:0≤hd g i∧hd g i<g.n:=hh
 have hl:=h.len
 have uG:∀x,((a.set (tl g i).toNat (a.getD (tl g i).toNat 0 ||| a.getD (hd g i).toNat 0)).set (hd g i).toNat (if both=true then a.getD (tl g i).toNat 0 ||| a.getD (hd g i).toNat 0 else a.getD (hd g i).toNat 0)).getD x 0=
  if x=(hd g i).toNat then (if both=true then a.getD (tl g i).toNat 0 ||| a.getD (hd g i).toNat 0 else a.getD (hd g i).toNat 0) else if x=(tl g i).toNat then a.getD (tl g i).toNat 0 ||| a.getD (hd g i).toNat 0 else a.getD x 0:=fun x=>by
  rw [om (by rw [List.length_set];omega),om (by omega)]
 have mono:∀x y,(a.getD x 0).testBit y=true→(((a.set (tl g i).toNat (a.getD (tl g i).toNat 0 ||| a.getD (hd g i).toNat 0)).set (hd g i).toNat (if both=true then a.getD (tl g i).toNat 0 ||| a.getD (hd g i).toNat 0 else a.getD (hd g i).toNat 0)).getD x 0).testBit y=true:=fun x y hb=>by
  rw [uG]
  split
  ·rename_i e;subst e
   split
   ·rw [Nat.testBit_or,hb,Bool.or_true]
   ·exact hb
  ·split
   ·rename_i e;subst e
    rw [Nat.testBit_or,hb,Bool.true_or]
   ·exact hb
 refine ⟨⟨by simp [hl],fun x hx=>mono x x (h.own x hx),fun x y hx hb=> ?_⟩,mono⟩
 have e1:lB g both c (tl g i).toNat (hd g i).toNat:= .fwd hi hc .refl
 rw [uG] at hb
 split at hb
 ·rename_i e;subst e
  split at hb
  ·rename_i R4
   rw [Nat.testBit_or,Bool.or_eq_true] at hb
   rcases hb with hb|hb
   ·obtain ⟨g1,g2⟩:=h.snd _ _ (by omega) hb
    exact ⟨g1,(lB.F9 hi hc R4 .refl).trans g2⟩
   ·exact h.snd _ _ hx hb
  ·exact h.snd _ _ hx hb
 ·split at hb
  ·rename_i e;subst e
   rw [Nat.testBit_or,Bool.or_eq_true] at hb
   rcases hb with hb|hb
   ·exact h.snd _ _ hx hb
   ·obtain ⟨g1,g2⟩:=h.snd _ _ (by omega) hb
    exact ⟨g1,e1.trans g2⟩
  ·exact h.snd _ _ hx hb
theorem fW {g:Gr} (hm:aG g=true) {both:Bool} {c:Nat→Bool} {a:List Nat} (h:D2 g both c a):∀ {k:Nat},k≤g.es.length→D2 g both c (aY g both c a k).1∧∀x y,(a.getD x 0).testBit y=true→((aY g both c a k).1.getD x 0).testBit y=true
 |0,_=>⟨h,fun x y hb=>hb⟩
 |k+1,hk=>by
  obtain ⟨i1,i2⟩:=fW hm h (k:=k) (by omega)
  simp only [aY]
  by_cases hc:c k=true
  ·rw [if_pos hc]
   obtain ⟨j1,j2⟩:=grow_step hm i1 (i:=k) (by omega) hc
   exact ⟨j1,fun x y hb=>j2 x y (i2 x y hb)⟩
  ·rw [if_neg hc];exact ⟨i1,i2⟩
def tI (a:List Nat):Nat:=a.foldr (· + ·) 0
theorem D3:∀ {a b:List Nat},a.length=b.length→(∀x,a.getD x 0≤b.getD x 0)→a≠b→tI a<tI b
 | [], [],_,_,hne=>absurd rfl hne
 |x::a,y::b,hl,h,hne=>by
  have h0:=h 0
  have hr:∀i,a.getD i 0≤b.getD i 0:=fun i=>by simpa using h (i+1)
  simp only [List.getD_cons_zero] at h0
  show x+tI a<y+tI b
  by_cases hab:a=b
  ·subst hab
   have:x≠y:=fun e=>hne (by rw [e])
   omega
  ·have:=D3 (a:=a) (b:=b) (by simpa using hl) hr hab
   omega
theorem BN {m:Nat} :∀ {a:List Nat},(∀x,a.getD x 0<m)→tI a≤a.length*m
 | [],_=>by simp [tI]
 |x::a,h=>by
  have h0:=h 0
  have:=BN (a:=a) fun i=>by simpa using h (i+1)
  simp only [List.getD_cons_zero] at h0
  show x+tI a≤(a.length+1)*m
  rw [Nat.add_mul];omega
theorem pP {a b:Nat} (h:∀y,a.testBit y=true→b.testBit y=true):a≤b:=by
 have:a ||| b=b:=Nat.eq_of_testBit_eq fun y=>by
  rw [Nat.testBit_or]
  cases ha:a.testBit y with
  |false=>simp
  |true=>rw [h y ha];rfl
 rw [← this];exact Nat.left_le_or
theorem ig {g:Gr} {both:Bool} {c:Nat→Bool} {a:List Nat} :∀ {k:Nat},(aY g both c a k).2=false→(aY g both c a k).1=a∧∀i,i<k→c i=true→(a.getD (tl g i).toNat 0 ||| a.getD (hd g i).toNat 0=a.getD (tl g i).toNat 0)∧(both=true→a.getD (tl g i).toNat 0=a.getD (hd g i).toNat 0)
 |0,_=>⟨rfl,fun i hi=>by omega⟩
 |k+1,h=>by
  simp only [aY] at h ⊢
  by_cases hc:c k=true
  ·rw [if_pos hc] at h ⊢
   simp only [Bool.or_eq_false_iff,decide_eq_false_iff_not,Decidable.not_not] at h
   obtain ⟨h1,h2,h3⟩:=h
   obtain ⟨i1,i2⟩:=ig h1
   rw [i1] at h2 h3
   simp only [i1]
   have dX:∀ {l:List Nat} {i v:Nat},v=l.getD i 0→l.set i v=l:=fun {l i v} e=>by
    refine List.ext_getElem? fun j=> ?_
    rw [List.getElem?_set]
    split
    ·rename_i hj;subst hj
     split
     ·rename_i hl;rw [e,List.getD_eq_getElem?_getD,List.getElem?_eq_getElem hl];rfl
     ·rename_i hl;rw [List.getElem?_eq_none (by omega)]
    ·rfl
   refine ⟨by rw [dX h2,dX h3],fun i hi Jn=> ?_⟩
   by_cases hik:i=k
   ·subst hik
    refine ⟨h2,fun hb=> ?_⟩
    rw [if_pos hb] at h3
    rw [← h2,h3]
   ·exact i2 i (by omega) Jn
  ·rw [if_neg hc] at h ⊢
   obtain ⟨i1,i2⟩:=ig h
   refine ⟨i1,fun i hi Jn=> ?_⟩
   by_cases hik:i=k
   ·subst hik;exact absurd Jn hc
   ·exact i2 i (by omega) Jn
theorem wZ {g:Gr} (hm:aG g=true) {both:Bool} {c:Nat→Bool} {a:List Nat} (h:D2 g both c a) (hne:(aY g both c a g.es.length).2=true):tI a<tI (aY g both c a g.es.length).1:=by
 obtain ⟨_,i2⟩:=fW hm h (Nat.le_refl g.es.length)
 refine D3 sG.symm (fun x=>pP (i2 x)) fun e=> ?_
 have key:∀k,k≤g.es.length→(aY g both c a k).2=false:=by
  intro k
  induction k with
  |zero=>intro _;rfl
  |succ k ih=>
   intro hk
   have ih:=ih (by omega)
   have SZ:=(ig ih).1
   simp only [aY]
   by_cases hc:c k=true
   ·rw [if_pos hc]
    simp only [Bool.or_eq_false_iff,decide_eq_false_iff_not,Decidable.not_not,ih,SZ,true_and]
    obtain ⟨j1,j2⟩:=fW hm h (k:=k) (by omega)
    have later:∀d,k+1+d≤g.es.length→∀x y,((aY g both c a (k+1)).1.getD x 0).testBit y=true→((aY g both c a (k+1+d)).1.getD x 0).testBit y=true:=by
     intro d
     induction d with
     |zero=>intro _ x y hb;exact hb
     |succ d UT=>
      intro hd x y hb
      have hb:=UT (by omega) x y hb
      show ((aY g both c a (k+1+d+1)).1.getD x 0).testBit y=true
      simp only [aY] at hb ⊢
      split
      ·rename_i Ce
       exact (grow_step hm (fW hm h (k:=k+1+d) (by omega)).1 (i:=k+1+d) (by omega) Ce).2 x y hb
      ·exact hb
    have oU:=later (g.es.length - (k+1)) (by omega)
    rw [show k+1+(g.es.length - (k+1))=g.es.length by omega, ← e] at oU
    have yO:(aY g both c a (k+1)).1=(a.set (tl g k).toNat (a.getD (tl g k).toNat 0 ||| a.getD (hd g k).toNat 0)).set (hd g k).toNat (if both=true then a.getD (tl g k).toNat 0 ||| a.getD (hd g k).toNat 0 else a.getD (hd g k).toNat 0):=by
     simp only [aY];rw [if_pos hc,SZ]
    obtain ⟨ht,hh⟩:=cM hm (k:=k) (by omega)
    have ht:0≤tl g k∧tl g k<g.n:=ht
    have hh:0≤hd g k∧hd g k<g.n:=hh
    have hl:=h.len
    have uG:∀x,(aY g both c a (k+1)).1.getD x 0=if x=(hd g k).toNat then (if both=true then a.getD (tl g k).toNat 0 ||| a.getD (hd g k).toNat 0 else a.getD (hd g k).toNat 0) else if x=(tl g k).toNat then a.getD (tl g k).toNat 0 ||| a.getD (hd g k).toNat 0 else a.getD x 0:=fun x=>by
     rw [yO,om (by rw [List.length_set];omega),om (by omega)]
    have g1:(if both=true then a.getD (tl g k).toNat 0 ||| a.getD (hd g k).toNat 0 else a.getD (hd g k).toNat 0)=a.getD (hd g k).toNat 0:=by
     have:=pP (oU (hd g k).toNat)
     rw [uG,if_pos rfl] at this
     split at this
     ·rename_i hb
      rw [if_pos hb]
      exact Nat.le_antisymm this Nat.right_le_or
     ·rename_i hb;rw [if_neg hb]
    refine ⟨?_,g1⟩
    by_cases heq:(tl g k).toNat=(hd g k).toNat
    ·rw [heq,Nat.or_self]
    ·have:=pP (oU (tl g k).toNat)
     rw [uG,if_neg heq,if_pos rfl] at this
     exact Nat.le_antisymm this Nat.left_le_or
   ·rw [if_neg hc];exact ih
 rw [key _ (Nat.le_refl _)] at hne
 cases hne
theorem yy {g:Gr} (hm:aG g=true) {both:Bool} {c:Nat→Bool} {a:List Nat} (h:D2 g both c a) (hne:(aY g both c a g.es.length).2=false):a=Aj g both c:=by
 obtain ⟨_,hcl⟩:=ig hne
 have comp:∀x y,x<g.n.toNat→lB g both c x y→∀w,w<g.n.toNat→lB g both c w x→True:=fun _ _ _ _ _ _ _=>trivial
 have key:∀ {x y:Nat},lB g both c x y→∀z,(a.getD y 0).testBit z=true→(a.getD x 0).testBit z=true:=by
  intro x y hR
  induction hR with
  |refl=>exact fun z hz=>hz
  | @fwd i hi hc _ ih=>
    intro z hz
    refine ih z ?_
    rw [← (hcl i hi hc).1,Nat.testBit_or,hz,Bool.or_true]
  | @F9 i hi hc hb _ ih=>
    intro z hz
    refine ih z ?_
    rw [← (hcl i hi hc).2 hb];exact hz
 refine List.ext_getElem? fun x=> ?_
 by_cases hx:x<g.n.toNat
 ·have e:a.getD x 0=(Aj g both c).getD x 0:=by
   rw [sF hx]
   refine Nat.eq_of_testBit_eq fun y=> ?_
   rw [Bool.eq_iff_iff,uu]
   refine ⟨h.snd x y hx,fun ⟨h1,h2⟩=>key h2 y (h.own y h1)⟩
  rw [List.getD_eq_getElem?_getD,List.getD_eq_getElem?_getD,List.getElem?_eq_getElem (by rw [h.len];exact hx),List.getElem?_eq_getElem (by rw [qS];exact hx)] at e
  rw [List.getElem?_eq_getElem (by rw [h.len];exact hx),List.getElem?_eq_getElem (by rw [qS];exact hx)]
  simpa using e
 ·rw [List.getElem?_eq_none (by rw [h.len];omega),List.getElem?_eq_none (by rw [qS];omega)]
end Go.Ab
end
section
namespace Go.Ab
open Go.Proofs
attribute [local congr] ACall.congr gd.congr Nx.congr
set_option maxRecDepth 20000
set_option maxHeartbeats 8000000
def rU (n:Nat):List D:= [.sc (.int .u64 (n:Int))]
def eU (n:Nat):AV:= .d (.sc (.int .u64 (n:Int)))
def sU (l:List Nat):D:= .sl 1 (l.map rU)
theorem getD_rU (ps:List Nat) (i:Nat):(ps.map rU).getD i [.sc (.int .u64 0)]= [.sc (.int .u64 ((ps.getD i 0:Nat):Int))]:=by
 rw [List.getD_eq_getElem?_getD,List.getElem?_map,List.getD_eq_getElem?_getD]
 cases ps[i]? <;>rfl
theorem ee (l:List Nat) (k:Nat) (v:Nat):(l.map rU).set k [.sc (.int .u64 (v:Int))]=(l.set k v).map rU:=by
 rw [List.map_set];rfl
attribute [go_sem] eU sU getD_rU InU
theorem Kn {s x:Nat} :decide ((((s >>> x &&& 1:Nat)):Int)=1)=s.testBit x:=by
 rw [Bool.eq_iff_iff,decide_eq_true_eq,Nat.testBit,Nat.and_comm]
 have:1 &&& s >>> x=0∨1 &&& s >>> x=1:=by
  rw [Nat.and_comm,Nat.and_one_is_mod];omega
 rcases this with h|h<;>rw [h]<;>simp
theorem yz (s:Nat) (hs:s<18446744073709551616) (x:Int):Spec Tryz.prog 26 (Args [eU s,eN x]) [] (eB (decide (0≤x)&&decide (x<64)&&s.testBit x.toNat)) []:=by
 by_cases h0:0≤x
 rotate_left
 ·have hb0:decide (0≤x)=false:=decide_eq_false h0
  (refine Spec.hd (C:=T.cfg [] []) (rs:= [.t 4]) (T.aj _ _) Tryz.func26 rfl rfl Tryz.ntmps26 Tryz.results26 (by simp [AObj.isNest]) (by simp [AObj.isNest]) (by kernel_rfl) T.mixed fun X hX hP hC aP bV=> ?_)
  repeat' (first|refine Rn.p ?_|(with_reducible apply And.intro)|((first|(refine hK _ ?_;clear hK K)|with_reducible intro K hK|refine Rs.p ?_|((with_reducible first|apply oP|apply oQ);exact rfl));try simp only [go_sem,simprocAttr,hb0])|((with_reducible refine oD ?_ ?_);kernel_rfl)|((with_reducible intro h);try simp only [go_sem,simprocAttr,hb0] at h)|omega|intro h)
 have hb0:decide (0≤x)=true:=decide_eq_true h0
 by_cases h1:x<64
 rotate_left
 ·have hb1:decide (x<64)=false:=decide_eq_false h1
  (refine Spec.hd (C:=T.cfg [] []) (rs:= [.t 4]) (T.aj _ _) Tryz.func26 rfl rfl Tryz.ntmps26 Tryz.results26 (by simp [AObj.isNest]) (by simp [AObj.isNest]) (by kernel_rfl) T.mixed fun X hX hP hC aP bV=> ?_)
  repeat' (first|refine Rn.p ?_|(with_reducible apply And.intro)|((first|(refine hK _ ?_;clear hK K)|with_reducible intro K hK|refine Rs.p ?_|((with_reducible first|apply oP|apply oQ);exact rfl));try simp only [go_sem,simprocAttr,hb0,hb1])|((with_reducible refine oD ?_ ?_);kernel_rfl)|((with_reducible intro h);try simp only [go_sem,simprocAttr,hb0,hb1] at h)|omega|intro h)
 have hb1:decide (x<64)=true:=decide_eq_true h1
 obtain ⟨i,rfl⟩:∃i:Nat,x=i:=⟨x.toNat,by omega⟩
 have hlt:s >>> i<18446744073709551616:=Nat.lt_of_le_of_lt (Nat.shiftRight_le s i) hs
 have ha:=Kn (s:=s) (x:=i)
 generalize hq:s >>> i=q at hlt ha
 (refine Spec.hd (C:=T.cfg [] []) (rs:= [.t 4]) (T.aj _ _) Tryz.func26 rfl rfl Tryz.ntmps26 Tryz.results26 (by simp [AObj.isNest]) (by simp [AObj.isNest]) (by kernel_rfl) T.mixed fun X hX hP hC aP bV=> ?_)
 repeat' (first|refine Rn.p ?_|(with_reducible apply And.intro)|((first|(refine hK _ ?_;clear hK K)|with_reducible intro K hK|refine Rs.p ?_|((with_reducible first|apply oP|apply oQ);exact rfl));try simp only [go_sem,simprocAttr,hb0,hb1,hq,ha])|((with_reducible refine oD ?_ ?_);kernel_rfl)|((with_reducible intro h);try simp only [go_sem,simprocAttr,hb0,hb1,hq,ha] at h)|omega|intro h)
theorem II (x:Nat) (hx:x<64):Spec Tryz.prog 114 (Args [.d (.sl 1 [[.sc (.int .i64 (x:Int))]])]) [] (eU (2 ^ x)) []:=by
 have hsh:1 <<< x % 18446744073709551616=2 ^ x:=by
  rw [Nat.shiftLeft_eq,Nat.one_mul,Nat.mod_eq_of_lt]
  exact Nat.lt_of_lt_of_le (Nat.pow_lt_pow_right (by decide) hx) (by decide)
 have hlt:2 ^ x<18446744073709551616:=Nat.lt_of_lt_of_le (Nat.pow_lt_pow_right (by decide) hx) (by decide)
 have hb1:decide (0≤(x:Int))=true:=decide_eq_true (by omega)
 have hb2:decide ((x:Int)<64)=true:=decide_eq_true (by omega)
 (refine Spec.hd (C:=T.cfg [] []) (rs:= [.t 2]) (T.aj _ _) Tryz.func114 rfl rfl Tryz.ntmps114 Tryz.results114 (by simp [AObj.isNest]) (by simp [AObj.isNest]) (by kernel_rfl) T.mixed fun X hX hP hC aP bV=> ?_)
 repeat' (first|refine Rn.p ?_|(with_reducible apply And.intro)|((first|(refine hK _ ?_;clear hK K)|with_reducible intro K hK|refine Rs.p ?_|((with_reducible first|apply oP|apply oQ);exact rfl));try simp only [go_sem,simprocAttr])|((with_reducible refine oD ?_ ?_);kernel_rfl)|((with_reducible intro h);try simp only [go_sem,simprocAttr] at h)|omega|intro h)
 refine ai (fun k:Nat=>k≤1) (fun k=>⟨[(2,eU (if k=0 then 0 else 2 ^ x)),(5, .d (.sl 1 [[.sc (.int .i64 (x:Int))]])),(6,eN 1),(7,eN k)], []⟩) (fun k=>1 - k) 0 (by omega) ?_ ?_
 ·refine Le.of ?_ ?_<;>simp [go_sem,simprocAttr]
 rintro k hk
 match k,hk with
 |0,_=>
  repeat' (first|refine Rn.p ?_|(with_reducible apply And.intro)|((first|(refine hK _ ?_;clear hK K)|with_reducible intro K hK|refine Rs.p ?_|((with_reducible first|apply oP|apply oQ);exact rfl));try simp only [go_sem,simprocAttr,hsh,hb1,hb2,Nat.zero_or])|((with_reducible refine oD ?_ ?_);kernel_rfl)|((with_reducible intro h);try simp only [go_sem,simprocAttr,hsh,hb1,hb2,Nat.zero_or] at h)|omega|intro h)
  all_goals (refine ⟨1,by omega, ?_,by omega⟩)
  all_goals (refine Le.of ?_ ?_<;>simp [go_sem,simprocAttr,hsh,hb1,hb2,Nat.zero_or])
 |1,_=>
  repeat' (first|refine Rn.p ?_|(with_reducible apply And.intro)|((first|(refine hK _ ?_;clear hK K)|with_reducible intro K hK|refine Rs.p ?_|((with_reducible first|apply oP|apply oQ);exact rfl));try simp only [go_sem,simprocAttr])|((with_reducible refine oD ?_ ?_);kernel_rfl)|((with_reducible intro h);try simp only [go_sem,simprocAttr] at h)|omega|intro h)
end Go.Ab
end
section
namespace Go.Ab
open Go.Proofs
attribute [local congr] ACall.congr gd.congr Nx.congr
set_option maxRecDepth 20000
set_option maxHeartbeats 8000000
def sH (k:Nat):List Nat:=(List.range k).map fun x=>2 ^ x
theorem FM {k:Nat} :sH (k+1)=sH k++ [2 ^ k]:=by simp [sH,List.range_succ]
theorem qT {k:Nat} :(sH k).length=k:=by simp [sH]
def fX (g:Gr):List Nat:=if aG g=true then sH g.n.toNat else []
theorem w4 (g:Gr) (hl:g.es.length≤9223372036854775807):Spec Tryz.prog 64 (Args [eG g]) [] (.ref 10000) [(10000, .own 49 1 ((fX g).map rU))]:=by
 have hM:=gm g hl
 cases hm:aG g with
 |false=>
  rw [hm] at hM
  have he:fX g= []:=by unfold fX;rw [hm];rfl
  rw [he]
  (refine Spec.vf (C:=T.cfg [200,17] []) (rs:= [.t 2]) [(10000,200)] (T.aj _ _) Tryz.func64 rfl rfl Tryz.ntmps64 Tryz.results64 (by simp [AObj.isNest]) (by simp [AObj.isNest]) (by first|(simp [look];done)|(simp [asN];done)|(intro l hl;simp only [asN];repeat (rw [if_neg (fun e=>by subst e;simp [look] at hl)]))) (by first|(simp [look];done)|(simp [asN];done)|(intro l hl;simp only [asN];repeat (rw [if_neg (fun e=>by subst e;simp [look] at hl)]))) (by kernel_rfl) T.mixed fun X hX hP hC aP bV=> ?_)
  repeat' (first|(show bY _ .ret _ _;(try simp only [go_sem,simprocAttr]);refine dU hX 2 200 (.own 49 1 []) ?_ ?_ (by decide) ⟨49,1,by decide, .inl rfl⟩ ?_;(iterate 2 (focus (simp only [go_sem,simprocAttr];done)));simp only [go_sem,simprocAttr])|refine Rn.p ?_|(with_reducible apply And.intro)|((first|(refine hK _ ?_;clear hK K)|with_reducible intro K hK|refine Rs.p ?_|((with_reducible first|apply oP|apply oQ);exact rfl)|refine aa hX hC hP (hM) rfl rfl rfl (by simp only [go_sem,simprocAttr]) rfl ?_);try simp only [go_sem,simprocAttr])|((with_reducible refine oD ?_ ?_);kernel_rfl)|((with_reducible intro h);try simp only [go_sem,simprocAttr] at h)|omega|intro h)
 |true=>
  rw [hm] at hM
  have hn:=aA hm
  have he:fX g=sH g.n.toNat:=by unfold fX;rw [if_pos hm]
  rw [he]
  (refine Spec.vf (C:=T.cfg [200,17] []) (rs:= [.t 2]) [(10000,200)] (T.aj _ _) Tryz.func64 rfl rfl Tryz.ntmps64 Tryz.results64 (by simp [AObj.isNest]) (by simp [AObj.isNest]) (by first|(simp [look];done)|(simp [asN];done)|(intro l hl;simp only [asN];repeat (rw [if_neg (fun e=>by subst e;simp [look] at hl)]))) (by first|(simp [look];done)|(simp [asN];done)|(intro l hl;simp only [asN];repeat (rw [if_neg (fun e=>by subst e;simp [look] at hl)]))) (by kernel_rfl) T.mixed fun X hX hP hC aP bV=> ?_)
  repeat' (first|(show bY _ (.seq (.region 3 _ _) _) _ _;(refine dU hX 2 200 (.own 49 1 []) ?_ ?_ (by decide) ⟨49,1,by decide, .inl rfl⟩ ?_;(iterate 2 (focus (simp only [go_sem,simprocAttr];done)));simp only [go_sem,simprocAttr]))|refine Rn.p ?_|(with_reducible apply And.intro)|((first|(refine hK _ ?_;clear hK K)|with_reducible intro K hK|refine Rs.p ?_|((with_reducible first|apply oP|apply oQ);exact rfl)|refine aa hX hC hP (hM) rfl rfl rfl (by simp only [go_sem,simprocAttr]) rfl ?_);try simp only [go_sem,simprocAttr])|((with_reducible refine oD ?_ ?_);kernel_rfl)|((with_reducible intro h);try simp only [go_sem,simprocAttr] at h)|omega|intro h)
  refine ai (fun k:Nat=>k≤g.n.toNat) (fun k=>⟨[(2, .ref 200),(8,eN g.n),(9,eN k)], [(200, .own 49 1 ((sH k).map rU))]⟩) (fun k=>g.n.toNat - k) 0 (by omega) ?_ ?_
  ·refine Le.of ?_ ?_<;>simp [go_sem,simprocAttr,sH]
  rintro k hk
  rcases Nat.lt_or_ge k g.n.toNat with hlt|hge
  ·have hb:decide ((k:Int)<g.n)=true:=decide_eq_true (by omega)
   have tQ:=qT (k:=k)
   have cE:=FM (k:=k)
   have UU:=II k (by omega)
   generalize sH k=O1 at tQ cE
   repeat' (first|(show bY _ (.region 7 _ _) _ _;(refine rO hX 2 17 200 (by simp only [go_sem,simprocAttr,hb,tQ]) rfl (by first|exact .inl rfl|exact .inr rfl) (by decide) ?_;simp only [go_sem,simprocAttr,hb,tQ]))|refine Rn.p ?_|(with_reducible apply And.intro)|((first|(refine hK _ ?_;clear hK K)|with_reducible intro K hK|refine Rs.p ?_|((with_reducible first|apply oP|apply oQ);exact rfl)|(refine cJ hX hC hP (UU) rfl rfl rfl ?_ ?_ rfl ?_;iterate 2 (focus (simp only [go_sem,simprocAttr,hb,tQ];done))));try simp only [go_sem,simprocAttr,hb,tQ])|((with_reducible refine oD ?_ ?_);kernel_rfl)|((with_reducible intro h);try simp only [go_sem,simprocAttr,hb,tQ] at h)|omega|intro h)
   refine ⟨k+1,by omega, ?_,by omega⟩
   rw [cE]
   refine Le.of ?_ ?_<;>simp [go_sem,simprocAttr,hb,tQ,rU]
  ·have hb:decide ((k:Int)<g.n)=false:=decide_eq_false (by omega)
   obtain rfl:k=g.n.toNat:=by omega
   repeat' (first|refine Rn.p ?_|(with_reducible apply And.intro)|((first|(refine hK _ ?_;clear hK K)|with_reducible intro K hK|refine Rs.p ?_|((with_reducible first|apply oP|apply oQ);exact rfl));try simp only [go_sem,simprocAttr,hb])|((with_reducible refine oD ?_ ?_);kernel_rfl)|((with_reducible intro h);try simp only [go_sem,simprocAttr,hb] at h)|omega|intro h)
theorem PX {a b:Nat} :(!decide ((a:Int)=(b:Int)))=decide (a≠b):=by
 by_cases h:a=b
 ·simp [h]
 ·simp [h];omega
theorem D4 {g:Gr} (hn:g.n.toNat≤64) (both:Bool) (c:Nat→Bool):∃M:Nat,∀b:List Nat,D2 g both c b→tI b≤M:=
 ⟨_,fun b hb=>by have:=BN (a:=b) fun x=>hb.lt hn x;rw [hb.len] at this;exact this⟩
theorem CV (g:Gr) (hm:aG g=true) (both:Bool) (c:Nat→Bool) (F:Nat) (hF:∀i,i<g.es.length→Spec Tryz.prog F (Args [eN i]) [] (eB (c i)) []) (a0:List Nat) (h0:D2 g both c a0):
 Spec Tryz.prog 65 (Args [eG g, .ref 10000,eB both, .fn F [] []]) [(10000, .own 49 1 (a0.map rU))] (.tup []) [(10000, .own 49 1 ((Aj g both c).map rU))]:=by
 have hn:=aA hm
 obtain ⟨M,hM⟩:=D4 (g:=g) (by omega) both c
 (refine Spec.hd (C:=T.cfg [] []) (rs:= []) (T.aj _ _) Tryz.func65 rfl rfl Tryz.ntmps65 Tryz.results65 (by simp [AObj.isNest]) (by simp [AObj.isNest]) (by kernel_rfl) T.mixed fun X hX hP hC aP bV=> ?_)
 repeat' (first|refine Rn.p ?_|(with_reducible apply And.intro)|((first|(refine hK _ ?_;clear hK K)|with_reducible intro K hK|refine Rs.p ?_|((with_reducible first|apply oP|apply oQ);exact rfl));try simp only [go_sem,simprocAttr])|((with_reducible refine oD ?_ ?_);kernel_rfl)|((with_reducible intro h);try simp only [go_sem,simprocAttr] at h)|omega|intro h)
 refine ai (fun s:List Nat × Bool=>D2 g both c s.1∧(s.2=false→s.1=Aj g both c)) (fun s=>⟨[(1, .ref 10000),(2,eB both),(3, .fn F [] []),(4, .ptr 4 0),(8,eB s.2)], [(10000, .own 49 1 (s.1.map rU)),(4, .box [eN g.n, .d (sE g.es)])]⟩) (fun s=>2*(M - tI s.1)+(if s.2=true then 1 else 0)) (a0,true) ⟨h0,by simp⟩ ?_ ?_
 ·refine Le.of ?_ ?_<;>simp [go_sem,simprocAttr]
 rintro ⟨a,more⟩ ⟨hG,oU⟩
 simp only at hG oU ⊢
 cases more with
 |false=>
  have:=oU rfl
  subst this
  repeat' (first|refine Rn.p ?_|(with_reducible apply And.intro)|((first|(refine hK _ ?_;clear hK K)|with_reducible intro K hK|refine Rs.p ?_|((with_reducible first|apply oP|apply oQ);exact rfl));try simp only [go_sem,simprocAttr])|((with_reducible refine oD ?_ ?_);kernel_rfl)|((with_reducible intro h);try simp only [go_sem,simprocAttr] at h)|omega|intro h)
 |true=>
 repeat' (first|refine Rn.p ?_|(with_reducible apply And.intro)|((first|(refine hK _ ?_;clear hK K)|with_reducible intro K hK|refine Rs.p ?_|((with_reducible first|apply oP|apply oQ);exact rfl));try simp only [go_sem,simprocAttr])|((with_reducible refine oD ?_ ?_);kernel_rfl)|((with_reducible intro h);try simp only [go_sem,simprocAttr] at h)|omega|intro h)
 refine ai (fun k:Nat=>k≤g.es.length) (fun k=>⟨[(1, .ref 10000),(2,eB both),(3, .fn F [] []),(4, .ptr 4 0),(8,eB (aY g both c a k).2),(15, .d (sE g.es)),(16,eN g.es.length),(17,eN k)], [(10000, .own 49 1 ((aY g both c a k).1.map rU)),(4, .box [eN g.n, .d (sE g.es)])]⟩) (fun k=>g.es.length - k) 0 (by omega) ?_ ?_
 ·refine Le.of ?_ ?_<;>simp [go_sem,simprocAttr,aY]
 rintro k hk
 rcases Nat.lt_or_ge k g.es.length with hlt|hge
 rotate_left
 ·have hb:decide ((k:Int)<(g.es.length:Int))=false:=decide_eq_false (by omega)
  obtain rfl:k=g.es.length:=by omega
  obtain ⟨i1,_⟩:=fW hm hG (Nat.le_refl g.es.length)
  have IJ:=wZ hm hG
  have BO:=ig (g:=g) (both:=both) (c:=c) (a:=a) (k:=g.es.length)
  have hdone:=yy hm hG
  have Cn:=hM _ i1
  generalize aY g both c a g.es.length=R at*
  repeat' (first|refine Rn.p ?_|(with_reducible apply And.intro)|((first|(refine hK _ ?_;clear hK K)|with_reducible intro K hK|refine Rs.p ?_|((with_reducible first|apply oP|apply oQ);exact rfl));try simp only [go_sem,simprocAttr,hb])|((with_reducible refine oD ?_ ?_);kernel_rfl)|((with_reducible intro h);try simp only [go_sem,simprocAttr,hb] at h)|omega|intro h)
  refine ⟨(R.1,R.2),⟨i1,fun hf=> ?_⟩, ?_, ?_⟩
  ·rw [(BO hf).1];exact hdone hf
  ·refine Le.of ?_ ?_<;>simp [go_sem,simprocAttr,hb]
  ·cases O0:R.2 with
   |true=>have:=IJ O0;simp;omega
   |false=>rw [(BO O0).1];simp
 have hb:decide ((k:Int)<(g.es.length:Int))=true:=decide_eq_true (by omega)
 obtain ⟨Ko,_⟩:=fW hm hG (k:=k) (by omega)
 obtain ⟨ht,hh⟩:=cM hm hlt
 have Ga:=hF k hlt
 have w5:=Ko.len
 have sC:=Ko.lt (by omega)
 obtain ⟨x,hx⟩:∃x:Nat,(g.es.getD k (0,0)).1=x:=⟨(g.es.getD k (0,0)).1.toNat,by omega⟩
 obtain ⟨y,hy⟩:∃y:Nat,(g.es.getD k (0,0)).2=y:=⟨(g.es.getD k (0,0)).2.toNat,by omega⟩
 have htl:(tl g k).toNat=x:=by show ((g.es.getD k (0,0)).1).toNat=x;rw [hx];rfl
 have J9:(hd g k).toNat=y:=by show ((g.es.getD k (0,0)).2).toNat=y;rw [hy];rfl
 have cE:aY g both c a (k+1)=if c k=true then ((((aY g both c a k).1.set x ((aY g both c a k).1.getD x 0 ||| (aY g both c a k).1.getD y 0)).set y (if both=true then (aY g both c a k).1.getD x 0 ||| (aY g both c a k).1.getD y 0 else (aY g both c a k).1.getD y 0)),(aY g both c a k).2||(decide ((aY g both c a k).1.getD x 0 ||| (aY g both c a k).1.getD y 0≠(aY g both c a k).1.getD x 0)||decide ((if both=true then (aY g both c a k).1.getD x 0 ||| (aY g both c a k).1.getD y 0 else (aY g both c a k).1.getD y 0)≠(aY g both c a k).1.getD y 0))) else aY g both c a k:=by
  simp only [aY,htl,J9]
 generalize aY g both c a k=R at Ko w5 sC cE
 obtain ⟨A,m1⟩:=R
 simp only at Ko w5 sC cE ⊢
 have O2:=sC x
 have R5:=sC y
 cases hc:c k with
 |false=>
  rw [hc] at Ga cE
  repeat' (first|refine Rn.p ?_|(with_reducible apply And.intro)|((first|(refine hK _ ?_;clear hK K)|with_reducible intro K hK|refine Rs.p ?_|((with_reducible first|apply oP|apply oQ);exact rfl)|refine aa hX hC hP (Ga) rfl rfl rfl (by simp only [go_sem,simprocAttr,hb,hx,hy]) rfl ?_);try simp only [go_sem,simprocAttr,hb,hx,hy])|((with_reducible refine oD ?_ ?_);kernel_rfl)|((with_reducible intro h);try simp only [go_sem,simprocAttr,hb,hx,hy] at h)|omega|intro h)
  refine ⟨k+1,by omega, ?_,by omega⟩
  rw [cE]
  refine Le.of ?_ ?_<;>simp [go_sem,simprocAttr,hb,hx,hy]
 |true=>
  rw [hc] at Ga cE
  rw [if_pos rfl] at cE
  have n1:=PX (a:=A.getD x 0 ||| A.getD y 0) (b:=A.getD x 0)
  have n2:=PX (a:=if both=true then A.getD x 0 ||| A.getD y 0 else A.getD y 0) (b:=A.getD y 0)
  have Mu:A.getD x 0 ||| A.getD y 0<18446744073709551616:=Nat.or_lt_two_pow (n:=64) O2 R5
  have Cd:(A.set x (A.getD x 0 ||| A.getD y 0)).length=A.length:=List.length_set ..
  generalize tP:A.getD x 0 ||| A.getD y 0=t at n1 n2 cE Mu Cd
  generalize Jo:decide (t≠A.getD x 0)=d1 at n1 cE
  cases both with
  |true=>
   rw [if_pos rfl] at n2 cE
   generalize rC:decide (t≠A.getD y 0)=d2 at n2 cE
   clear Jo rC
   cases m1<;>cases d1<;>cases d2<;>simp only [Bool.or_false,Bool.or_true,Bool.false_or,Bool.true_or] at cE
   all_goals (repeat' (first|refine Rn.p ?_|(with_reducible apply And.intro)|((first|(refine hK _ ?_;clear hK K)|with_reducible intro K hK|refine Rs.p ?_|((with_reducible first|apply oP|apply oQ);exact rfl)|refine aa hX hC hP (Ga) rfl rfl rfl (by simp only [go_sem,simprocAttr,hb,hx,hy,tP,n1,n2,w5,ee,List.length_set]) rfl ?_);try simp only [go_sem,simprocAttr,hb,hx,hy,tP,n1,n2,w5,ee,List.length_set])|((with_reducible refine oD ?_ ?_);kernel_rfl)|((with_reducible intro h);try simp only [go_sem,simprocAttr,hb,hx,hy,tP,n1,n2,w5,ee,List.length_set] at h)|omega|intro h))
   all_goals (refine ⟨k+1,by omega, ?_,by omega⟩)
   all_goals (rw [cE])
   all_goals (refine Le.of ?_ ?_<;>simp [go_sem,simprocAttr,hb,hx,hy,tP,n1,n2,w5,ee,List.length_set])
  |false=>
   rw [if_neg (by simp)] at n2 cE
   have rC:decide (A.getD y 0≠A.getD y 0)=false:=decide_eq_false fun h=>h rfl
   rw [rC] at n2 cE
   clear Jo
   cases m1<;>cases d1<;>simp only [Bool.or_false,Bool.or_true,Bool.false_or,Bool.true_or] at cE
   all_goals (repeat' (first|refine Rn.p ?_|(with_reducible apply And.intro)|((first|(refine hK _ ?_;clear hK K)|with_reducible intro K hK|refine Rs.p ?_|((with_reducible first|apply oP|apply oQ);exact rfl)|refine aa hX hC hP (Ga) rfl rfl rfl (by simp only [go_sem,simprocAttr,hb,hx,hy,tP,n1,n2,w5,ee,List.length_set]) rfl ?_);try simp only [go_sem,simprocAttr,hb,hx,hy,tP,n1,n2,w5,ee,List.length_set])|((with_reducible refine oD ?_ ?_);kernel_rfl)|((with_reducible intro h);try simp only [go_sem,simprocAttr,hb,hx,hy,tP,n1,n2,w5,ee,List.length_set] at h)|omega|intro h))
   all_goals (refine ⟨k+1,by omega, ?_,by omega⟩)
   all_goals (rw [cE])
   all_goals (refine Le.of ?_ ?_<;>simp [go_sem,simprocAttr,hb,hx,hy,tP,n1,n2,w5,ee,List.length_set])
theorem qA {l:List Nat} :∀r∈l.map rU,∀x∈r,∃v,x=D.sc v:=by
 intro r hr x hx
 obtain ⟨y,_,rfl⟩:=List.mem_map.1 hr
 simp only [rU,List.mem_singleton] at hx
 exact ⟨_,hx⟩
theorem CW (i:Nat):Spec Tryz.prog 66 (Args [eN i]) [] (eB true) []:=by
 (refine Spec.hd (C:=T.cfg [] []) (rs:= [.t 2]) (T.aj _ _) Tryz.func66 rfl rfl Tryz.ntmps66 Tryz.results66 (by simp [AObj.isNest]) (by simp [AObj.isNest]) (by kernel_rfl) T.mixed fun X hX hP hC aP bV=> ?_)
 repeat' (first|refine Rn.p ?_|(with_reducible apply And.intro)|((first|(refine hK _ ?_;clear hK K)|with_reducible intro K hK|refine Rs.p ?_|((with_reducible first|apply oP|apply oQ);exact rfl)|refine aa hX hC hP (Ga) rfl rfl rfl (by simp only [go_sem,simprocAttr]) rfl ?_);try simp only [go_sem,simprocAttr])|((with_reducible refine oD ?_ ?_);kernel_rfl)|((with_reducible intro h);try simp only [go_sem,simprocAttr] at h)|omega|intro h)
theorem yA {g:Gr} (hm:aG g=true) {both:Bool} {c:Nat→Bool} :D2 g both c (fX g):=by
 have he:fX g=sH g.n.toNat:=by unfold fX;rw [if_pos hm]
 have lZ:∀x,x<g.n.toNat→(sH g.n.toNat).getD x 0=2 ^ x:=fun x hx=>by simp [sH,List.getD_eq_getElem?_getD,List.getElem?_range hx]
 rw [he]
 refine ⟨qT,fun x hx=>by rw [lZ x hx,Nat.testBit_two_pow_self],fun x y hx hb=> ?_⟩
 rw [lZ x hx,Nat.testBit_two_pow] at hb
 have:x=y:=of_decide_eq_true hb
 subst this
 exact ⟨hx, .refl⟩
noncomputable def yB (g:Gr):List Nat:=if aG g=true then Aj g false (fun _=>true) else []
theorem FN (g:Gr) (hl:g.es.length≤9223372036854775807):Spec Tryz.prog 25 (Args [eG g]) [] (.d (sU (yB g))) []:=by
 have hE:=w4 g hl
 cases hm:aG g with
 |false=>
  have he:fX g= []:=by unfold fX;rw [hm];rfl
  have hf:yB g= []:=by unfold yB;rw [hm];rfl
  rw [he] at hE
  rw [hf]
  (refine Spec.hd (C:=T.cfg [] []) (rs:= [.t 2]) (T.aj _ _) Tryz.func25 rfl rfl Tryz.ntmps25 Tryz.results25 (by simp [AObj.isNest]) (by simp [AObj.isNest]) (by kernel_rfl) T.mixed fun X hX hP hC aP bV=> ?_)
  repeat' (first|refine Rn.p ?_|(with_reducible apply And.intro)|((first|(refine hK _ ?_;clear hK K)|with_reducible intro K hK|refine Rs.p ?_|((with_reducible first|apply oP|apply oQ);exact rfl)|(refine eM hX hC hP 5 (hE) rfl rfl rfl ?_ ?_ (by first|exact ⟨_,_,_,rfl,qx⟩|exact ⟨_,_,_,rfl,qy⟩|exact ⟨_,_,_,rfl,qA⟩) rfl (by decide) ?_;(iterate 2 (focus (simp only [go_sem,simprocAttr];done)));simp only [go_sem,simprocAttr]));try simp only [go_sem,simprocAttr])|((with_reducible refine oD ?_ ?_);kernel_rfl)|((with_reducible intro h);try simp only [go_sem,simprocAttr] at h)|omega|intro h)
 |true=>
  have hn:=aA hm
  have he:(fX g).length=g.n.toNat:=by unfold fX;rw [if_pos hm];exact qT
  have hf:yB g=Aj g false (fun _=>true):=by unfold yB;rw [if_pos hm]
  have hG:=CV g hm false (fun _=>true) 66 (fun i _=>CW i) (fX g) (yA hm)
  have hb:decide ((g.n.toNat:Int)=0)=false:=decide_eq_false (by omega)
  rw [hf]
  generalize fX g=U at hE he hG
  (refine Spec.hd (C:=T.cfg [] []) (rs:= [.t 2]) (T.aj _ _) Tryz.func25 rfl rfl Tryz.ntmps25 Tryz.results25 (by simp [AObj.isNest]) (by simp [AObj.isNest]) (by kernel_rfl) T.mixed fun X hX hP hC aP bV=> ?_)
  repeat' (first|refine Rn.p ?_|(with_reducible apply And.intro)|((first|(refine hK _ ?_;clear hK K)|with_reducible intro K hK|refine Rs.p ?_|((with_reducible first|apply oP|apply oQ);exact rfl)|(refine eM hX hC hP 5 (hE) rfl rfl rfl ?_ ?_ (by first|exact ⟨_,_,_,rfl,qx⟩|exact ⟨_,_,_,rfl,qy⟩|exact ⟨_,_,_,rfl,qA⟩) rfl (by decide) ?_;(iterate 2 (focus (simp only [go_sem,simprocAttr,he,hb];done)));simp only [go_sem,simprocAttr,he,hb])|(refine au hX hC hP [(10000,5)] (hG) rfl rfl rfl ?_ ?_ ?_ ?_ ?_ ?_ ?_ ?_ ?_ ?_ ?_ ?_ ?_ ?_;(focus (simp only [go_sem,simprocAttr,he,hb];done));(iterate 12 (focus (simp [go_sem,simprocAttr,he,hb];done)));try simp only [List.map_cons,List.map_nil]));try simp only [go_sem,simprocAttr,he,hb])|((with_reducible refine oD ?_ ?_);kernel_rfl)|((with_reducible intro h);try simp only [go_sem,simprocAttr,he,hb] at h)|omega|intro h)
end Go.Ab
end
section
namespace Go.Ab
open Go.Proofs
attribute [local congr] ACall.congr gd.congr Nx.congr
set_option maxRecDepth 20000
set_option maxHeartbeats 8000000
theorem CX (g:Gr) (hm:aG g=true) (both:Bool) (c:Nat→Bool) (F:Nat) (i0:Int) (hF:∀i:Nat,i<g.es.length→Spec Tryz.prog F (Args [eN i, .ptr 10001 0]) [(10001, .rob [eN i0])] (eB (c i)) [(10001, .rob [eN i0])]) (a0:List Nat) (h0:D2 g both c a0):
 Spec Tryz.prog 65 (Args [eG g, .ref 10000,eB both, .fn F [] [.ptr 10001 0]]) [(10000, .own 49 1 (a0.map rU)),(10001, .box [eN i0])] (.tup []) [(10000, .own 49 1 ((Aj g both c).map rU)),(10001, .box [eN i0])]:=by
 have hn:=aA hm
 obtain ⟨M,hM⟩:=D4 (g:=g) (by omega) both c
 (refine Spec.hd (C:=T.cfg [] []) (rs:= []) (T.aj _ _) Tryz.func65 rfl rfl Tryz.ntmps65 Tryz.results65 (by simp [AObj.isNest]) (by simp [AObj.isNest]) (by kernel_rfl) T.mixed fun X hX hP hC aP bV=> ?_)
 repeat' (first|refine Rn.p ?_|(with_reducible apply And.intro)|((first|(refine hK _ ?_;clear hK K)|with_reducible intro K hK|refine Rs.p ?_|((with_reducible first|apply oP|apply oQ);exact rfl));try simp only [go_sem,simprocAttr])|((with_reducible refine oD ?_ ?_);kernel_rfl)|((with_reducible intro h);try simp only [go_sem,simprocAttr] at h)|omega|intro h)
 refine ai (fun s:List Nat × Bool=>D2 g both c s.1∧(s.2=false→s.1=Aj g both c)) (fun s=>⟨[(1, .ref 10000),(2,eB both),(3, .fn F [] [.ptr 10001 0]),(4, .ptr 4 0),(8,eB s.2)], [(10000, .own 49 1 (s.1.map rU)),(10001, .box [eN i0]),(4, .box [eN g.n, .d (sE g.es)])]⟩) (fun s=>2*(M - tI s.1)+(if s.2=true then 1 else 0)) (a0,true) ⟨h0,by simp⟩ ?_ ?_
 ·refine Le.of ?_ ?_<;>simp [go_sem,simprocAttr]
 rintro ⟨a,more⟩ ⟨hG,oU⟩
 simp only at hG oU ⊢
 cases more with
 |false=>
  have:=oU rfl
  subst this
  repeat' (first|refine Rn.p ?_|(with_reducible apply And.intro)|((first|(refine hK _ ?_;clear hK K)|with_reducible intro K hK|refine Rs.p ?_|((with_reducible first|apply oP|apply oQ);exact rfl));try simp only [go_sem,simprocAttr])|((with_reducible refine oD ?_ ?_);kernel_rfl)|((with_reducible intro h);try simp only [go_sem,simprocAttr] at h)|omega|intro h)
 |true=>
 repeat' (first|refine Rn.p ?_|(with_reducible apply And.intro)|((first|(refine hK _ ?_;clear hK K)|with_reducible intro K hK|refine Rs.p ?_|((with_reducible first|apply oP|apply oQ);exact rfl));try simp only [go_sem,simprocAttr])|((with_reducible refine oD ?_ ?_);kernel_rfl)|((with_reducible intro h);try simp only [go_sem,simprocAttr] at h)|omega|intro h)
 refine ai (fun k:Nat=>k≤g.es.length) (fun k=>⟨[(1, .ref 10000),(2,eB both),(3, .fn F [] [.ptr 10001 0]),(4, .ptr 4 0),(8,eB (aY g both c a k).2),(15, .d (sE g.es)),(16,eN g.es.length),(17,eN k)], [(10000, .own 49 1 ((aY g both c a k).1.map rU)),(10001, .box [eN i0]),(4, .box [eN g.n, .d (sE g.es)])]⟩) (fun k=>g.es.length - k) 0 (by omega) ?_ ?_
 ·refine Le.of ?_ ?_<;>simp [go_sem,simprocAttr,aY]
 rintro k hk
 rcases Nat.lt_or_ge k g.es.length with hlt|hge
 rotate_left
 ·have hb:decide ((k:Int)<(g.es.length:Int))=false:=decide_eq_false (by omega)
  obtain rfl:k=g.es.length:=by omega
  obtain ⟨i1,_⟩:=fW hm hG (Nat.le_refl g.es.length)
  have IJ:=wZ hm hG
  have BO:=ig (g:=g) (both:=both) (c:=c) (a:=a) (k:=g.es.length)
  have hdone:=yy hm hG
  have Cn:=hM _ i1
  generalize aY g both c a g.es.length=R at*
  repeat' (first|refine Rn.p ?_|(with_reducible apply And.intro)|((first|(refine hK _ ?_;clear hK K)|with_reducible intro K hK|refine Rs.p ?_|((with_reducible first|apply oP|apply oQ);exact rfl));try simp only [go_sem,simprocAttr,hb])|((with_reducible refine oD ?_ ?_);kernel_rfl)|((with_reducible intro h);try simp only [go_sem,simprocAttr,hb] at h)|omega|intro h)
  refine ⟨(R.1,R.2),⟨i1,fun hf=> ?_⟩, ?_, ?_⟩
  ·rw [(BO hf).1];exact hdone hf
  ·refine Le.of ?_ ?_<;>simp [go_sem,simprocAttr,hb]
  ·cases O0:R.2 with
   |true=>have:=IJ O0;simp;omega
   |false=>rw [(BO O0).1];simp
 have hb:decide ((k:Int)<(g.es.length:Int))=true:=decide_eq_true (by omega)
 obtain ⟨Ko,_⟩:=fW hm hG (k:=k) (by omega)
 obtain ⟨ht,hh⟩:=cM hm hlt
 have Ga:=hF k hlt
 have w5:=Ko.len
 have sC:=Ko.lt (by omega)
 obtain ⟨x,hx⟩:∃x:Nat,(g.es.getD k (0,0)).1=x:=⟨(g.es.getD k (0,0)).1.toNat,by omega⟩
 obtain ⟨y,hy⟩:∃y:Nat,(g.es.getD k (0,0)).2=y:=⟨(g.es.getD k (0,0)).2.toNat,by omega⟩
 have htl:(tl g k).toNat=x:=by show ((g.es.getD k (0,0)).1).toNat=x;rw [hx];rfl
 have J9:(hd g k).toNat=y:=by show ((g.es.getD k (0,0)).2).toNat=y;rw [hy];rfl
 have cE:aY g both c a (k+1)=if c k=true then ((((aY g both c a k).1.set x ((aY g both c a k).1.getD x 0 ||| (aY g both c a k).1.getD y 0)).set y (if both=true then (aY g both c a k).1.getD x 0 ||| (aY g both c a k).1.getD y 0 else (aY g both c a k).1.getD y 0)),(aY g both c a k).2||(decide ((aY g both c a k).1.getD x 0 ||| (aY g both c a k).1.getD y 0≠(aY g both c a k).1.getD x 0)||decide ((if both=true then (aY g both c a k).1.getD x 0 ||| (aY g both c a k).1.getD y 0 else (aY g both c a k).1.getD y 0)≠(aY g both c a k).1.getD y 0))) else aY g both c a k:=by
  simp only [aY,htl,J9]
 generalize aY g both c a k=R at Ko w5 sC cE
 obtain ⟨A,m1⟩:=R
 simp only at Ko w5 sC cE ⊢
 have O2:=sC x
 have R5:=sC y
 cases hc:c k with
 |false=>
  rw [hc] at Ga cE
  repeat' (first|refine Rn.p ?_|(with_reducible apply And.intro)|((first|(refine hK _ ?_;clear hK K)|with_reducible intro K hK|refine Rs.p ?_|((with_reducible first|apply oP|apply oQ);exact rfl)|(refine bC hX hC hP [(10001,10001)] (Ga) rfl rfl rfl ?_ ?_ ?_ ?_ ?_ ?_ rfl rfl ?_ ?_;(focus (simp only [go_sem,simprocAttr,hb,hx,hy];done));(iterate 6 (focus (simp [go_sem,simprocAttr,hb,hx,hy];done)));try simp only [List.map_cons,List.map_nil]));try simp only [go_sem,simprocAttr,hb,hx,hy])|((with_reducible refine oD ?_ ?_);kernel_rfl)|((with_reducible intro h);try simp only [go_sem,simprocAttr,hb,hx,hy] at h)|omega|intro h)
  refine ⟨k+1,by omega, ?_,by omega⟩
  rw [cE]
  refine Le.of ?_ ?_<;>simp [go_sem,simprocAttr,hb,hx,hy]
 |true=>
  rw [hc] at Ga cE
  rw [if_pos rfl] at cE
  have n1:=PX (a:=A.getD x 0 ||| A.getD y 0) (b:=A.getD x 0)
  have n2:=PX (a:=if both=true then A.getD x 0 ||| A.getD y 0 else A.getD y 0) (b:=A.getD y 0)
  have Mu:A.getD x 0 ||| A.getD y 0<18446744073709551616:=Nat.or_lt_two_pow (n:=64) O2 R5
  have Cd:(A.set x (A.getD x 0 ||| A.getD y 0)).length=A.length:=List.length_set ..
  generalize tP:A.getD x 0 ||| A.getD y 0=t at n1 n2 cE Mu Cd
  generalize Jo:decide (t≠A.getD x 0)=d1 at n1 cE
  cases both with
  |true=>
   rw [if_pos rfl] at n2 cE
   generalize rC:decide (t≠A.getD y 0)=d2 at n2 cE
   clear Jo rC
   cases m1<;>cases d1<;>cases d2<;>simp only [Bool.or_false,Bool.or_true,Bool.false_or,Bool.true_or] at cE
   all_goals (repeat' (first|refine Rn.p ?_|(with_reducible apply And.intro)|((first|(refine hK _ ?_;clear hK K)|with_reducible intro K hK|refine Rs.p ?_|((with_reducible first|apply oP|apply oQ);exact rfl)|(refine bC hX hC hP [(10001,10001)] (Ga) rfl rfl rfl ?_ ?_ ?_ ?_ ?_ ?_ rfl rfl ?_ ?_;(focus (simp only [go_sem,simprocAttr,hb,hx,hy,tP,n1,n2,w5,ee,List.length_set];done));(iterate 6 (focus (simp [go_sem,simprocAttr,hb,hx,hy,tP,n1,n2,w5,ee,List.length_set];done)));try simp only [List.map_cons,List.map_nil]));try simp only [go_sem,simprocAttr,hb,hx,hy,tP,n1,n2,w5,ee,List.length_set])|((with_reducible refine oD ?_ ?_);kernel_rfl)|((with_reducible intro h);try simp only [go_sem,simprocAttr,hb,hx,hy,tP,n1,n2,w5,ee,List.length_set] at h)|omega|intro h))
   all_goals (refine ⟨k+1,by omega, ?_,by omega⟩)
   all_goals (rw [cE])
   all_goals (refine Le.of ?_ ?_<;>simp [go_sem,simprocAttr,hb,hx,hy,tP,n1,n2,w5,ee,List.length_set])
  |false=>
   rw [if_neg (by simp)] at n2 cE
   have rC:decide (A.getD y 0≠A.getD y 0)=false:=decide_eq_false fun h=>h rfl
   rw [rC] at n2 cE
   clear Jo
   cases m1<;>cases d1<;>simp only [Bool.or_false,Bool.or_true,Bool.false_or,Bool.true_or] at cE
   all_goals (repeat' (first|refine Rn.p ?_|(with_reducible apply And.intro)|((first|(refine hK _ ?_;clear hK K)|with_reducible intro K hK|refine Rs.p ?_|((with_reducible first|apply oP|apply oQ);exact rfl)|(refine bC hX hC hP [(10001,10001)] (Ga) rfl rfl rfl ?_ ?_ ?_ ?_ ?_ ?_ rfl rfl ?_ ?_;(focus (simp only [go_sem,simprocAttr,hb,hx,hy,tP,n1,n2,w5,ee,List.length_set];done));(iterate 6 (focus (simp [go_sem,simprocAttr,hb,hx,hy,tP,n1,n2,w5,ee,List.length_set];done)));try simp only [List.map_cons,List.map_nil]));try simp only [go_sem,simprocAttr,hb,hx,hy,tP,n1,n2,w5,ee,List.length_set])|((with_reducible refine oD ?_ ?_);kernel_rfl)|((with_reducible intro h);try simp only [go_sem,simprocAttr,hb,hx,hy,tP,n1,n2,w5,ee,List.length_set] at h)|omega|intro h))
   all_goals (refine ⟨k+1,by omega, ?_,by omega⟩)
   all_goals (rw [cE])
   all_goals (refine Le.of ?_ ?_<;>simp [go_sem,simprocAttr,hb,hx,hy,tP,n1,n2,w5,ee,List.length_set])
theorem IK (i k:Int):Spec Tryz.prog 87 (Args [eN k, .ptr 10001 0]) [(10001, .rob [eN i])] (eB (!decide (k=i))) [(10001, .rob [eN i])]:=by
 (refine Spec.hd (C:=T.cfg [] []) (rs:= [.t 3]) (T.aj _ _) Tryz.func87 rfl rfl Tryz.ntmps87 Tryz.results87 (by simp [AObj.isNest]) (by simp [AObj.isNest]) (by kernel_rfl) T.mixed fun X hX hP hC aP bV=> ?_)
 repeat' (first|refine Rn.p ?_|(with_reducible apply And.intro)|((first|(refine hK _ ?_;clear hK K)|with_reducible intro K hK|refine Rs.p ?_|((with_reducible first|apply oP|apply oQ);exact rfl));try simp only [go_sem,simprocAttr])|((with_reducible refine oD ?_ ?_);kernel_rfl)|((with_reducible intro h);try simp only [go_sem,simprocAttr] at h)|omega|intro h)
def z2 (i:Nat) (k:Nat):Bool:= !decide ((k:Int)=(i:Int))
noncomputable def Gb (g:Gr) (i:Nat):Bool:=((Aj g false (z2 i)).getD (tl g i).toNat 0).testBit (hd g i).toNat
noncomputable def D5 (g:Gr) (k:Nat):List Int:=((List.range k).filter fun i=>Gb g i).map fun i:Nat=>(i:Int)
noncomputable def gC (g:Gr):List Int:=if aG g=true then D5 g g.es.length else []
theorem qU {g:Gr} {k:Nat} :D5 g (k+1)=if Gb g k=true then D5 g k++ [(k:Int)] else D5 g k:=by
 unfold D5
 rw [List.range_succ,List.filter_append,List.map_append]
 cases h:Gb g k with
 |true=>rw [if_pos rfl,List.filter_cons,if_pos h];rfl
 |false=>rw [if_neg (by simp),List.filter_cons,if_neg (by rw [h];decide)];simp
theorem D6 {g:Gr} {k:Nat} :(D5 g k).length≤k:=by
 unfold D5
 rw [List.length_map]
 exact Nat.le_trans (List.length_filter_le _ _) (by simp)
theorem D7 (g:Gr) (hl:g.es.length≤9223372036854775807):Spec Tryz.prog 42 (Args [eG g]) [] (.d (sI (gC g))) []:=by
 have hE:=w4 g hl
 (refine Spec.hd (C:=T.cfg [200,34,33] []) (rs:= [.t 2]) (T.aj _ _) Tryz.func42 rfl rfl Tryz.ntmps42 Tryz.results42 (by simp [AObj.isNest]) (by simp [AObj.isNest]) (by kernel_rfl) T.mixed fun X hX hP hC aP bV=> ?_)
 repeat' (first|(show bY _ (.seq (.region 1 _ _) _) _ _;(refine dU hX 2 200 (.own 3 1 []) ?_ ?_ (by decide) ⟨3,1,by decide, .inl rfl⟩ ?_;(iterate 2 (focus (simp only [go_sem,simprocAttr];done)));simp only [go_sem,simprocAttr]))|refine Rn.p ?_|(with_reducible apply And.intro)|((first|(refine hK _ ?_;clear hK K)|with_reducible intro K hK|refine Rs.p ?_|((with_reducible first|apply oP|apply oQ);exact rfl));try simp only [go_sem,simprocAttr])|((with_reducible refine oD ?_ ?_);kernel_rfl)|((with_reducible intro h);try simp only [go_sem,simprocAttr] at h)|omega|intro h)
 have hm0:aG g=false→gC g= []:=fun h=>by unfold gC;rw [h];rfl
 cases hm:aG g with
 |false=>
  have hU:fX g= []:=by unfold fX;rw [hm];rfl
  rw [hU] at hE
  rw [hm0 hm]
  cases Cb:g.es with
  |nil=>
   refine ai (fun k:Nat=>k=0) (fun _=>⟨[(1, .ptr 1 0),(2, .ref 200),(7, .d (sE [])),(8,eN 0),(9,eN 0)], [(1, .box [eN g.n, .d (sE [])]),(200, .own 3 1 [])]⟩) (fun _=>0) 0 rfl ?_ ?_
   ·refine Le.of ?_ ?_<;>simp [go_sem,simprocAttr,Cb]
   rintro k rfl
   repeat' (first|refine Rn.p ?_|(with_reducible apply And.intro)|((first|(refine hK _ ?_;clear hK K)|with_reducible intro K hK|refine Rs.p ?_|((with_reducible first|apply oP|apply oQ);exact rfl));try simp only [go_sem,simprocAttr])|((with_reducible refine oD ?_ ?_);kernel_rfl)|((with_reducible intro h);try simp only [go_sem,simprocAttr] at h)|omega|intro h)
  |cons q r=>
   have hq:g.es.length=r.length+1:=by rw [Cb];rfl
   have hb:decide ((0:Int)<((r.length+1:Nat):Int))=true:=decide_eq_true (by omega)
   refine ai (fun k:Nat=>k=0) (fun _=>⟨[(1, .ptr 1 0),(2, .ref 200),(7, .d (sE g.es)),(8,eN ((r.length+1:Nat):Int)),(9,eN 0)], [(1, .box [eN g.n, .d (sE g.es)]),(200, .own 3 1 [])]⟩) (fun _=>0) 0 rfl ?_ ?_
   ·refine Le.of ?_ ?_<;>simp [go_sem,simprocAttr,Cb]
   rintro k rfl
   repeat' (first|refine Rn.p ?_|(with_reducible apply And.intro)|((first|(refine hK _ ?_;clear hK K)|with_reducible intro K hK|refine Rs.p ?_|((with_reducible first|apply oP|apply oQ);exact rfl)|(refine eM hX hC hP 15 (hE) rfl rfl rfl ?_ ?_ (by first|exact ⟨_,_,_,rfl,qx⟩|exact ⟨_,_,_,rfl,qy⟩|exact ⟨_,_,_,rfl,qA⟩) rfl (by decide) ?_;(iterate 2 (focus (simp only [go_sem,simprocAttr,hb];done)));simp only [go_sem,simprocAttr,hb]));try simp only [go_sem,simprocAttr,hb])|((with_reducible refine oD ?_ ?_);kernel_rfl)|((with_reducible intro h);try simp only [go_sem,simprocAttr,hb] at h)|omega|intro h)
 |true=>
  have hn:=aA hm
  have he:(fX g).length=g.n.toNat:=by unfold fX;rw [if_pos hm];exact qT
  have hb0:decide ((g.n.toNat:Int)=0)=false:=decide_eq_false (by omega)
  have hT:gC g=D5 g g.es.length:=if_pos hm
  rw [hT]
  have hG:=fun i:Nat=>CX g hm false (z2 i) 87 (i:Int) (fun k _=>IK (i:Int) (k:Int)) (fX g) (yA hm)
  generalize fX g=U at hE he hG
  refine ai (fun k:Nat=>k≤g.es.length) (fun k=>⟨[(1, .ptr 1 0),(2, .ref 200),(7, .d (sE g.es)),(8,eN g.es.length),(9,eN k)], [(1, .box [eN g.n, .d (sE g.es)]),(200, .own 3 1 ((D5 g k).map rI))]⟩) (fun k=>g.es.length - k) 0 (by omega) ?_ ?_
  ·refine Le.of ?_ ?_<;>simp [go_sem,simprocAttr,D5]
  rintro k hk
  rcases Nat.lt_or_ge k g.es.length with hlt|hge
  rotate_left
  ·have hb:decide ((k:Int)<(g.es.length:Int))=false:=decide_eq_false (by omega)
   obtain rfl:k=g.es.length:=by omega
   repeat' (first|refine Rn.p ?_|(with_reducible apply And.intro)|((first|(refine hK _ ?_;clear hK K)|with_reducible intro K hK|refine Rs.p ?_|((with_reducible first|apply oP|apply oQ);exact rfl));try simp only [go_sem,simprocAttr,hb])|((with_reducible refine oD ?_ ?_);kernel_rfl)|((with_reducible intro h);try simp only [go_sem,simprocAttr,hb] at h)|omega|intro h)
  have hb:decide ((k:Int)<(g.es.length:Int))=true:=decide_eq_true (by omega)
  have R6:=hG k
  have cE:=qU (g:=g) (k:=k)
  have HB:=D6 (g:=g) (k:=k)
  obtain ⟨ht,hh⟩:=cM hm hlt
  obtain ⟨x,hx⟩:∃x:Nat,(g.es.getD k (0,0)).1=x:=⟨(g.es.getD k (0,0)).1.toNat,by omega⟩
  obtain ⟨y,hy⟩:∃y:Nat,(g.es.getD k (0,0)).2=y:=⟨(g.es.getD k (0,0)).2.toNat,by omega⟩
  rw [hx] at ht
  rw [hy] at hh
  have Nn:Gb g k=((Aj g false (z2 k)).getD x 0).testBit y:=by
   unfold Gb
   rw [show (tl g k).toNat=x by show ((g.es.getD k (0,0)).1).toNat=x;rw [hx];rfl,show (hd g k).toNat=y by show ((g.es.getD k (0,0)).2).toNat=y;rw [hy];rfl]
  have hrl:(Aj g false (z2 k)).length=g.n.toNat:=qS
  have hH:=yz ((Aj g false (z2 k)).getD x 0) (by
   rw [sF (by omega)]
   exact Nat.lt_of_lt_of_le DZ (Nat.pow_le_pow_right (by decide) (show g.n.toNat≤64 by omega))) (y:Int)
  rw [show (decide ((0:Int)≤(y:Int))&&decide ((y:Int)<64)&&((Aj g false (z2 k)).getD x 0).testBit ((y:Int)).toNat)=Gb g k by
   rw [Nn,decide_eq_true (show (0:Int)≤(y:Int) by omega),decide_eq_true (show (y:Int)<64 by omega)];rfl] at hH
  generalize Aj g false (z2 k)=R at R6 hrl hH
  generalize D5 g k=O at cE HB
  cases hB:Gb g k with
  |true=>
   rw [hB] at hH
   rw [hB,if_pos rfl] at cE
   repeat' (first|(show bY _ (.region 10 _ _) _ _;(refine rO hX 2 34 200 (by simp only [go_sem,simprocAttr,hb,hb0,he,hx,hy,hrl]) rfl (by first|exact .inl rfl|exact .inr rfl) (by decide) ?_;simp only [go_sem,simprocAttr,hb,hb0,he,hx,hy,hrl]))|refine Rn.p ?_|(with_reducible apply And.intro)|((first|(refine hK _ ?_;clear hK K)|with_reducible intro K hK|refine Rs.p ?_|((with_reducible first|apply oP|apply oQ);exact rfl)|(refine eM hX hC hP 15 (hE) rfl rfl rfl ?_ ?_ (by first|exact ⟨_,_,_,rfl,qx⟩|exact ⟨_,_,_,rfl,qy⟩|exact ⟨_,_,_,rfl,qA⟩) rfl (by decide) ?_;(iterate 2 (focus (simp only [go_sem,simprocAttr,hb,hb0,he,hx,hy,hrl];done)));simp only [go_sem,simprocAttr,hb,hb0,he,hx,hy,hrl])|(refine au hX hC hP [(10000,15),(10001,3)] (R6) rfl rfl rfl ?_ ?_ ?_ ?_ ?_ ?_ ?_ ?_ ?_ ?_ ?_ ?_ ?_ ?_;(focus (simp only [go_sem,simprocAttr,hb,hb0,he,hx,hy,hrl];done));(iterate 12 (focus (simp [go_sem,simprocAttr,hb,hb0,he,hx,hy,hrl];done)));try simp only [List.map_cons,List.map_nil])|refine aa hX hC hP (hH) rfl rfl rfl (by simp only [go_sem,simprocAttr,hb,hb0,he,hx,hy,hrl]) rfl ?_);try simp only [go_sem,simprocAttr,hb,hb0,he,hx,hy,hrl])|((with_reducible refine oD ?_ ?_);kernel_rfl)|((with_reducible intro h);try simp only [go_sem,simprocAttr,hb,hb0,he,hx,hy,hrl] at h)|omega|intro h)
   refine ⟨k+1,by omega, ?_,by omega⟩
   rw [cE]
   refine Le.of ?_ ?_<;>simp [go_sem,simprocAttr,hb,hb0,he,hx,hy,hrl,rI]
  |false=>
   rw [hB] at hH
   rw [hB,if_neg (by simp)] at cE
   repeat' (first|refine Rn.p ?_|(with_reducible apply And.intro)|((first|(refine hK _ ?_;clear hK K)|with_reducible intro K hK|refine Rs.p ?_|((with_reducible first|apply oP|apply oQ);exact rfl)|(refine eM hX hC hP 15 (hE) rfl rfl rfl ?_ ?_ (by first|exact ⟨_,_,_,rfl,qx⟩|exact ⟨_,_,_,rfl,qy⟩|exact ⟨_,_,_,rfl,qA⟩) rfl (by decide) ?_;(iterate 2 (focus (simp only [go_sem,simprocAttr,hb,hb0,he,hx,hy,hrl];done)));simp only [go_sem,simprocAttr,hb,hb0,he,hx,hy,hrl])|(refine au hX hC hP [(10000,15),(10001,3)] (R6) rfl rfl rfl ?_ ?_ ?_ ?_ ?_ ?_ ?_ ?_ ?_ ?_ ?_ ?_ ?_ ?_;(focus (simp only [go_sem,simprocAttr,hb,hb0,he,hx,hy,hrl];done));(iterate 12 (focus (simp [go_sem,simprocAttr,hb,hb0,he,hx,hy,hrl];done)));try simp only [List.map_cons,List.map_nil])|refine aa hX hC hP (hH) rfl rfl rfl (by simp only [go_sem,simprocAttr,hb,hb0,he,hx,hy,hrl]) rfl ?_);try simp only [go_sem,simprocAttr,hb,hb0,he,hx,hy,hrl])|((with_reducible refine oD ?_ ?_);kernel_rfl)|((with_reducible intro h);try simp only [go_sem,simprocAttr,hb,hb0,he,hx,hy,hrl] at h)|omega|intro h)
   refine ⟨k+1,by omega, ?_,by omega⟩
   rw [cE]
   refine Le.of ?_ ?_<;>simp [go_sem,simprocAttr,hb,hb0,he,hx,hy,hrl]
end Go.Ab
end
section
namespace Go.Ab
open Go.Proofs
attribute [local congr] ACall.congr gd.congr Nx.congr
set_option maxRecDepth 10000
set_option maxHeartbeats 8000000
def swapT (l:List It) (k:Nat):List It:=(List.range l.length).map fun p=>if p<k∨l.length - 1<p+k then l.getD (l.length - 1 - p) (0,0,0) else l.getD p (0,0,0)
theorem di {l:List It} {k:Nat} :(swapT l k).length=l.length:=by simp [swapT]
theorem lC {l:List It} {k p:Nat} (h:p<l.length):(swapT l k)[p]? =some (if p<k∨l.length - 1<p+k then l.getD (l.length - 1 - p) (0,0,0) else l.getD p (0,0,0)):=by
 simp [swapT,List.getElem?_range h]
theorem w6 {l:List It} {k p:Nat} (h:p<l.length) (d:It):(swapT l k).getD p d=if p<k∨l.length - 1<p+k then l.getD (l.length - 1 - p) (0,0,0) else l.getD p (0,0,0):=by
 rw [List.getD_eq_getElem?_getD,lC h];rfl
theorem CY {l:List It} :swapT l 0=l:=by
 refine List.ext_getElem? fun i=> ?_
 by_cases hi:i<l.length
 ·rw [lC hi,if_neg (by omega),List.getD_eq_getElem?_getD,List.getElem?_eq_getElem hi];rfl
 ·rw [List.getElem?_eq_none (by rw [di];omega),List.getElem?_eq_none (by omega)]
theorem FO {l:List It} {k:Nat} (h:l.length≤2*k+1):swapT l k=l.reverse:=by
 refine List.ext_getElem? fun i=> ?_
 by_cases hi:i<l.length
 ·rw [lC hi,List.getElem?_reverse hi]
  split
  ·rw [List.getD_eq_getElem?_getD,List.getElem?_eq_getElem (by omega)];rfl
  ·have:i=l.length - 1 - i:=by omega
   rw [← this,List.getD_eq_getElem?_getD,List.getElem?_eq_getElem hi];rfl
 ·rw [List.getElem?_eq_none (by rw [di];omega),List.getElem?_eq_none (by rw [List.length_reverse];omega)]
theorem CZ {l:List It} {k:Nat} (h:k<l.length - 1 - k):((swapT l k).set k ((swapT l k).getD (l.length - 1 - k) (0,0,0))).set (l.length - 1 - k) ((swapT l k).getD k (0,0,0))=swapT l (k+1):=by
 refine List.ext_getElem? fun i=> ?_
 rw [List.getElem?_set,List.length_set,di,List.getElem?_set,di]
 by_cases hi:i<l.length
 ·rw [lC hi,lC hi,w6 (by omega),w6 (by omega)]
  by_cases h1:l.length - 1 - k=i
  ·rw [if_pos h1,if_pos (by omega),if_neg (by omega),if_pos (by omega)]
   congr 2;omega
  ·rw [if_neg h1]
   by_cases h2:k=i
   ·rw [if_pos h2,if_pos (by omega),if_neg (by omega),if_pos (by omega)]
    congr 2;omega
   ·rw [if_neg h2]
    congr 1
    by_cases h3:i<k∨l.length - 1<i+k
    ·rw [if_pos h3,if_pos (by omega)]
    ·rw [if_neg h3,if_neg (by omega)]
 ·rw [List.getElem?_eq_none (by rw [di];omega),List.getElem?_eq_none (by rw [di];omega),if_neg (by omega),if_neg (by omega)]
theorem IL (l:List It) (k:Nat) (t:It):(l.map rT).set k [.sc (.int .i64 t.1), .sc (.int .i64 t.2.1), .sc (.int .i64 t.2.2)]=(l.set k t).map rT:=by
 rw [List.map_set];rfl
theorem xE (l:List It) (hl:l.length≤1000000):Spec Tryz.prog 63 (Args [.ref 10000]) [(10000, .own 100 3 (l.map rT))] (.tup []) [(10000, .own 100 3 (l.reverse.map rT))]:=by
 (refine Spec.hd (C:=T.cfg [] []) (rs:= []) (T.aj _ _) Tryz.func63 rfl rfl Tryz.ntmps63 Tryz.results63 (by simp [AObj.isNest]) (by simp [AObj.isNest]) (by kernel_rfl) T.mixed fun X hX hP hC aP bV=> ?_)
 repeat' (first|refine Rn.p ?_|(with_reducible apply And.intro)|((first|(refine hK _ ?_;clear hK K)|with_reducible intro K hK|refine Rs.p ?_|((with_reducible first|apply oP|apply oQ);exact rfl));try simp only [go_sem,simprocAttr])|((with_reducible refine oD ?_ ?_);kernel_rfl)|((with_reducible intro h);try simp only [go_sem,simprocAttr] at h)|omega|intro h)
 refine ai (fun k:Nat=>2*k≤l.length+1) (fun k=>⟨[(0, .ref 10000),(2,eN k),(3,eN ((l.length:Int) - 1 - k))], [(10000, .own 100 3 ((swapT l k).map rT))]⟩) (fun k=>l.length+1 - k) 0 (by omega) ?_ ?_
 ·refine Le.of ?_ ?_<;>simp [go_sem,simprocAttr,CY]
 rintro k hk
 rcases Nat.lt_or_ge (2*k+1) l.length with hlt|hge
 ·have hb:decide ((k:Int)<(l.length:Int) - 1 - (k:Int))=true:=decide_eq_true (by omega)
  have ht:((l.length:Int) - 1 - (k:Int)).toNat=l.length - 1 - k:=by omega
  repeat' (first|refine Rn.p ?_|(with_reducible apply And.intro)|((first|(refine hK _ ?_;clear hK K)|with_reducible intro K hK|refine Rs.p ?_|((with_reducible first|apply oP|apply oQ);exact rfl));try simp only [go_sem,simprocAttr,hb,ht,di,IL,List.length_cons,List.length_nil,List.drop_succ_cons,List.drop_zero,List.drop_nil])|((with_reducible refine oD ?_ ?_);kernel_rfl)|((with_reducible intro h);try simp only [go_sem,simprocAttr,hb,ht,di,IL,List.length_cons,List.length_nil,List.drop_succ_cons,List.drop_zero,List.drop_nil] at h)|omega|intro h)
  refine ⟨k+1,by omega, ?_,by omega⟩
  refine Le.of ?_ ?_<;>simp [go_sem,simprocAttr]
  ·omega
  ·rw [← CZ (by omega),List.map_set,List.map_set]
   simp only [List.getD_eq_getElem?_getD]
   rfl
 ·have hb:decide ((k:Int)<(l.length:Int) - 1 - (k:Int))=false:=decide_eq_false (by omega)
  repeat' (first|refine Rn.p ?_|(with_reducible apply And.intro)|((first|(refine hK _ ?_;clear hK K)|with_reducible intro K hK|refine Rs.p ?_|((with_reducible first|apply oP|apply oQ);exact rfl));try simp only [go_sem,simprocAttr,hb])|((with_reducible refine oD ?_ ?_);kernel_rfl)|((with_reducible intro h);try simp only [go_sem,simprocAttr,hb] at h)|omega|intro h)
  simp only [go_sem,simprocAttr,hb,FO hge]
theorem BP (ps:List It) (hl:ps.length≤1000000):
 Spec Tryz.prog 127 (Args [.d (sT ps)]) [] (.ref 10000) [(10000, .own 100 3 (ps.map rT))]:=by
 (refine Spec.vf (C:=T.cfg [5,7] []) (rs:= [.t 2]) [(10000,7)] (T.aj _ _) Tryz.func127 rfl rfl Tryz.ntmps127 Tryz.results127 (by simp [AObj.isNest]) (by simp [AObj.isNest]) (by first|(simp [look];done)|(simp [asN];done)|(intro l hl;simp only [asN];repeat (rw [if_neg (fun e=>by subst e;simp [look] at hl)]))) (by first|(simp [look];done)|(simp [asN];done)|(intro l hl;simp only [asN];repeat (rw [if_neg (fun e=>by subst e;simp [look] at hl)]))) (by kernel_rfl) T.mixed fun X hX hP hC aP bV=> ?_)
 repeat' (first|(show bY _ .ret _ _;(try simp only [go_sem,simprocAttr]);refine dU hX 2 7 (.own 100 3 []) ?_ ?_ (by decide) ⟨100,3,by decide, .inl rfl⟩ ?_;(iterate 2 (focus (simp only [go_sem,simprocAttr];done)));simp only [go_sem,simprocAttr])|refine Rn.p ?_|(with_reducible apply And.intro)|((first|(refine hK _ ?_;clear hK K)|with_reducible intro K hK|refine Rs.p ?_|((with_reducible first|apply oP|apply oQ);exact rfl));try simp only [go_sem,simprocAttr])|((with_reducible refine oD ?_ ?_);kernel_rfl)|((with_reducible intro h);try simp only [go_sem,simprocAttr] at h)|omega|intro h)
 exact h.symm
theorem FP (ds:List D) (row:List It) (hr:row.length≤1000000):Spec Tryz.prog 84 (Args [.d (.pt (sT row::ds))]) [] (.ref 10000) [(10000, .own 100 3 (row.map rT))]:=by
 (refine Spec.vf (C:=T.cfg [] []) (rs:= [.t 2]) [(10000,7)] (T.aj _ _) Tryz.func84 rfl rfl Tryz.ntmps84 Tryz.results84 (by simp [AObj.isNest]) (by simp [AObj.isNest]) (by first|(simp [look];done)|(simp [asN];done)|(intro l hl;simp only [asN];repeat (rw [if_neg (fun e=>by subst e;simp [look] at hl)]))) (by first|(simp [look];done)|(simp [asN];done)|(intro l hl;simp only [asN];repeat (rw [if_neg (fun e=>by subst e;simp [look] at hl)]))) (by kernel_rfl) T.mixed fun X hX hP hC aP bV=> ?_)
 repeat' (first|refine Rn.p ?_|(with_reducible apply And.intro)|((first|(refine hK _ ?_;clear hK K)|with_reducible intro K hK|refine Rs.p ?_|((with_reducible first|apply oP|apply oQ);exact rfl)|(refine au hX hC hP [(10000,7)] (BP row hr) rfl rfl rfl ?_ ?_ ?_ ?_ ?_ ?_ ?_ ?_ ?_ ?_ ?_ ?_ ?_ ?_;(focus (simp only [go_sem,simprocAttr];done));(iterate 12 (focus (simp [go_sem,simprocAttr];done)));try simp only [List.map_cons,List.map_nil]));try simp only [go_sem,simprocAttr])|((with_reducible refine oD ?_ ?_);kernel_rfl)|((with_reducible intro h);try simp only [go_sem,simprocAttr] at h)|omega|intro h)
def yC (rs:List Int) (l:List It):Int:=match l.find? (fun t=>decide (t.2.2∈rs)) with
 |some t=>t.2.2
 |none=>rs.headD (-1)
theorem FQ (rs:List Int) (l:List It) (hr:rs≠ []) (hrl:rs.length≤1000000) (hl:l.length≤1000000):Spec Tryz.prog 112 (Args [.d (sI rs), .d (sT l)]) [] (eN (yC rs l)) []:=by
 generalize hH:yC rs l=H
 (refine Spec.hd (C:=T.cfg [] []) (rs:= [.t 4]) (T.aj _ _) Tryz.func112 rfl rfl Tryz.ntmps112 Tryz.results112 (by simp [AObj.isNest]) (by simp [AObj.isNest]) (by kernel_rfl) T.mixed fun X hX hP hC aP bV=> ?_)
 repeat' (first|refine Rn.p ?_|(with_reducible apply And.intro)|((first|(refine hK _ ?_;clear hK K)|with_reducible intro K hK|refine Rs.p ?_|((with_reducible first|apply oP|apply oQ);exact rfl));try simp only [go_sem,simprocAttr])|((with_reducible refine oD ?_ ?_);kernel_rfl)|((with_reducible intro h);try simp only [go_sem,simprocAttr] at h)|omega|intro h)
 refine ai (fun k:Nat=>k≤l.length∧∀j,j<k→(l.getD j (0,0,0)).2.2∉rs) (fun k=>⟨[(0, .d (sI rs)),(7, .d (sT l)),(8,eN l.length),(9,eN k)], []⟩) (fun k=>l.length - k) 0 (by simp) ?_ ?_
 ·(refine Le.of ?_ ?_<;>simp [go_sem,simprocAttr])
 rintro k ⟨hk,hg⟩
 rcases Nat.lt_or_ge k l.length with cB|Ln
 ·have hb:decide ((k:Int)<(l.length:Int))=true:=decide_eq_true (by omega)
  by_cases h1:(l.getD k (0,0,0)).2.2∈rs
  ·have hb1:decide ((l.getD k (0,0,0)).2.2∈rs)=true:=decide_eq_true h1
   have:(l.getD k (0,0,0)).2.2=H:=by
    rw [← hH];unfold yC
    have:l.find? (fun t=>decide (t.2.2∈rs))=some (l.getD k (0,0,0)):=by
     rw [List.find?_eq_some_iff_getElem]
     refine ⟨hb1,k,cB,by rw [List.getD_eq_getElem?_getD,List.getElem?_eq_getElem cB];rfl,fun j hj=> ?_⟩
     have:=hg j hj
     rw [List.getD_eq_getElem?_getD,List.getElem?_eq_getElem (by omega)] at this
     simpa using this
    rw [this]
   have hb2:decide (H∈rs)=true:=by rw [← this];exact hb1
   repeat' (first|refine Rn.p ?_|(with_reducible apply And.intro)|((first|(refine hK _ ?_;clear hK K)|with_reducible intro K hK|refine Rs.p ?_|((with_reducible first|apply oP|apply oQ);exact rfl)|refine aa hX hC hP (bn rs H (by omega)) rfl rfl rfl (by simp only [go_sem,simprocAttr,hb,hb2,this]) rfl ?_);try simp only [go_sem,simprocAttr,hb,hb2,this])|((with_reducible refine oD ?_ ?_);kernel_rfl)|((with_reducible intro h);try simp only [go_sem,simprocAttr,hb,hb2,this] at h)|omega|intro h)
  ·have hb1:decide ((l.getD k (0,0,0)).2.2∈rs)=false:=decide_eq_false h1
   repeat' (first|refine Rn.p ?_|(with_reducible apply And.intro)|((first|(refine hK _ ?_;clear hK K)|with_reducible intro K hK|refine Rs.p ?_|((with_reducible first|apply oP|apply oQ);exact rfl)|refine aa hX hC hP (bn rs (l.getD k (0,0,0)).2.2 (by omega)) rfl rfl rfl (by simp only [go_sem,simprocAttr,hb,hb1]) rfl ?_);try simp only [go_sem,simprocAttr,hb,hb1])|((with_reducible refine oD ?_ ?_);kernel_rfl)|((with_reducible intro h);try simp only [go_sem,simprocAttr,hb,hb1] at h)|omega|intro h)
   refine ⟨k+1,⟨by omega,fun j hj=> ?_⟩, ?_,by omega⟩
   ·by_cases e:j=k
    ·subst e;exact h1
    ·exact hg j (by omega)
   ·(refine Le.of ?_ ?_<;>simp [go_sem,simprocAttr,hb,hb1])
 ·have hb:decide ((k:Int)<(l.length:Int))=false:=decide_eq_false (by omega)
  have hpos:=List.length_pos_iff.2 hr
  have:rs.getD 0 0=H:=by
   rw [← hH];unfold yC
   have:l.find? (fun t=>decide (t.2.2∈rs))=none:=by
    rw [List.find?_eq_none]
    intro t ht
    obtain ⟨j,hj,rfl⟩:=List.mem_iff_getElem.1 ht
    have:=hg j (by omega)
    rw [List.getD_eq_getElem?_getD,List.getElem?_eq_getElem hj] at this
    simpa using this
   rw [this]
   match rs,hr with
   |a::_,_=>rfl
  repeat' (first|refine Rn.p ?_|(with_reducible apply And.intro)|((first|(refine hK _ ?_;clear hK K)|with_reducible intro K hK|refine Rs.p ?_|((with_reducible first|apply oP|apply oQ);exact rfl));try simp only [go_sem,simprocAttr,hb,this])|((with_reducible refine oD ?_ ?_);kernel_rfl)|((with_reducible intro h);try simp only [go_sem,simprocAttr,hb,this] at h)|omega|intro h)
end Go.Ab
end
section
namespace Go.Ab
open Go.Proofs
attribute [local congr] ACall.congr gd.congr Nx.congr
set_option maxRecDepth 10000
set_option maxHeartbeats 8000000
theorem Kq {g:Gr} (hm:aG g=true) {f:Fr} (hi:eo g f) (rev:Bool):yC (dY g f) (gG rev f.row)=dh g f rev:=by
 unfold yC dh
 have:(fun t:It=>decide (t.2.2∈dY g f))=fun t:It=>az g f t.2.2:=by
  funext t
  cases h:az g f t.2.2 with
  |true=>exact decide_eq_true ((iF hm hi).2 h)
  |false=>exact decide_eq_false fun h2=>by rw [(iF hm hi).1 h2] at h;cases h
 rw [this]
 rfl
theorem C0 (row:List It):Spec Tryz.prog 62 (Args [.ref 10000]) [(10000, .own 100 3 (row.map rT))] (.tup []) [(10000, .own 100 3 ((gG false row).map rT))]:=by
 (refine Spec.hd (C:=T.cfg [] []) (rs:= []) (T.aj _ _) Tryz.func62 rfl rfl Tryz.ntmps62 Tryz.results62 (by simp [AObj.isNest]) (by simp [AObj.isNest]) (by kernel_rfl) T.mixed fun X hX hP hC aP bV=> ?_)
 repeat' (first|refine Rn.p ?_|(with_reducible apply And.intro)|((first|(refine hK _ ?_;clear hK K)|with_reducible intro K hK|refine Rs.p ?_|((with_reducible first|apply oP|apply oQ);exact rfl));try simp only [go_sem,simprocAttr,gG])|((with_reducible refine oD ?_ ?_);kernel_rfl)|((with_reducible intro h);try simp only [go_sem,simprocAttr,gG] at h)|omega|intro h)
theorem C1 (row:List It) (hl:row.length≤1000000):Spec Tryz.prog 63 (Args [.ref 10000]) [(10000, .own 100 3 (row.map rT))] (.tup []) [(10000, .own 100 3 ((gG true row).map rT))]:=xE row hl
theorem yD (g:Gr) (p:Pl) (h:aN g p) (rev:Bool) (F:Nat) (O3:∀row:List It,row.length≤1000000→Spec Tryz.prog F (Args [.ref 10000]) [(10000, .own 100 3 (row.map rT))] (.tup []) [(10000, .own 100 3 ((gG rev row).map rT))]):
 Spec Tryz.prog 61 (Args [eG g, .d (.sl 1 (vI p.outs)), .fn F [] []]) [] (.d (sI (dL g p rev g.n.toNat))) []:=by
 have hm:=ag h.1
 have hn:=aA hm
 (refine Spec.hd (C:=T.cfg [] []) (rs:= [.t 6]) (T.aj _ _) Tryz.func61 rfl rfl Tryz.ntmps61 Tryz.results61 (by simp [AObj.isNest]) (by simp [AObj.isNest]) (by kernel_rfl) T.mixed fun X hX hP hC aP bV=> ?_)
 repeat' (first|(show bY _ (.seq (.region 3 _ _) _) _ _;(refine AX 15 0 3 rfl rfl rfl ?_;simp only [List.set_cons_zero,List.set_cons_succ,go_sem,simprocAttr]);(refine kI hX 15 2 200 (.tip 3 1 []) rfl rfl rfl (by simp only [go_sem,simprocAttr]) (by decide) (by simp [go_sem,simprocAttr]) ⟨3,1,by decide, .inr rfl⟩ ?_;simp only [List.set_cons_zero,List.set_cons_succ,go_sem,simprocAttr]))|refine Rn.p ?_|(with_reducible apply And.intro)|((first|(refine hK _ ?_;clear hK K)|with_reducible intro K hK|refine Rs.p ?_|((with_reducible first|apply oP|apply oQ);exact rfl)|(refine jx hX hC hP [(10000,15)] (rY g (by omega) h.1 hm) rfl rfl rfl ?_ ?_ ?_ ?_ ?_ ?_ ?_ ?_ ?_ ?_ ?_ ?_ ?_ ?_;(focus (simp only [go_sem,simprocAttr];done));(iterate 12 (focus (simp [go_sem,simprocAttr];done)));try simp only [List.map_cons,List.map_nil]));try simp only [go_sem,simprocAttr])|((with_reducible refine oD ?_ ?_);kernel_rfl)|((with_reducible intro h);try simp only [go_sem,simprocAttr] at h)|omega|intro h)
 have R7:List.replicate g.n.toNat [D.sc (.int .i64 0)]=(dL g p rev 0).map rI:=by rw [dL,List.map_replicate];rfl
 rw [R7]
 refine ai (fun k:Nat=>k≤g.n.toNat) (fun k=>⟨[(1, .d (.sl 1 (vI p.outs))),(2, .fn F [] []),(7, .ptr 15 0),(9, .ref 20),(22,eN g.n),(23,eN k)], [(15, .box [.d (sT (aS g p rev k).row), .d (vw g), .ref 200]),(200, .tip 3 1 ((aS g p rev k).pl.map rI)),(20, .own 3 1 ((dL g p rev k).map rI))]⟩) (fun k=>g.n.toNat - k) 0 (by omega) ?_ ?_
 ·refine Le.of ?_ ?_<;>simp [go_sem,simprocAttr,aS]
 rintro k hk
 obtain ⟨hi,bZ,_,hrl⟩:=fu h rev hk
 have hmul:k*(g.es.length+1)≤64*129:=Nat.mul_le_mul (by omega) (by omega)
 rcases Nat.lt_or_ge k g.n.toNat with cB|Ln
 rotate_left
 ·have hb:decide ((k:Int)<g.n)=false:=decide_eq_false (by omega)
  obtain rfl:k=g.n.toNat:=by omega
  repeat' (first|refine Rn.p ?_|(with_reducible apply And.intro)|((first|(refine hK _ ?_;clear hK K)|with_reducible intro K hK|refine Rs.p ?_|((with_reducible first|apply oP|apply oQ);exact rfl));try simp only [go_sem,simprocAttr,hb])|((with_reducible refine oD ?_ ?_);kernel_rfl)|((with_reducible intro h);try simp only [go_sem,simprocAttr,hb] at h)|omega|intro h)
 have hb:decide ((k:Int)<g.n)=true:=decide_eq_true (by omega)
 obtain ⟨hR,hne⟩:=mo h rev cB
 have KO:=aD hR
 have j0:(dY g (aS g p rev k)).length≤64:=by have:=vR (g:=g) (f:=aS g p rev k) (k:=g.n.toNat);unfold dY;omega
 have hpe:=Kq hm hi.toeo rev
 have hlo:(gG rev (aS g p rev k).row).length=(aS g p rev k).row.length:=by unfold gG;split<;>simp
 have PY:=FQ (dY g (aS g p rev k)) (gG rev (aS g p rev k).row) hne (by omega) (by omega)
 rw [hpe] at PY
 clear hpe
 have UW:=FP [vw g,sI (aS g p rev k).pl] (aS g p rev k).row (by omega)
 have S0:=O3 (aS g p rev k).row (by omega)
 have S1:=Bi g hm (aS g p rev k) (by omega) (by omega)
 have Mv:=bp h.2.1 KO.1 KO.2.1
 have tQ:=ue h.2.1 KO.1 KO.2.1
 have cE:aS g p rev (k+1)=(aC g (aS g p rev k) (dh g (aS g p rev k) rev) (bE p (dh g (aS g p rev k) rev))).2:=rfl
 have S2:dL g p rev (k+1)=(dL g p rev k).set (dh g (aS g p rev k) rev).toNat (k:Int):=rfl
 have xx:=jm (g:=g) (p:=p) (rev:=rev) (k:=k)
 generalize dh g (aS g p rev k) rev=x0 at*
 obtain ⟨x,rfl⟩:∃x:Nat,x0=x:=⟨x0.toNat,by omega⟩
 have hxl:x<p.outs.length:=by have:=h.2.1.1;omega
 have hv:=gv hxl
 have hla:bE p (x:Int)=p.outs.getD x []:=by unfold bE;rw [Int.toNat_natCast]
 rw [hla] at Mv tQ cE
 rw [Int.toNat_natCast] at S2
 have Fz:=s8 g hm (aS g p rev k) hi (x:Int) (p.outs.getD x []) (by omega) (by omega) (by omega)
 have hpk:gu g (aS g p rev k) (x:Int) (p.outs.getD x [])=aC g (aS g p rev k) (x:Int) (p.outs.getD x []):=by
  unfold gu
  rw [if_neg (by rw [hR];simp),if_neg]
  rintro (h|⟨i,h1,h2⟩)
  ·exact h Mv.length_eq
  ·exact h2 (Mv.mem_iff.2 h1)
 rw [hpk] at Fz
 generalize p.outs.getD x []=o at hv Fz cE
 generalize dY g (aS g p rev k)=L at PY S1 j0
 generalize gG rev (aS g p rev k).row=LR at PY S0 hlo
 generalize UX:aS g p rev (k+1)=f' at cE
 generalize aS g p rev k=f at*
 generalize aC g f (x:Int) o=su at Fz cE
 repeat' (first|(show bY _ (.region 11 _ _) _ _;(refine ef hX 15 2 201 200 rfl rfl rfl (by first|exact .inl rfl|exact .inr rfl) (by decide) (by decide) ?_;simp only [List.set_cons_zero,List.set_cons_succ,go_sem,simprocAttr,hb,hv,xx,jR,ry,gB]))|refine Rn.p ?_|(with_reducible apply And.intro)|((first|(refine hK _ ?_;clear hK K)|with_reducible intro K hK|refine Rs.p ?_|((with_reducible first|apply oP|apply oQ);exact rfl)|(refine eM hX hC hP 29 (UW) rfl rfl rfl ?_ ?_ (by first|exact ⟨_,_,_,rfl,qx⟩|exact ⟨_,_,_,rfl,qy⟩|exact ⟨_,_,_,rfl,qA⟩) rfl (by decide) ?_;(iterate 2 (focus (simp only [go_sem,simprocAttr,hb,hv,xx,jR,ry,gB];done)));simp only [go_sem,simprocAttr,hb,hv,xx,jR,ry,gB])|(refine au hX hC hP [(10000,29)] (S0) rfl rfl rfl ?_ ?_ ?_ ?_ ?_ ?_ ?_ ?_ ?_ ?_ ?_ ?_ ?_ ?_;(focus (simp only [go_sem,simprocAttr,hb,hv,xx,jR,ry,gB];done));(iterate 12 (focus (simp [go_sem,simprocAttr,hb,hv,xx,jR,ry,gB];done)));try simp only [List.map_cons,List.map_nil])|(refine mW hX hC hP 34 (S1) rfl rfl rfl ?_ ?_ (by first|exact ⟨_,_,_,rfl,qx⟩|exact ⟨_,_,_,rfl,qy⟩|exact ⟨_,_,_,rfl,qA⟩) rfl (by decide) ?_;(iterate 2 (focus (simp only [go_sem,simprocAttr,hb,hv,xx,jR,ry,gB];done)));simp only [go_sem,simprocAttr,hb,hv,xx,jR,ry,gB])|(refine ah hX hC hP (PY) rfl rfl rfl ?_ ?_ ?_ ?_;iterate 3 (focus (simp only [go_sem,simprocAttr,hb,hv,xx,jR,ry,gB];done)))|(refine au hX hC hP [(10000,15),(10001,200),(10002,201)] (Fz) rfl rfl rfl ?_ ?_ ?_ ?_ ?_ ?_ ?_ ?_ ?_ ?_ ?_ ?_ ?_ ?_;(focus (simp only [go_sem,simprocAttr,hb,hv,xx,jR,ry,gB];done));(iterate 12 (focus (simp [go_sem,simprocAttr,hb,hv,xx,jR,ry,gB];done)));try simp only [List.map_cons,List.map_nil]));try simp only [go_sem,simprocAttr,hb,hv,xx,jR,ry,gB])|((with_reducible refine oD ?_ ?_);kernel_rfl)|((with_reducible intro h);try simp only [go_sem,simprocAttr,hb,hv,xx,jR,ry,gB] at h)|omega|intro h)
 refine ⟨k+1,by omega, ?_,by omega⟩
 rw [S2,UX,cE]
 refine Le.of ?_ ?_<;>simp [go_sem,simprocAttr,hb,hv,xx,jR,ry,gB,rI]
def Mw (b:Bool) (g:Gr) (p:Pl):List Int × List Int × Int:=
 if (cA b g p).2.1=0∧lG g=true then (dL g p false g.n.toNat,dL g p true g.n.toNat,0) else ([], [],1)
theorem C2 (g:Gr) (hl:g.es.length≤1000) (p:Pl) (hp:qI p) (b:Bool) (hr:b=true↔(bT g).1=0∧bk g p):
 Spec Tryz.prog 24 (Args [eG g,ePl p]) [] (.tup [.d (sI (Mw b g p).1), .d (sI (Mw b g p).2.1),eN (Mw b g p).2.2]) []:=by
 have hO:=ir g hl p hp b hr
 have hI:=pL g hl
 by_cases h0:(cA b g p).2.1=0
 rotate_left
 ·have hK:Mw b g p=([], [],1):=if_neg fun h=>h0 h.1
  have hb0:decide ((cA b g p).2.1=0)=false:=decide_eq_false h0
  rw [hK]
  (refine Spec.hd (C:=T.cfg [] []) (rs:= [.t 4, .t 5, .t 6]) (T.aj _ _) Tryz.func24 rfl rfl Tryz.ntmps24 Tryz.results24 (by simp [AObj.isNest]) (by simp [AObj.isNest]) (by kernel_rfl) T.mixed fun X hX hP hC aP bV=> ?_)
  repeat' (first|refine Rn.p ?_|(with_reducible apply And.intro)|((first|(refine hK _ ?_;clear hK K)|with_reducible intro K hK|refine Rs.p ?_|((with_reducible first|apply oP|apply oQ);exact rfl)|refine aa hX hC hP (hO) rfl rfl rfl (by simp only [go_sem,simprocAttr,hb0]) rfl ?_);try simp only [go_sem,simprocAttr,hb0])|((with_reducible refine oD ?_ ?_);kernel_rfl)|((with_reducible intro h);try simp only [go_sem,simprocAttr,hb0] at h)|omega|intro h)
 obtain ⟨hrun,hR⟩:=oe hr h0
 rw [hR] at hO
 simp only at hO
 cases IM:lG g with
 |false=>
  have hK:Mw b g p=([], [],1):=if_neg fun h=>by rw [IM] at h;cases h.2
  rw [hK]
  rw [IM] at hI
  (refine Spec.hd (C:=T.cfg [] []) (rs:= [.t 4, .t 5, .t 6]) (T.aj _ _) Tryz.func24 rfl rfl Tryz.ntmps24 Tryz.results24 (by simp [AObj.isNest]) (by simp [AObj.isNest]) (by kernel_rfl) T.mixed fun X hX hP hC aP bV=> ?_)
  repeat' (first|refine Rn.p ?_|(with_reducible apply And.intro)|((first|(refine hK _ ?_;clear hK K)|with_reducible intro K hK|refine Rs.p ?_|((with_reducible first|apply oP|apply oQ);exact rfl)|refine aa hX hC hP (hO) rfl rfl rfl (by simp only [go_sem,simprocAttr]) rfl ?_|refine aa hX hC hP (hI) rfl rfl rfl (by simp only [go_sem,simprocAttr]) rfl ?_);try simp only [go_sem,simprocAttr])|((with_reducible refine oD ?_ ?_);kernel_rfl)|((with_reducible intro h);try simp only [go_sem,simprocAttr] at h)|omega|intro h)
 |true=>
  have hK:Mw b g p=(dL g p false g.n.toNat,dL g p true g.n.toNat,0):=if_pos ⟨h0,IM⟩
  rw [hK]
  rw [IM] at hI
  have S3:=yD g p hrun false 62 fun row _=>C0 row
  have S4:=yD g p hrun true 63 fun row hl=>C1 row hl
  generalize dL g p false g.n.toNat=R0 at S3
  generalize dL g p true g.n.toNat=R1 at S4
  (refine Spec.hd (C:=T.cfg [] []) (rs:= [.t 4, .t 5, .t 6]) (T.aj _ _) Tryz.func24 rfl rfl Tryz.ntmps24 Tryz.results24 (by simp [AObj.isNest]) (by simp [AObj.isNest]) (by kernel_rfl) T.mixed fun X hX hP hC aP bV=> ?_)
  repeat' (first|refine Rn.p ?_|(with_reducible apply And.intro)|((first|(refine hK _ ?_;clear hK K)|with_reducible intro K hK|refine Rs.p ?_|((with_reducible first|apply oP|apply oQ);exact rfl)|refine aa hX hC hP (hO) rfl rfl rfl (by simp only [go_sem,simprocAttr]) rfl ?_|refine aa hX hC hP (hI) rfl rfl rfl (by simp only [go_sem,simprocAttr]) rfl ?_|refine aa hX hC hP (S3) rfl rfl rfl (by simp only [go_sem,simprocAttr]) rfl ?_|refine aa hX hC hP (S4) rfl rfl rfl (by simp only [go_sem,simprocAttr]) rfl ?_);try simp only [go_sem,simprocAttr])|((with_reducible refine oD ?_ ?_);kernel_rfl)|((with_reducible intro h);try simp only [go_sem,simprocAttr] at h)|omega|intro h)
end Go.Ab
end
section
namespace Go.Ab
open Go.Proofs
attribute [local congr] ACall.congr gd.congr Nx.congr
set_option maxRecDepth 10000
set_option maxHeartbeats 8000000
def S5 (l:List Int) (k:Nat):List Int:=(List.range l.length).map fun p=>if p<k∨l.length - 1<p+k then l.getD (l.length - 1 - p) 0 else l.getD p 0
theorem z6 (ps:List Int) (hl:ps.length≤1000000):
 Spec Tryz.prog 71 (Args [.d (sI ps)]) [] (.ref 10000) [(10000, .own 3 1 (ps.map rI))]:=by
 (refine Spec.vf (C:=T.cfg [5,7] []) (rs:= [.t 2]) [(10000,7)] (T.aj _ _) Tryz.func71 rfl rfl Tryz.ntmps71 Tryz.results71 (by simp [AObj.isNest]) (by simp [AObj.isNest]) (by first|(simp [look];done)|(simp [asN];done)|(intro l hl;simp only [asN];repeat (rw [if_neg (fun e=>by subst e;simp [look] at hl)]))) (by first|(simp [look];done)|(simp [asN];done)|(intro l hl;simp only [asN];repeat (rw [if_neg (fun e=>by subst e;simp [look] at hl)]))) (by kernel_rfl) T.mixed fun X hX hP hC aP bV=> ?_)
 repeat' (first|(show bY _ .ret _ _;(try simp only [go_sem,simprocAttr]);refine dU hX 2 7 (.own 3 1 []) ?_ ?_ (by decide) ⟨3,1,by decide, .inl rfl⟩ ?_;(iterate 2 (focus (simp only [go_sem,simprocAttr];done)));simp only [go_sem,simprocAttr])|refine Rn.p ?_|(with_reducible apply And.intro)|((first|(refine hK _ ?_;clear hK K)|with_reducible intro K hK|refine Rs.p ?_|((with_reducible first|apply oP|apply oQ);exact rfl));try simp only [go_sem,simprocAttr])|((with_reducible refine oD ?_ ?_);kernel_rfl)|((with_reducible intro h);try simp only [go_sem,simprocAttr] at h)|omega|intro h)
 exact h.symm
end Go.Ab
end
section
namespace Go.Ab
open Go.Proofs
attribute [local congr] ACall.congr gd.congr Nx.congr
set_option maxRecDepth 20000
set_option maxHeartbeats 8000000
set_option linter.unusedSectionVars false
def mK (g:Gr) (bs:List Int) (k:Nat):List (List Int × Int):=(List.range k).map fun j:Nat=>([bs.getD j 0],g.n+(j:Int))
theorem FR {g:Gr} {bs:List Int} {k:Nat} :mK g bs (k+1)=mK g bs k++ [([bs.getD k 0],g.n+(k:Int))]:=by simp [mK,List.range_succ]
theorem nF {g:Gr} {bs:List Int} {k:Nat} {p:List Int × Int} :p∈mK g bs k↔∃j:Nat,j<k∧p=([bs.getD j 0],g.n+(j:Int)):=by
 simp only [mK,List.mem_map,List.mem_range]
 constructor
 ·rintro ⟨j,h,rfl⟩;exact ⟨j,h,rfl⟩
 ·rintro ⟨j,h,rfl⟩;exact ⟨j,h,rfl⟩
theorem FT {g:Gr} {k:Nat} :jV g (k+1)=jV g k++ [[((g.es.length+k:Nat):Int)]]:=by simp [jV,List.range_succ]
theorem IN {g:Gr} {bs:List Int} :(jU g bs).length=g.es.length+bs.length:=by simp [jU]
section
variable {g:Gr} {p:Pl} {bs:List Int} (h:aN g p) (hb:zW g bs) (hs1:g.n+bs.length≤64) (F3:g.es.length+bs.length≤128)
include h hb hs1 F3
theorem BQ:∀ {k:Nat},k≤bs.length→(e8 g bs k p.ord).length=g.n.toNat+k
 |0,_=>by rw [yw,aM h.2.1];rfl
 |k+1,hk=>by
  have hm:=ag h.1
  have pJ:∀u∈p.ord,u<g.n:=fun u hu=>by
   have:=h.2.1.2.1.mem_iff.1 hu
   simp only [dW,List.mem_map,List.mem_range] at this
   obtain ⟨k,hk,e⟩:=this
   have e:(k:Int)=u:=e
   omega
  have xm:=hb.oM _ (aQ (d:=0) hk)
  have Hu:dQ g (bs.getD k 0)∈p.ord:=by
   have htr:=bg hm (i:=(bs.getD k 0).toNat) (by omega)
   obtain ⟨l,hl,e⟩:=cz h.2.1 htr.1 htr.2
   show tl g (bs.getD k 0).toNat∈p.ord
   rw [← e,aq,List.getD_eq_getElem?_getD,List.getElem?_eq_getElem (by rw [aM h.2.1];exact hl)]
   exact List.getElem_mem _
  obtain ⟨A,B,o1,o2,_,_⟩:=yx (k:=k) (b8 h.2.1) pJ Hu
  have ih:=BQ (k:=k) (by omega)
  rw [o1] at ih
  rw [o2]
  simp only [List.length_append,List.length_cons] at ih ⊢
  omega
theorem IP {k:Nat} (hk:k<bs.length):Spec Tryz.prog 118 (Args [.ptr 10000 0,eN (bs.getD k 0)]) (jW (g.n+(k:Int)) (jU g (bs.take k)) (e8 g bs k p.ord) (p.outs++jV g k) (mK g bs k)) (.tup [])
 (IF (g.n+((k+1:Nat):Int)) (jU g (bs.take (k+1))) (e8 g bs (k+1) p.ord) (p.outs++jV g (k+1)) (mK g bs (k+1))):=by
 have hm:=ag h.1
 have hn:=aA hm
 have bZ:=h.2.1.1
 have bN:=b8 h.2.1
 have xm:=hb.oM _ (aQ (d:=0) hk)
 obtain ⟨e,he⟩:∃e:Nat,bs.getD k 0=(e:Int):=⟨(bs.getD k 0).toNat,by omega⟩
 obtain ⟨e1,e2,e3⟩:=FH hb hk he
 have UY:(bs.take k).length=k:=by simp;omega
 have UZ:(bs.take (k+1)).length=k+1:=by simp;omega
 have hel:(jU g (bs.take k)).length=g.es.length+k:=by rw [IN,UY]
 have ht:dQ g (bs.getD k 0)=tl g e:=by rw [he];rfl
 have pJ:∀u∈p.ord,u<g.n:=fun u hu=>by
  have:=h.2.1.2.1.mem_iff.1 hu
  simp only [dW,List.mem_map,List.mem_range] at this
  obtain ⟨k,hk,e⟩:=this
  have e:(k:Int)=u:=e
  omega
 have Hu:dQ g (bs.getD k 0)∈p.ord:=by
  rw [ht]
  have htr:=bg hm e1
  obtain ⟨l,hl,e⟩:=cz h.2.1 htr.1 htr.2
  rw [← e,aq,List.getD_eq_getElem?_getD,List.getElem?_eq_getElem (by rw [aM h.2.1];exact hl)]
  exact List.getElem_mem _
 obtain ⟨A,B,o1,o2,o3,o4⟩:=yx (k:=k) bN pJ Hu
 rw [ht] at o1 o2 o3
 have lZ:∀i,i<g.es.length→((jU g (bs.take (k+1))).getD i (0,0)).1=tl g i:=fun i hi=>by
  have:=(cR (g:=g) (bs:=bs.take (k+1)) (e:=(i:Int)) (by omega) (by omega)).1
  exact this
 have O4:(e8 g bs k p.ord).length<1000:=by
  rw [BQ h hb hs1 F3 (by omega)];omega
 have U0:(jV g k).length=k:=by simp [jV]
 have hinj:∀j,j<bs.length→bs.getD j 0=bs.getD k 0→j=k:=fun j hj hjk=>by
  have a:=gy hb.nd hj
  have b:=gy hb.nd hk
  rw [hjk] at a
  omega
 have key:=FK (g.n+(k:Int)) (jU g (bs.take k)) (p.outs++jV g k) (mK g bs k) e A (pO g bs k (tl g e)) B (tl g e) (by omega) (by omega) (by omega) (by rw [List.length_append,bZ,U0];omega) (by rw [← o1];exact O4)
  (fun q hq=> ?_) (fun q hq=> ?_) (by rw [e2]) o3 (fun u hu=> ?_) (fun u r hB=> ?_)
 ·rw [e2,show ((tl g e,hd g e):Edge).2=hd g e from rfl, ← e3, ← o1, ← o2,hel] at key
  rw [he,FT,FR,he, ← List.append_assoc,show g.n+((k+1:Nat):Int)=g.n+(k:Int)+1 by omega]
  exact key
 ·obtain ⟨j,hj,rfl⟩:=nF.1 hq
  have:=hb.oM _ (aQ (d:=0) (show j<bs.length by omega))
  simp only [List.getD_cons_zero]
  omega
 ·obtain ⟨j,hj,rfl⟩:=nF.1 hq
  intro e'
  simp only [List.cons.injEq,and_true] at e'
  have:=hinj j (by omega) (by rw [he];exact e'.symm)
  omega
 ·obtain ⟨j,j1,j2,rfl⟩:=iw.1 hu
  rw [e2,show ((tl g e,hd g e):Edge).2=hd g e from rfl, ← e3]
  have AJ:=hb.oM _ (aQ (d:=0) (show j<bs.length by omega))
  unfold wY
  rw [List.any_eq_true]
  refine ⟨([bs.getD j 0],g.n+(j:Int)),List.mem_append_left _ (nF.2 ⟨j,j1,rfl⟩), ?_⟩
  simp only [fh,List.getD_cons_zero,Bool.and_eq_true,decide_eq_true_eq]
  refine ⟨⟨trivial,fun e'=> ?_⟩, ?_⟩
  ·have:=hinj j (by omega) (by rw [he];omega)
   omega
  ·rw [lZ _ (by omega),lZ _ e1]
   exact j2
 ·rw [e2,show ((tl g e,hd g e):Edge).2=hd g e from rfl, ← e3]
  have hu:=o4 u r hB
  unfold wY
  rw [List.any_eq_false]
  intro q hq
  have Je:g.n≤q.2:=by
   rcases List.mem_append.1 hq with hq|hq
   ·obtain ⟨j,hj,rfl⟩:=nF.1 hq
    show g.n≤g.n+(j:Int)
    omega
   ·rw [List.mem_singleton] at hq
    subst hq
    show g.n≤g.n+(k:Int)
    omega
  simp only [fh,Bool.and_eq_true,decide_eq_true_eq]
  rintro ⟨⟨h1,_⟩,_⟩
  omega
end
end Go.Ab
end
section
namespace Go.Ab
open Go.Proofs
attribute [local congr] ACall.congr gd.congr Nx.congr
set_option maxRecDepth 10000
set_option maxHeartbeats 8000000
theorem mz {b:Bool} {g:Gr} {p:Pl} (hr:b=true↔(bT g).1=0∧bk g p) (h:aN g p):cA b g p=((gW g p g.n.toNat,aX g p),(0,0)):=by
 obtain rfl:b=true:=hr.2 ⟨h.1,h.2.1⟩
 unfold cA
 rw [if_neg (by simp),gX.2 h.2.2]
 rfl
theorem IQ {b:Bool} {g:Gr} {p:Pl} (hr:b=true↔(bT g).1=0∧bk g p) (h:aN g p) (h1:cD g p g.n.toNat= []) (h2:¬1<(aX g p).length):k8 b g p=(g,p,0):=by
 have hn:=aA (ag h.1)
 have hA:bq g p= []:=by unfold bq newL;rw [h1,if_neg h2];rfl
 have hG:ak g p=g:=by unfold ak;rw [if_neg h2,hA,List.append_nil]
 have hP:bJ g p=p:=by unfold bJ;rw [if_neg h2,if_neg h2,hA];rfl
 unfold k8
 rw [if_neg (by rw [mz hr h];simp),hG,hP,if_neg (by omega)]
theorem IS {g:Gr} {p:Pl} (h:aN g p) (hI:lG g=true):cD g p g.n.toNat= []∧¬1<(aX g p).length:=by
 have hm:=ag h.1
 have hn:=aA hm
 unfold lG at hI
 rw [Bool.and_eq_true,decide_eq_true_eq,decide_eq_true_eq] at hI
 obtain ⟨w,hw⟩:=List.length_eq_one_iff.1 hI.2
 have hs:∀v,0≤v∧v<g.n→bE p v= []→v=w:=fun v hv hl=>by
  have:v∈bF (·.1) g:=eW.2 ⟨hv,(iH h.2.1 hv.1 hv.2).2 hl⟩
  rw [hw,List.mem_singleton] at this
  exact this
 have hz:=hs _ (aH h.2.1 (k:=g.n.toNat - 1) (by omega)) (jr h).1
 constructor
 ·refine List.eq_nil_iff_forall_not_mem.2 fun e he=> ?_
  obtain ⟨i,hi,_,hv⟩:=qL (v:=e.1) (x:=e.2) he
  obtain ⟨t,ht,h0,hte⟩:=FB hv
  obtain ⟨_,h2⟩:=gY hm h.2.1 (k:=i) (by omega) fun j hj=>h.2.2 j (by omega)
  obtain ⟨hi',bZ,_⟩:=bz hm h.2.1 (k:=i) (by omega) fun j hj=>h.2.2 j (by omega)
  obtain ⟨h3,h4⟩:=h2 e.1 (List.mem_append_right _ (hte ▸ ld (Ic ht) h0))
  have h5:=hs e.1 (hi'.oM _ h3) h4
  rw [bZ] at h3
  obtain ⟨j,hj,e1⟩:=take_at (by rw [aM h.2.1];omega) h3
  have:=cQ h.2.1 (by omega) (by omega) (e1.trans (h5.trans hz.symm))
  omega
 ·obtain ⟨h1,h2⟩:=gY hm h.2.1 (k:=g.n.toNat) (Nat.le_refl _) h.2.2
  obtain ⟨hi',_,_⟩:=bz hm h.2.1 (k:=g.n.toNat) (Nat.le_refl _) h.2.2
  have hl:(loose (aX g p)).length≤1:=wQ (s:=w) (List.nodup_append.1 h1).2.1 fun v hv=>by
   obtain ⟨h3,h4⟩:=h2 v (List.mem_append_right _ hv)
   exact hs v (hi'.oM _ h3) h4
  have:(loose (aX g p)).length=(aX g p).length:=by
   unfold loose
   rw [List.length_map,List.filter_eq_self.2]
   intro t ht
   exact decide_eq_true (pK h t ht)
  omega
theorem z7 {b:Bool} {g:Gr} {p:Pl} (hr:b=true↔(bT g).1=0∧bk g p) (h:(k8 b g p).2.2=0):nu g p∧k8 b g p=(ak g p,bJ g p,0):=by
 unfold k8 at h ⊢
 split at h
 ·cases h
 rename_i h0
 split at h
 ·cases h
 rename_i h1
 rw [if_neg h0,if_neg h1]
 exact ⟨⟨(oe hr (by simpa using h0)).1,by omega,by omega⟩,rfl⟩
theorem U1 (g:Gr) (p:Pl):∃b:Bool,(b=true↔(bT g).1=0∧bk g p):=by
 by_cases h:(bT g).1=0∧bk g p
 ·exact ⟨true,by simp [h]⟩
 ·exact ⟨false,by simp [h]⟩
end Go.Ab
end
section
namespace Go.Ab
open Go.Proofs
attribute [local congr] ACall.congr gd.congr Nx.congr
set_option maxRecDepth 20000
set_option maxHeartbeats 8000000
theorem z8 (ps:List Edge) (hl:ps.length≤1000000):
 Spec Tryz.prog 97 (Args [.d (sE ps)]) [] (.ref 10000) [(10000, .own 73 2 (ps.map rE))]:=by
 (refine Spec.vf (C:=T.cfg [5,7] []) (rs:= [.t 2]) [(10000,7)] (T.aj _ _) Tryz.func97 rfl rfl Tryz.ntmps97 Tryz.results97 (by simp [AObj.isNest]) (by simp [AObj.isNest]) (by first|(simp [look];done)|(simp [asN];done)|(intro l hl;simp only [asN];repeat (rw [if_neg (fun e=>by subst e;simp [look] at hl)]))) (by first|(simp [look];done)|(simp [asN];done)|(intro l hl;simp only [asN];repeat (rw [if_neg (fun e=>by subst e;simp [look] at hl)]))) (by kernel_rfl) T.mixed fun X hX hP hC aP bV=> ?_)
 repeat' (first|(show bY _ .ret _ _;(try simp only [go_sem,simprocAttr]);refine dU hX 2 7 (.own 73 2 []) ?_ ?_ (by decide) ⟨73,2,by decide, .inl rfl⟩ ?_;(iterate 2 (focus (simp only [go_sem,simprocAttr];done)));simp only [go_sem,simprocAttr])|refine Rn.p ?_|(with_reducible apply And.intro)|((first|(refine hK _ ?_;clear hK K)|with_reducible intro K hK|refine Rs.p ?_|((with_reducible first|apply oP|apply oQ);exact rfl));try simp only [go_sem,simprocAttr])|((with_reducible refine oD ?_ ?_);kernel_rfl)|((with_reducible intro h);try simp only [go_sem,simprocAttr] at h)|omega|intro h)
 exact h.symm
theorem pQ {g:Gr} :zW g (gC g):=by
 unfold gC
 split
 ·refine ⟨?_,fun i hi=> ?_⟩
  ·unfold D5
   exact List.Pairwise.map _ (fun a b hab=>by omega) (List.nodup_range.filter _)
  ·simp only [D5,List.mem_map,List.mem_filter,List.mem_range] at hi
   obtain ⟨j,⟨h1,_⟩,rfl⟩:=hi
   omega
 ·exact ⟨List.nodup_nil,by simp⟩
theorem C3 (g:Gr) (hl:g.es.length≤1000) (p:Pl) (hp:qI p) (b:Bool) (hr:b=true↔(bT g).1=0∧bk g p) (h0:(cA b g p).2.1=0) (IM:lG g=true) (hbig:64<g.n+(gC g).length∨128<g.es.length+(gC g).length):
 Spec Tryz.prog 76 (Args [eG g,ePl p]) [] (.tup [.d (.sc (.pointer none)),eN 10]) []:=by
 have hO:=ir g hl p hp b hr
 have hI:=pL g hl
 have hT:=D7 g (by omega)
 obtain ⟨hrun,hR⟩:=oe hr h0
 rw [hR] at hO
 simp only at hO
 rw [IM] at hI
 have hn:=aA (ag hrun.1)
 have HB:(gC g).length≤1000:=by
  unfold gC
  split
  ·have:=D6 (g:=g) (k:=g.es.length);omega
  ·simp
 generalize gC g=bs at hT hbig HB
 by_cases hA:64<g.n+(bs.length:Int)
 ·have hb1:decide (64<g.n+(bs.length:Int))=true:=decide_eq_true hA
  (refine Spec.hd (C:=T.cfg [] []) (rs:= [.t 4, .t 5]) (T.aj _ _) Tryz.func76 rfl rfl Tryz.ntmps76 Tryz.results76 (by simp [AObj.isNest]) (by simp [AObj.isNest]) (by kernel_rfl) T.mixed fun X hX hP hC aP bV=> ?_)
  repeat' (first|refine Rn.p ?_|(with_reducible apply And.intro)|((first|(refine hK _ ?_;clear hK K)|with_reducible intro K hK|refine Rs.p ?_|((with_reducible first|apply oP|apply oQ);exact rfl)|refine aa hX hC hP (hO) rfl rfl rfl (by simp only [go_sem,simprocAttr,hb1]) rfl ?_|refine aa hX hC hP (hI) rfl rfl rfl (by simp only [go_sem,simprocAttr,hb1]) rfl ?_|refine aa hX hC hP (hT) rfl rfl rfl (by simp only [go_sem,simprocAttr,hb1]) rfl ?_);try simp only [go_sem,simprocAttr,hb1])|((with_reducible refine oD ?_ ?_);kernel_rfl)|((with_reducible intro h);try simp only [go_sem,simprocAttr,hb1] at h)|omega|intro h)
 ·have hb1:decide (64<g.n+(bs.length:Int))=false:=decide_eq_false hA
  have hb2:decide (128<(g.es.length:Int)+(bs.length:Int))=true:=decide_eq_true (by omega)
  (refine Spec.hd (C:=T.cfg [] []) (rs:= [.t 4, .t 5]) (T.aj _ _) Tryz.func76 rfl rfl Tryz.ntmps76 Tryz.results76 (by simp [AObj.isNest]) (by simp [AObj.isNest]) (by kernel_rfl) T.mixed fun X hX hP hC aP bV=> ?_)
  repeat' (first|refine Rn.p ?_|(with_reducible apply And.intro)|((first|(refine hK _ ?_;clear hK K)|with_reducible intro K hK|refine Rs.p ?_|((with_reducible first|apply oP|apply oQ);exact rfl)|refine aa hX hC hP (hO) rfl rfl rfl (by simp only [go_sem,simprocAttr,hb1,hb2]) rfl ?_|refine aa hX hC hP (hI) rfl rfl rfl (by simp only [go_sem,simprocAttr,hb1,hb2]) rfl ?_|refine aa hX hC hP (hT) rfl rfl rfl (by simp only [go_sem,simprocAttr,hb1,hb2]) rfl ?_);try simp only [go_sem,simprocAttr,hb1,hb2])|((with_reducible refine oD ?_ ?_);kernel_rfl)|((with_reducible intro h);try simp only [go_sem,simprocAttr,hb1,hb2] at h)|omega|intro h)
theorem FU (g:Gr) (hl:g.es.length≤1000) (p:Pl) (hp:qI p) (hrun:aN g p) (IM:lG g=true) (bs:List Int) (U2:gC g=bs) (hs1:g.n+bs.length≤64) (F3:g.es.length+bs.length≤128):
 Spec Tryz.prog 76 (Args [eG g,ePl p]) [] (.tup [.ptr 10000 0,eN 0]) (jW (g.n+bs.length) (jU g bs) (e8 g bs bs.length p.ord) (p.outs++jV g bs.length) (mK g bs bs.length)):=by
 have hO:=ir g hl p hp true ⟨fun _=>⟨hrun.1,hrun.2.1⟩,fun _=>rfl⟩
 rw [mz ⟨fun _=>⟨hrun.1,hrun.2.1⟩,fun _=>rfl⟩ hrun] at hO
 simp only at hO
 have hI:=pL g hl
 rw [IM] at hI
 have hT:=D7 g (by omega)
 have CC:=pQ (g:=g)
 rw [U2] at hT CC
 have hn:=aA (ag hrun.1)
 have bZ:=hrun.2.1.1
 have tQ:=aM hrun.2.1
 have hb1:decide (64<g.n+(bs.length:Int))=false:=decide_eq_false (by omega)
 have hb2:decide (128<(g.es.length:Int)+(bs.length:Int))=false:=decide_eq_false (by omega)
 have U3:=z8 g.es (by omega)
 have U4:=z6 p.ord (by omega)
 have U5:∀k,k<p.outs.length→Spec Tryz.prog 71 (Args [.d (sI (p.outs.getD k []))]) [] (.d (sI (p.outs.getD k []))) []:=fun k hk=>jZ _ (by
  have h1:=(hrun.2.1.2.2 k (by omega)).length_eq
  have h2:(cn g (k:Int)).length≤g.es.length:=jj
  omega)
 unfold jW
 (refine Spec.vf (C:=T.cfg [51,55,76,75,200] []) (rs:= [.t 4, .t 5]) [(10000,59),(10001,51),(10002,55),(10003,200),(10004,57)] (T.aj _ _) Tryz.func76 rfl rfl Tryz.ntmps76 Tryz.results76 (by simp [AObj.isNest]) (by simp [AObj.isNest]) (by first|(simp [look];done)|(simp [asN];done)|(intro l hl;simp only [asN];repeat (rw [if_neg (fun e=>by subst e;simp [look] at hl)]))) (by first|(simp [look];done)|(simp [asN];done)|(intro l hl;simp only [asN];repeat (rw [if_neg (fun e=>by subst e;simp [look] at hl)]))) (by kernel_rfl) T.mixed fun X hX hP hC aP bV=> ?_)
 repeat' (first|(show bY _ (.seq (.region 8 _ _) _) _ _;(refine kI hX 59 3 200 (.own 31 1 []) rfl rfl rfl (by simp only [go_sem,simprocAttr,hb1,hb2]) (by decide) (by simp [go_sem,simprocAttr,hb1,hb2]) ⟨31,1,by decide, .inl rfl⟩ ?_;simp only [List.set_cons_zero,List.set_cons_succ,go_sem,simprocAttr,hb1,hb2]))|refine Rn.p ?_|(with_reducible apply And.intro)|((first|(refine hK _ ?_;clear hK K)|with_reducible intro K hK|refine Rs.p ?_|((with_reducible first|apply oP|apply oQ);exact rfl)|refine aa hX hC hP (hO) rfl rfl rfl (by simp only [go_sem,simprocAttr,hb1,hb2]) rfl ?_|refine aa hX hC hP (hI) rfl rfl rfl (by simp only [go_sem,simprocAttr,hb1,hb2]) rfl ?_|refine aa hX hC hP (hT) rfl rfl rfl (by simp only [go_sem,simprocAttr,hb1,hb2]) rfl ?_|(refine au hX hC hP [(10000,51)] (U3) rfl rfl rfl ?_ ?_ ?_ ?_ ?_ ?_ ?_ ?_ ?_ ?_ ?_ ?_ ?_ ?_;(focus (simp only [go_sem,simprocAttr,hb1,hb2];done));(iterate 12 (focus (simp [go_sem,simprocAttr,hb1,hb2];done)));try simp only [List.map_cons,List.map_nil])|(refine au hX hC hP [(10000,55)] (U4) rfl rfl rfl ?_ ?_ ?_ ?_ ?_ ?_ ?_ ?_ ?_ ?_ ?_ ?_ ?_ ?_;(focus (simp only [go_sem,simprocAttr,hb1,hb2];done));(iterate 12 (focus (simp [go_sem,simprocAttr,hb1,hb2];done)));try simp only [List.map_cons,List.map_nil]));try simp only [go_sem,simprocAttr,hb1,hb2])|((with_reducible refine oD ?_ ?_);kernel_rfl)|((with_reducible intro h);try simp only [go_sem,simprocAttr,hb1,hb2] at h)|omega|intro h)
 refine ai (fun k:Nat=>k≤p.outs.length) (fun k=>⟨[(4, .d (.sc (.pointer none))),(5,eN 0),(9, .d (sI bs)),(10, .ptr 59 0),(61, .d (.sl 1 (vI p.outs))),(62,eN p.outs.length),(63,eN k)], [(59, .box [eN g.n, .ref 51, .ref 55, .ref 200, .mref 57]),(51, .own 73 2 (g.es.map rE)),(55, .own 3 1 (p.ord.map rI)),(200, .own 31 1 (vI (p.outs.take k))),(57, .mp 0 [])]⟩) (fun k=>p.outs.length - k) 0 (by omega) ?_ ?_
 ·refine Le.of ?_ ?_<;>simp [go_sem,simprocAttr,vI]
 rintro k hk
 rcases Nat.lt_or_ge k p.outs.length with hlt|hge
 ·have hb:decide ((k:Int)<(p.outs.length:Int))=true:=decide_eq_true (by omega)
  have hc:=U5 k hlt
  have zM:(p.outs.take k).length=k:=by simp;omega
  have hv:vI (p.outs.take k)++ [[D.sl 1 ((p.outs.getD k []).map rI)]]=vI (p.outs.take (k+1)):=by
   rw [List.take_add_one,List.getElem?_eq_getElem hlt,Option.toList_some,Ms,List.getD_eq_getElem?_getD,List.getElem?_eq_getElem hlt]
   rfl
  repeat' (first|(show bY _ (.region 12 _ _) _ _;(refine ef hX 59 3 76 200 rfl rfl rfl (by first|exact .inl rfl|exact .inr rfl) (by decide) (by decide) ?_;simp only [List.set_cons_zero,List.set_cons_succ,go_sem,simprocAttr,hb,hv,gv hlt,zM,sI]))|refine Rn.p ?_|(with_reducible apply And.intro)|((first|(refine hK _ ?_;clear hK K)|with_reducible intro K hK|refine Rs.p ?_|((with_reducible first|apply oP|apply oQ);exact rfl)|refine aa hX hC hP (hc) rfl rfl rfl (by simp only [go_sem,simprocAttr,hb,hv,gv hlt,zM,sI]) rfl ?_);try simp only [go_sem,simprocAttr,hb,hv,gv hlt,zM,sI])|((with_reducible refine oD ?_ ?_);kernel_rfl)|((with_reducible intro h);try simp only [go_sem,simprocAttr,hb,hv,gv hlt,zM,sI] at h)|omega|intro h)
  refine ⟨k+1,by omega, ?_,by omega⟩
  refine Le.of ?_ ?_<;>simp [go_sem,simprocAttr,hb,hv,gv hlt,zM,sI]
 ·have hb:decide ((k:Int)<(p.outs.length:Int))=false:=decide_eq_false (by omega)
  obtain rfl:k=p.outs.length:=by omega
  rw [List.take_length]
  repeat' (first|refine Rn.p ?_|(with_reducible apply And.intro)|((first|(refine hK _ ?_;clear hK K)|with_reducible intro K hK|refine Rs.p ?_|((with_reducible first|apply oP|apply oQ);exact rfl));try simp only [go_sem,simprocAttr,hb])|((with_reducible refine oD ?_ ?_);kernel_rfl)|((with_reducible intro h);try simp only [go_sem,simprocAttr,hb] at h)|omega|intro h)
  refine ai (fun k:Nat=>k≤bs.length) (fun k=>⟨[(4, .d (.sc (.pointer none))),(5,eN 0),(10, .ptr 59 0),(81, .d (sI bs)),(82,eN bs.length),(83,eN k)], [(59, .box [eN (g.n+(k:Int)), .ref 51, .ref 55, .ref 200, .mref 57]),(51, .own 73 2 ((jU g (bs.take k)).map rE)),(55, .own 3 1 ((e8 g bs k p.ord).map rI)),(200, .own 31 1 (vI (p.outs++jV g k))),(57, .mp 0 (mK g bs k))]⟩) (fun k=>bs.length - k) 0 (by omega) ?_ ?_
  ·refine Le.of ?_ ?_<;>simp [go_sem,simprocAttr,FI,yw,jV,mK]
  rintro k hk
  rcases Nat.lt_or_ge k bs.length with hlt|hge
  ·have hb3:decide ((k:Int)<(bs.length:Int))=true:=decide_eq_true (by omega)
   have hL:=IP hrun CC hs1 F3 hlt
   repeat' (first|(show bY _ (.region 17 _ _) _ _;(refine ef hX 59 1 301 51 rfl rfl rfl (by first|exact .inl rfl|exact .inr rfl) (by decide) (by decide) ?_;simp only [List.set_cons_zero,List.set_cons_succ,go_sem,simprocAttr,hb3,jW,IF]);(refine ef hX 59 2 302 55 rfl rfl rfl (by first|exact .inl rfl|exact .inr rfl) (by decide) (by decide) ?_;simp only [List.set_cons_zero,List.set_cons_succ,go_sem,simprocAttr,hb3,jW,IF]);(refine ef hX 59 3 303 200 rfl rfl rfl (by first|exact .inl rfl|exact .inr rfl) (by decide) (by decide) ?_;simp only [List.set_cons_zero,List.set_cons_succ,go_sem,simprocAttr,hb3,jW,IF]))|refine Rn.p ?_|(with_reducible apply And.intro)|((first|(refine hK _ ?_;clear hK K)|with_reducible intro K hK|refine Rs.p ?_|((with_reducible first|apply oP|apply oQ);exact rfl)|(refine au hX hC hP [(10000,59),(10001,51),(10002,55),(10003,200),(10004,57),(10011,301),(10012,302),(10013,303)] (hL) rfl rfl rfl ?_ ?_ ?_ ?_ ?_ ?_ ?_ ?_ ?_ ?_ ?_ ?_ ?_ ?_;(focus (simp only [go_sem,simprocAttr,hb3,jW,IF];done));(iterate 12 (focus (simp [go_sem,simprocAttr,hb3,jW,IF];done)));try simp only [List.map_cons,List.map_nil]));try simp only [go_sem,simprocAttr,hb3,jW,IF])|((with_reducible refine oD ?_ ?_);kernel_rfl)|((with_reducible intro h);try simp only [go_sem,simprocAttr,hb3,jW,IF] at h)|omega|intro h)
   refine ⟨k+1,by omega, ?_,by omega⟩
   refine Le.of ?_ ?_<;>simp [go_sem,simprocAttr,hb3,jW,IF]
  ·have hb3:decide ((k:Int)<(bs.length:Int))=false:=decide_eq_false (by omega)
   obtain rfl:k=bs.length:=by omega
   rw [List.take_length]
   repeat' (first|refine Rn.p ?_|(with_reducible apply And.intro)|((first|(refine hK _ ?_;clear hK K)|with_reducible intro K hK|refine Rs.p ?_|((with_reducible first|apply oP|apply oQ);exact rfl));try simp only [go_sem,simprocAttr,hb3])|((with_reducible refine oD ?_ ?_);kernel_rfl)|((with_reducible intro h);try simp only [go_sem,simprocAttr,hb3] at h)|omega|intro h)
end Go.Ab
end
section
namespace Go.Ab
open Go.Proofs
attribute [local congr] ACall.congr gd.congr Nx.congr
set_option maxRecDepth 20000
set_option maxHeartbeats 8000000
noncomputable def U6 (b:Bool) (g:Gr) (p:Pl):Gr × Pl × Int:=
 if (cA b g p).2.1=0∧lG g=true then (if 64<g.n+(gC g).length∨128<g.es.length+(gC g).length then (gz,pz,10) else (aI g (gC g),zY g p (gC g),0)) else (gz,pz,1)
end Go.Ab
end
