/- A part of the proof. -/
import Derived.Test.YtchjjbfhlchpfaaGreatL7P17
set_option linter.unusedSimpArgs false
set_option linter.unusedVariables false
section
namespace Go.Ab
open Go.Proofs
set_option maxRecDepth 10000
set_option linter.unusedSectionVars false
def nK (g:Gr) (bs:List Int) (k:Nat) (v:Int):List Int:=((List.range k).filter fun j=>ew g (bs.getD j 0)=v).map fun j:Nat=>g.n+(j:Int)
def ee (g:Gr) (bs:List Int) (k:Nat) (ord:List Int):List Int:=ord.flatMap fun v=>v::nK g bs k v
def jd (g:Gr) (k:Nat):List (List Int):=(List.range k).map fun j:Nat=> [((g.es.length+j:Nat):Int)]
def lU (g:Gr) (p:Pl) (bs:List Int):Pl:=⟨ee g bs bs.length p.ord,p.outs++jd g bs.length⟩
theorem zM {g:Gr} {bs:List Int} {k:Nat} (v:Int):nK g bs (k+1) v=nK g bs k v++if ew g (bs.getD k 0)=v then [g.n+(k:Int)] else []:=by
 unfold nK
 rw [List.range_succ,List.filter_append,List.map_append]
 congr 1
 by_cases h:ew g (bs.getD k 0)=v
 ·rw [if_pos h,List.filter_cons,if_pos (decide_eq_true h)];rfl
 ·rw [if_neg h,List.filter_cons,if_neg (by rw [decide_eq_false h];decide)];rfl
theorem gB {g:Gr} {bs:List Int} {k:Nat} {v u:Int} :u∈nK g bs k v↔∃j:Nat,j<k∧ew g (bs.getD j 0)=v∧u=g.n+(j:Int):=by
 simp only [nK,List.mem_map,List.mem_filter,List.mem_range,decide_eq_true_eq]
 constructor
 ·rintro ⟨j,⟨h1,h2⟩,rfl⟩;exact ⟨j,h1,h2,rfl⟩
 ·rintro ⟨j,h1,h2,rfl⟩;exact ⟨j,⟨h1,h2⟩,rfl⟩
theorem zN {g:Gr} {bs:List Int} {k:Nat} {a b:List Int} :ee g bs k (a++b)=ee g bs k a++ee g bs k b:=by simp [ee]
theorem iE {g:Gr} {bs:List Int} {k:Nat} {v:Int} {b:List Int} :ee g bs k (v::b)=v::(nK g bs k v++ee g bs k b):=by simp [ee]
theorem v7 {g:Gr} {bs:List Int} {a:List Int} :ee g bs 0 a=a:=by
 induction a with
 |nil=>rfl
 |cons v a ih=>rw [iE,ih];rfl
theorem uH {g:Gr} {bs:List Int} {k:Nat} {a:List Int} (h:ew g (bs.getD k 0)∉a):ee g bs (k+1) a=ee g bs k a:=by
 induction a with
 |nil=>rfl
 |cons v a ih=>
  rw [iE,iE,ih fun e=>h (List.mem_cons.2 (.inr e)),zM,if_neg fun e=>h (List.mem_cons.2 (.inl e)),List.append_nil]
theorem zO {g:Gr} {bs:List Int} {k:Nat} {a:List Int} {u:Int} :u∈ee g bs k a↔∃v∈a,u=v∨u∈nK g bs k v:=by simp [ee]
theorem v8 {g:Gr} {bs:List Int} {k:Nat} {ord:List Int} (bZ:ord.Nodup) (hr:∀u∈ord,u<g.n) (ht:ew g (bs.getD k 0)∈ord):
 ∃A B,ee g bs k ord=A++ew g (bs.getD k 0)::(nK g bs k (ew g (bs.getD k 0))++B)∧ee g bs (k+1) ord=A++ew g (bs.getD k 0)::(nK g bs k (ew g (bs.getD k 0))++(g.n+(k:Int))::B)∧ew g (bs.getD k 0)∉A∧∀u r,B=u::r→u<g.n:=by
 obtain ⟨o1,o2,e⟩:=List.append_of_mem ht
 have fy:=bZ
 rw [e,List.nodup_append] at fy
 obtain ⟨_,n2,n3⟩:=fy
 obtain ⟨n4,_⟩:=List.nodup_cons.1 n2
 have n5:ew g (bs.getD k 0)∉o1:=fun h=>n3 _ h _ (by simp) rfl
 refine ⟨ee g bs k o1,ee g bs k o2, ?_, ?_,fun h=> ?_,fun u r hB=> ?_⟩
 ·rw [congrArg (ee g bs k) e,zN,iE]
 ·rw [congrArg (ee g bs (k+1)) e,zN,iE,uH n5,uH n4,zM,if_pos rfl];simp
 ·obtain ⟨v,hv,h1|h1⟩:=zO.1 h
  ·exact n5 (h1 ▸ hv)
  ·obtain ⟨j,_,_,h2⟩:=gB.1 h1
   have:=hr _ ht
   omega
 ·cases o2 with
  |nil=>simp [ee] at hB
  |cons w o2=>
   rw [iE] at hB
   cases hB
   exact hr _ (by rw [e];simp)
theorem uI {bs:List Int} {k j:Nat} (h:j<k):(bs.take k).getD j 0=bs.getD j 0:=by
 rw [List.getD_eq_getElem?_getD,List.getD_eq_getElem?_getD,List.getElem?_take_of_lt h]
theorem rV {bs:List Int} {k:Nat} (h:k<bs.length):bs.take (k+1)=bs.take k++ [bs.getD k 0]:=by
 rw [List.take_add_one,List.getElem?_eq_getElem h,List.getD_eq_getElem?_getD,List.getElem?_eq_getElem h];rfl
theorem Dt {g:Gr} {bs:List Int} (hb:uE g bs) {k:Nat} (hk:k<bs.length) {i:Nat} (hi:bs.getD k 0=i):
 i<g.es.length∧(jc g (bs.take k)).getD i (0,0)=(tl g i,hd g i)∧jc g (bs.take (k+1))=(jc g (bs.take k)++ [(g.n+(k:Int),hd g i)]).set i (tl g i,g.n+(k:Int)):=by
 have hil:i<g.es.length:=by have:=hb.oK _ (aL (d:=0) hk);omega
 have hlt:(bs.take k).length=k:=by simp;omega
 have qg:(bs.take (k+1)).length=k+1:=by simp;omega
 have hni:(i:Int)∉bs.take k:=fun hm=>by
  have bZ:=hb.nd
  rw [← List.take_append_drop (k+1) bs,rV hk,hi] at bZ
  have:=(List.nodup_append.1 (List.nodup_append.1 bZ).1).2.2 _ hm _ (List.mem_singleton.2 rfl)
  exact this rfl
 refine ⟨hil, ?_, ?_⟩
 ·unfold jc
  rw [List.getD_eq_getElem?_getD,List.getElem?_append_left (by simpa using hil),List.getElem?_map,List.getElem?_range hil,Option.map_some,Option.getD_some,if_neg hni]
 ·unfold jc
  rw [hlt,qg,List.append_assoc,List.set_append_left _ _ (by simpa using hil),List.range_succ (n:=k),List.map_append,List.map_cons,List.map_nil]
  have uG:dY g ((bs.take (k+1)).getD k 0)=hd g i:=by rw [uI (by omega),hi];rfl
  rw [uG]
  congr 1
  ·refine List.ext_getElem? fun j=> ?_
   rw [List.getElem?_set]
   by_cases hj:j<g.es.length
   ·rw [List.getElem?_map,List.getElem?_range hj,List.getElem?_map,List.getElem?_range hj]
    simp only [Option.map_some,List.length_map,List.length_range]
    by_cases e:i=j
    ·subst e
     have hin:(i:Int)∈bs.take (k+1):=by rw [rV hk,hi];simp
     rw [if_pos rfl,if_pos hj,if_pos hin]
     unfold qH
     rw [rV hk,hi,xV,if_neg hni,hlt]
     simp
    ·rw [if_neg e,rV hk,hi]
     by_cases hm:(j:Int)∈bs.take k
     ·rw [if_pos hm,if_pos (by simp [hm])]
      unfold qH
      rw [xV,if_pos hm]
     ·rw [if_neg hm,if_neg (by simp [hm];omega)]
   ·rw [if_neg (by omega),List.getElem?_eq_none (by simpa using hj),List.getElem?_eq_none (by simpa using hj)]
  ·congr 1
   refine List.map_congr_left fun j hj=> ?_
   rw [List.mem_range] at hj
   rw [uI hj,uI (by omega)]
theorem Du {g:Gr} :jc g []=g.es:=by
 unfold jc
 simp only [List.length_nil,List.range_zero,List.map_nil,List.append_nil,List.not_mem_nil,if_false]
 refine List.ext_getElem? fun j=> ?_
 by_cases hj:j<g.es.length
 ·rw [List.getElem?_map,List.getElem?_range hj,Option.map_some,List.getElem?_eq_getElem hj]
  simp only [tl,hd,List.getD_eq_getElem?_getD,List.getElem?_eq_getElem hj,Option.getD_some]
 ·rw [List.getElem?_eq_none (by simpa using hj),List.getElem?_eq_none (by omega)]
section
variable {g:Gr} {p:Pl} {bs:List Int} (h:aY g p) (hb:uE g bs)
include h hb
theorem HL:(ee g bs bs.length p.ord).Nodup∧∀u,u∈ee g bs bs.length p.ord↔0≤u∧u<g.n+bs.length:=by
 have hm:=an h.1
 have hn:=aB hm
 have bZ:=cB h.2.1
 have hr:∀u∈p.ord,0≤u∧u<g.n:=fun u hu=>by
  have:=h.2.1.2.1.mem_iff.1 hu
  simp only [dP,List.mem_map,List.mem_range] at this
  obtain ⟨k,hk,e⟩:=this
  have e:(k:Int)=u:=e
  omega
 have hown:∀v,(nK g bs bs.length v).Nodup:=fun v=>by
  unfold nK
  refine List.Pairwise.map _ (fun a b hab=> ?_) ((List.nodup_range).filter _)
  intro e;apply hab;omega
 constructor
 ·unfold ee
  rw [List.Nodup,List.pairwise_flatMap]
  refine ⟨fun v hv=>List.nodup_cons.2 ⟨fun hh=> ?_,hown v⟩, ?_⟩
  ·obtain ⟨j,_,_,e⟩:=gB.1 hh
   have:=(hr v hv).2
   omega
  ·refine List.Pairwise.imp_of_mem (fun {a b} ha hb' hne=> ?_) bZ
   intro u hu u' uS RU
   subst RU
   rcases List.mem_cons.1 hu with rfl|hu
   ·rcases List.mem_cons.1 uS with rfl|uS
    ·exact hne rfl
    ·obtain ⟨j,_,_,e⟩:=gB.1 uS
     have:=(hr u ha).2
     omega
   ·obtain ⟨j,_,j2,e⟩:=gB.1 hu
    rcases List.mem_cons.1 uS with rfl|uS
    ·have:=(hr u hb').2
     omega
    ·obtain ⟨l,_,l2,e'⟩:=gB.1 uS
     obtain rfl:j=l:=by omega
     exact hne (j2.symm.trans l2)
 ·intro u
  rw [zO]
  constructor
  ·rintro ⟨v,hv,rfl|hu⟩
   ·have:=hr u hv;omega
   ·obtain ⟨j,j1,_,e⟩:=gB.1 hu
    omega
  ·rintro ⟨h0,h1⟩
   by_cases hlt:u<g.n
   ·obtain ⟨l,hl,e⟩:=gy h.2.1 h0 hlt
    exact ⟨u,by rw [← e,aG,List.getD_eq_getElem?_getD,List.getElem?_eq_getElem (by rw [aS h.2.1];exact hl)];exact List.getElem_mem _, .inl rfl⟩
   ·have hk:(u - g.n).toNat<bs.length:=by omega
    have uT:=hb.oK _ (aL (d:=0) hk)
    have ht:=aU hm (i:=(bs.getD (u - g.n).toNat 0).toNat) (by omega)
    obtain ⟨l,hl,e⟩:=gy h.2.1 ht.1 ht.2
    refine ⟨ew g (bs.getD (u - g.n).toNat 0), ?_, .inr (gB.2 ⟨(u - g.n).toNat,hk,rfl,by omega⟩)⟩
    show tl g (bs.getD (u - g.n).toNat 0).toNat∈p.ord
    rw [← e,aG,List.getD_eq_getElem?_getD,List.getElem?_eq_getElem (by rw [aS h.2.1];exact hl)];exact List.getElem_mem _
theorem rW:FW g p bs (lU g p bs):=by
 have hm:=an h.1
 have hn:=aB hm
 have dn:=h.2.1.1
 have bZ:=cB h.2.1
 obtain ⟨n1,n2⟩:=HL h hb
 refine ⟨?_,fun x hx=> ?_,fun k hk=> ?_, ?_, ?_⟩
 ·show (p.outs++jd g bs.length).length=_
  rw [List.length_append,dn,jd,List.length_map,List.length_range];omega
 ·show (p.outs++jd g bs.length).getD x []=_
  rw [List.getD_eq_getElem?_getD,List.getElem?_append_left (by omega), ← List.getD_eq_getElem?_getD]
 ·show (p.outs++jd g bs.length).getD (g.n.toNat+k) []=_
  rw [List.getD_eq_getElem?_getD,List.getElem?_append_right (by omega),dn,Nat.add_sub_cancel_left,jd,List.getElem?_map,List.getElem?_range hk];rfl
 ·refine (List.perm_ext_iff_of_nodup n1 ?_).2 fun u=> ?_
  ·unfold dP
   exact List.Pairwise.map _ (fun a b hab=>by intro e;apply hab;exact Int.ofNat.inj e) List.nodup_range
  ·show u∈ee g bs bs.length p.ord↔_
   rw [n2]
   simp only [dP,List.mem_map,List.mem_range]
   constructor
   ·rintro ⟨h0,h1⟩;exact ⟨u.toNat,by omega,by show ((u.toNat:Nat):Int)=u;omega⟩
   ·rintro ⟨k,hk,e⟩
    have e:(k:Int)=u:=e
    omega
 ·have hr:∀u∈p.ord,u<g.n:=fun u hu=>by
   have:=h.2.1.2.1.mem_iff.1 hu
   simp only [dP,List.mem_map,List.mem_range] at this
   obtain ⟨k,hk,e⟩:=this
   have e:(k:Int)=u:=e
   omega
  have ef:∀v∈p.ord,∀u∈v::nK g bs bs.length v,pE g bs u=v:=fun v hv u hu=>by
   rcases List.mem_cons.1 hu with rfl|hu
   ·exact if_pos (hr u hv)
   ·obtain ⟨j,j1,j2,rfl⟩:=gB.1 hu
    unfold pE
    rw [if_neg (by omega),show (g.n+(j:Int) - g.n).toNat=j by omega]
    exact j2
  show (ee g bs bs.length p.ord).Pairwise _
  unfold ee
  rw [List.pairwise_flatMap]
  refine ⟨fun v hv=> ?_, ?_⟩
  ·refine List.Pairwise.imp_of_mem (R:=fun a b=>a<b) (fun {a b} ha hb' hab=> .inr ⟨(ef v hv a ha).trans (ef v hv b hb').symm,hab⟩) (List.pairwise_cons.2 ⟨fun u hu=> ?_, ?_⟩)
   ·obtain ⟨j,_,_,rfl⟩:=gB.1 hu
    have:=hr v hv
    omega
   ·unfold nK
    refine List.Pairwise.map _ (fun a b hab=> ?_) (List.pairwise_lt_range.filter _)
    omega
  ·refine List.Pairwise.imp_of_mem (R:=fun a b=>p.ord.idxOf a<p.ord.idxOf b) (fun {a b} ha hb' hab=> ?_) ?_
   ·intro u hu v hv
    rw [ef a ha u hu,ef b hb' v hv]
    exact .inl hab
   ·rw [List.pairwise_iff_getElem]
    intro i j hi hj hij
    have e1:=fL bZ hi
    have e2:=fL bZ hj
    rw [List.getD_eq_getElem?_getD,List.getElem?_eq_getElem hi,Option.getD_some] at e1
    rw [List.getD_eq_getElem?_getD,List.getElem?_eq_getElem hj,Option.getD_some] at e2
    omega
end
end Go.Ab
end
section
namespace Go.Ab
open Go.Proofs Go.RowKit
attribute [local congr] ACall.congr gd.congr Nx.congr
set_option maxRecDepth 10000
theorem Spec.of_same {P:Program} {f:Nat} {A:Env→World→List Value→Prop} {m:List (Nat × AObj)} {res:AV} (hc:w8 P f)
 (h:∀E w vals,Good m E w→A E w vals→Calls P f vals.toArray w fun e w'=>∃v,e= .returned v∧w'.os=w.os∧w'.tape=w.tape∧w'.output=w.output∧w.heap.size≤w'.heap.size∧(∀b,b<w.heap.size→w'.heap[b]? =w.heap[b]?)∧bY w' E res v):Spec P f A m res m:=by
 refine ⟨hc,fun E w vals hg hA=>(h E w vals hg hA).mono ?_⟩
 rintro e w' ⟨v,rfl,h1,h2,h3,h4,h5,h6⟩
 have hst:aM w E.z w' E.z:=fun b=>⟨Nat.le_refl _,fun o ho=>by
  by_cases hb:b<w.heap.size
  ·simp only [World.cell?,h5 b hb]
  ·have:=hg.fresh b (by omega);omega⟩
 refine ⟨v,E,rfl,⟨h1,h2,h3,h4,hst,fun b hb _=>⟨h5 b hb,rfl⟩,fun _ _=>⟨rfl,rfl⟩⟩,⟨hg.low,hg.inj,fun l o hl=> ?_,fun b hb=>hg.fresh b (by omega)⟩,fun l o b hl hro hb=> .inr ⟨l,o,hl,hro,hb⟩,h6⟩
 have h0:=hg.gD l o hl
 have:=bp.keep (k:= []) (E':=E) hst (fun _ _=>⟨rfl,rfl⟩) (fun l x hx=>by cases hx) rfl (fun _ _=>rfl) (fun b hb=>⟨h5 b (h0.lt hb),rfl⟩) h0
 rwa [AObj.j8] at this
theorem xX {aj:List (List Int × Int)} {es:Array MapEntry} (h:iF 0 aj es) {y:MapEntry} :y∈es.toList↔∃i p,aj[i]? =some p∧y=⟨kV 0 p.1, .int .i64 p.2,i⟩:=by
 constructor
 ·intro hy
  obtain ⟨i,hi,e⟩:=List.mem_iff_getElem.1 hy
  have hi':i<es.size:=by simpa using hi
  have hp:=List.getElem?_eq_getElem (l:=aj) (i:=i) (by rw [← h.size];exact hi')
  refine ⟨i,_,hp, ?_⟩
  have:=h.DV i _ hp
  rw [Array.getElem?_eq_getElem hi'] at this
  rw [← e]
  simpa using Option.some.inj this
 ·rintro ⟨i,p,hp,rfl⟩
  have:=h.DV i p hp
  obtain ⟨hi,e⟩:=Array.getElem?_eq_some_iff.1 this
  rw [← e]
  simp
theorem F3 {aj:List (List Int × Int)} {es:Array MapEntry} (h:iF 0 aj es):es.toList.map (·.born)=List.range es.size:=by
 refine List.ext_getElem? fun i=> ?_
 rw [List.getElem?_map,Array.getElem?_toList]
 by_cases hi:i<es.size
 ·have hp:=List.getElem?_eq_getElem (l:=aj) (i:=i) (by rw [← h.size];exact hi)
  rw [h.DV i _ hp,List.getElem?_range hi]
  rfl
 ·rw [Array.getElem?_eq_none (by omega),List.getElem?_eq_none (by simpa using hi)]
  rfl
def gY (n:Int) (es:List Edge) (ord:List Int) (outs:List (List Int)) (aj:List (List Int × Int)):List (Nat × AObj):=
 [(10000, .box [eN n, .ref 10001, .ref 10002, .ref 10003, .mref 10004]),(10001, .own 73 2 (es.map rE)),(10002, .own 3 1 (ord.map rI)),(10003, .own 31 1 (vI outs)),(10004, .mp 0 aj)]
def uJ (es:List Edge) (aj:List (List Int × Int)) (x:Int) (e:Nat):Bool:=aj.any fun p=>eo (fun i=>(es.getD i (0,0)).1) x e (p.1.getD 0 0).toNat p.2
theorem Dv (n:Int) (es:List Edge) (ord:List Int) (outs:List (List Int)) (aj:List (List Int × Int)) (x:Int) (e:Nat) (he:e<es.length) (hne:es.length≤1000) (hE:∀p∈aj,0≤p.1.getD 0 0∧p.1.getD 0 0<es.length):
 Spec Tryz.prog 167 (Args [.ptr 10000 0,eN x,eN e]) (gY n es ord outs aj) (eB (uJ es aj x e)) (gY n es ord outs aj):=by
 refine Spec.of_same ⟨Tryz.f167,_,Tryz.func167,by kernel_rfl,rfl⟩ fun E w vals hg hA=> ?_
 obtain ⟨v,vs,rfl,h0,h3⟩:=hA
 obtain ⟨v2,Q1,rfl,h1,h4⟩:=h3
 obtain ⟨v3,Q2,rfl,h2,h5⟩:=h4
 simp only [AVrs] at h5
 subst h5
 have h1:=nh h1
 have h2:=nh h2
 subst h1 h2
 obtain ⟨B,hB,rfl⟩:=h0
 obtain ⟨B',cs,ty,g1,g2,g3,g4,g5⟩:=hg.gD 10000 (.box [eN n, .ref 10001, .ref 10002, .ref 10003, .mref 10004]) rfl
 obtain rfl:B'=B:=by rw [g1] at hB;exact Option.some.inj hB
 obtain ⟨_,_,o1⟩:=hg.gD 10001 (.own 73 2 (es.map rE)) rfl
 obtain ⟨bm,me,m1,m2,m3,m4⟩:=hg.gD 10004 (.mp 0 aj) rfl
 obtain ⟨u0,r0,rfl,_,g4⟩:=g4
 obtain ⟨u1,r1,rfl,c1,g4⟩:=g4
 obtain ⟨u2,r2,rfl,_,g4⟩:=g4
 obtain ⟨u3,r3,rfl,_,g4⟩:=g4
 obtain ⟨u4,r4,rfl,c4,g4⟩:=g4
 obtain ⟨rfl,_⟩:=c1
 obtain ⟨ON,c5,rfl⟩:=c4
 obtain rfl:ON=bm:=by rw [m1] at c5;exact (Option.some.inj c5).symm
 obtain ⟨be,cur,ce,p1,p2,p3,p4,p5,p6,p7,p8⟩:∃b cur cap,E.ρ 10001=some b∧w.heap[b]? =some (.cells cur 73 (0,0))∧E.σ 10001= .slice (some ⟨b,0,none⟩) (es.map rE).length cap∧(es.map rE).length≤cap∧cap*2=cur.size∧cap≤maxLen∧
  E.z b=0∧∀(i j:Nat) (r:List D) (y:D),(es.map rE)[i]? =some r→r[j]? =some y→∃v,cur[i*2+j]? =some v∧Rd w E.z v y:=by
  rcases o1 with ⟨_,h,_⟩|h
  ·rw [List.map_eq_nil_iff] at h
   subst h
   simp at he
  ·exact h
 rw [List.length_map] at p3 p4
 have RW:B'<w.heap.size:=(Array.getElem?_eq_some_iff.1 g2).1
 have qZ:be<w.heap.size:=(Array.getElem?_eq_some_iff.1 p2).1
 have key:=AA B' ON be es.length ce me (fun i=>(es.getD i (0,0)).1) x e w RW qZ ?_ ?_ m2 (fun i hi=> ?_) he hne ⟨fun y hy=> ?_, ?_⟩ (fun y hy=> ?_)
 ·refine key.mono ?_
  rintro en w' ⟨rfl,w1,seen,⟨xx,MD⟩,rfl⟩
  refine ⟨_,rfl,xx.2.1,MD,xx.2.2, ?_,fun b hb=> ?_, ?_⟩
  ·have:=nj w1 (.mapIter (some ON) me.size seen me.size)
   rw [xx.1] at this
   exact this
  ·rw [mu _ _ (by rw [xx.1];exact hb),xx.1]
  ·have:(me.toList.any fun y=>eo (fun i=>(es.getD i (0,0)).1) x e (Ir y.key) (Is y.val))=uJ es aj x e:=by
    rw [Bool.eq_iff_iff,uJ,List.any_eq_true,List.any_eq_true]
    constructor
    ·rintro ⟨y,hy,hm⟩
     obtain ⟨i,p,hp,rfl⟩:=(xX m4).1 hy
     exact ⟨p,List.mem_of_getElem? hp,hm⟩
    ·rintro ⟨p,hp,hm⟩
     obtain ⟨i,hi⟩:=List.mem_iff_getElem?.1 hp
     exact ⟨_,(xX m4).2 ⟨i,p,hi,rfl⟩,hm⟩
   rw [this]
   exact .sc _ rfl
 ·simp [World.cell?,g2,p3]
 ·simp [World.cell?,g2]
 ·obtain ⟨v,q1,q2⟩:=p8 i 0 (rE es[i]) (.sc (.int .i64 es[i].1)) (by simp [List.getElem?_eq_getElem hi]) rfl
  rw [nh q2] at q1
  simp only [World.cell?,p2,Option.isSome_none,Bool.false_eq_true,if_false]
  rw [List.getD_eq_getElem?_getD,List.getElem?_eq_getElem hi]
  exact q1
 ·obtain ⟨i,p,hp,rfl⟩:=(xX m4).1 hy
  have:=(List.getElem?_eq_some_iff.1 hp).1
  have:=m4.size
  show i<me.size
  omega
 ·rw [F3 m4];exact List.nodup_range
 ·obtain ⟨i,p,hp,rfl⟩:=(xX m4).1 hy
  obtain ⟨h1,h2⟩:=hE p (List.mem_of_getElem? hp)
  refine ⟨(p.1.getD 0 0).toNat,p.2, ?_,rfl,by omega⟩
  show Value.int .i64 (p.1.getD 0 0)=_
  rw [Int.toNat_of_nonneg h1]
end Go.Ab
end
section
namespace Go.Ab
open Go.Proofs
attribute [local congr] ACall.congr gd.congr Nx.congr
set_option maxRecDepth 20000
set_option maxHeartbeats 8000000
def F4 (n:Int) (es:List Edge) (ord:List Int) (outs:List (List Int)) (aj:List (List Int × Int)):List (Nat × AObj):=
 [(10000, .box [eN n, .ref 10011, .ref 10012, .ref 10013, .mref 10004]),(10011, .own 73 2 (es.map rE)),(10012, .own 3 1 (ord.map rI)),(10013, .own 31 1 (vI outs)),(10004, .mp 0 aj)]
theorem F5 {aj:List (List Int × Int)} {k:List Int} {v:Int} (h:∀p∈aj,k≠p.1):wz aj k v=aj++ [(k,v)]:=by
 have hf:b9 aj k=none:=by
  rw [b9,List.findIdx?_eq_none_iff]
  intro p hp
  exact decide_eq_false (h p hp)
 unfold wz eC jt
 rw [hf]
 simp only [qK]
 refine List.ext_getElem? fun i=> ?_
 rw [List.getElem?_modify]
 rcases Nat.lt_trichotomy i aj.length with h1|h1|h1
 ·rw [List.getElem?_append_left h1,List.getElem?_append_left h1]
  simp [show ¬aj.length=i by omega]
 ·subst h1;simp
 ·rw [List.getElem?_eq_none (by simp;omega),List.getElem?_eq_none (by simp;omega)];rfl
theorem JL {a b:List (List Int)} :vI (a++b)=vI a++vI b:=by simp [vI]
theorem HM {A B:List Int} {t:Int} (h:t∉A):fu (A++t::B) t=A.length:=by
 refine cQ (d:=0) (by simp) (fun j hj=>decide_eq_false fun e=>h ?_) (decide_eq_true ?_)
 ·rw [e,List.getD_eq_getElem?_getD,List.getElem?_append_left hj,List.getElem?_eq_getElem hj];exact List.getElem_mem _
 ·rw [List.getD_eq_getElem?_getD,List.getElem?_append_right (by omega)];simp
theorem JM {A O B:List Int} {t:Int} {j:Nat} (hj:j<O.length):(A++t::(O++B)).getD (A.length+1+j) 0=O.getD j 0:=by
 rw [List.getD_eq_getElem?_getD,List.getElem?_append_right (by omega),show A.length+1+j - A.length=j+1 by omega,List.getElem?_cons_succ,List.getElem?_append_left hj, ← List.getD_eq_getElem?_getD]
theorem HN {A O B:List Int} {t u:Int} :(A++t::(O++u::B)).getD (A.length+1+O.length) 0=u:=by
 rw [List.getD_eq_getElem?_getD,List.getElem?_append_right (by omega),show A.length+1+O.length - A.length=O.length+1 by omega,List.getElem?_cons_succ,List.getElem?_append_right (by omega)]
 simp
theorem HO {A O B:List Int} {t x:Int} :qN (A++t::(O++B)) (A.length+1+O.length) x=A++t::(O++x::B):=by
 unfold qN
 rw [show A++t::(O++B)=(A++t::O)++B by simp,List.take_left' (by simp;omega),List.drop_left' (by simp;omega)]
 simp
theorem mF {es:List Edge} {a b:Int} :List.map rE es++ [[D.sc (.int .i64 a),D.sc (.int .i64 b)]]=List.map rE (es++ [(a,b)]):=by simp [rE]
theorem xY {es:List Edge} {e:Nat} {a b:Int} (h:es.getD e (0,0)=(a,b)):(List.map rE es).getD e [D.sc (.int .i64 0),D.sc (.int .i64 0)]= [D.sc (.int .i64 a),D.sc (.int .i64 b)]:=by
 rw [show [D.sc (.int .i64 0),D.sc (.int .i64 0)]=rE (0,0) from rfl,List.getD_eq_getElem?_getD,List.getElem?_map]
 rw [List.getD_eq_getElem?_getD] at h
 cases hq:es[e]? with
 |none=>rw [hq] at h;cases h;rfl
 |some q=>rw [hq] at h;cases h;rfl
theorem qh {es:List Edge} {e:Nat} {a b:Int} :(List.map rE es).set e [D.sc (.int .i64 a),D.sc (.int .i64 b)]=List.map rE (es.set e (a,b)):=by
 rw [List.map_set];rfl
theorem Dw (n:Int) (es:List Edge) (outs:List (List Int)) (aj:List (List Int × Int)) (e:Nat) (A O B:List Int) (t:Int) (hn:0≤n∧n<1000) (he:e<es.length) (hne:es.length<1000) (q9:outs.length<1000) (Td:(A++t::(O++B)).length<1000)
 (hE:∀p∈aj,0≤p.1.getD 0 0∧p.1.getD 0 0<es.length) (hnew:∀p∈aj, [(e:Int)]≠p.1) (ht:(es.getD e (0,0)).1=t) (RX:t∉A)
 (hO:∀u∈O,uJ ((es++ [(n,(es.getD e (0,0)).2)]).set e (t,n)) (aj++ [([(e:Int)],n)]) u e=true) (hB:∀u r,B=u::r→uJ ((es++ [(n,(es.getD e (0,0)).2)]).set e (t,n)) (aj++ [([(e:Int)],n)]) u e=false):
 Spec Tryz.prog 118 (Args [.ptr 10000 0,eN e]) (gY n es (A++t::(O++B)) outs aj) (.tup []) (F4 (n+1) ((es++ [(n,(es.getD e (0,0)).2)]).set e (t,n)) (A++t::(O++n::B)) (outs++ [[(es.length:Int)]]) (aj++ [([(e:Int)],n)])):=by
 have hi:=aR (A++t::(O++B)) t (by omega)
 rw [HM RX] at hi
 have Kc:=F5 (v:=n) hnew
 obtain ⟨hd,Hz⟩:∃hd,(es.getD e (0,0)).2=hd:=⟨_,rfl⟩
 rw [Hz] at hO hB ⊢
 have Ig:(List.map rE es).getD e [D.sc (.int .i64 0),D.sc (.int .i64 0)]= [D.sc (.int .i64 t),D.sc (.int .i64 hd)]:=xY (Prod.ext ht Hz)
 have nQ:(List.map rE (es++ [(n,hd)])).getD e [D.sc (.int .i64 0),D.sc (.int .i64 0)]= [D.sc (.int .i64 t),D.sc (.int .i64 hd)]:=xY (by
  rw [List.getD_eq_getElem?_getD,List.getElem?_append_left he, ← List.getD_eq_getElem?_getD];exact Prod.ext ht Hz)
 have uU:(List.map rE ((es++ [(n,hd)]).set e (t,n))).getD e [D.sc (.int .i64 0),D.sc (.int .i64 0)]= [D.sc (.int .i64 t),D.sc (.int .i64 n)]:=xY (by
  rw [List.getD_eq_getElem?_getD,List.getElem?_set_self (by simp;omega)];rfl)
 have CX:((es++ [(n,hd)]).set e (t,n)).length=es.length+1:=by simp
 have PN:∀p∈aj++ [([(e:Int)],n)],0≤p.1.getD 0 0∧p.1.getD 0 0<((es++ [(n,hd)]).set e (t,n)).length:=fun p hp=>by
  rw [CX]
  rcases List.mem_append.1 hp with h|h
  ·have:=hE p h;omega
  ·rw [List.mem_singleton] at h
   subst h
   simp only [List.getD_cons_zero]
   omega
 have lB:=fun (outs:List (List Int)) (u:Int)=>Dv (n+1) ((es++ [(n,hd)]).set e (t,n)) (A++t::(O++B)) outs (aj++ [([(e:Int)],n)]) u e (by rw [CX];omega) (by rw [CX];omega) PN
 have hins:=yY (A++t::(O++B)) (A.length+1+O.length) n (by simp;omega) (by omega)
 rw [HO] at hins
 have hlen:(A++t::(O++B)).length=A.length+1+O.length+B.length:=by simp;omega
 generalize Ke:(es++ [(n,hd)]).set e (t,n)=E2 at hO hB uU CX PN lB ⊢
 have hv:vI outs++ [[D.sl 1 [[D.sc (.int .i64 (es.length:Int))]]]]=vI (outs++ [[(es.length:Int)]]):=by simp [vI,sI,rI]
 generalize Hw:A++t::(O++n::B)=RY at hins ⊢
 unfold gY F4
 (refine Spec.s7 (C:=T.cfg [51,73,125,126,72] []) (rs:= []) [(10011,51),(10013,73),(10012,126)] (T.ah _ _) Tryz.func118 rfl rfl Tryz.ntmps118 Tryz.results118 (by simp [AObj.isNest]) (by simp [AObj.isNest]) (by first|(simp [look];done)|(simp [asN];done)|(intro l hl;simp only [asN];repeat (rw [if_neg (fun e=>by subst e;simp [look] at hl)]))) (by first|(simp [look];done)|(simp [asN];done)|(intro l hl;simp only [asN];repeat (rw [if_neg (fun e=>by subst e;simp [look] at hl)]))) (by kernel_rfl) T.mixed fun X hX hP hC aJ bQ=> ?_)
 repeat' (first|refine Rn.p ?_|(with_reducible apply And.intro)|((first|(refine hK _ ?_;clear hK K)|with_reducible intro K hK|refine Rs.p ?_|((with_reducible first|apply oP|apply oQ);exact rfl)|(refine ag hX hC hP (hi) rfl rfl rfl ?_ ?_ ?_ ?_;iterate 3 (focus (simp only [go_sem,simprocAttr,Kc,mF,qh,Ig,nQ,uU,Ke,hv,List.length_append,List.length_cons,List.length_nil];done)))|(refine ak hX hC hP [(10000,10000),(10001,51),(10002,10002),(10003,73),(10004,10004)] (lB _ _) rfl rfl rfl ?_ ?_ ?_ ?_ ?_ ?_ ?_ ?_ ?_ ?_ ?_ ?_ ?_ ?_;(focus (simp only [go_sem,simprocAttr,Kc,mF,qh,Ig,nQ,uU,Ke,hv,List.length_append,List.length_cons,List.length_nil];done));(iterate 12 (focus (simp [go_sem,simprocAttr,Kc,mF,qh,Ig,nQ,uU,Ke,hv,List.length_append,List.length_cons,List.length_nil];done)));try simp only [List.map_cons,List.map_nil]));try simp only [go_sem,simprocAttr,Kc,mF,qh,Ig,nQ,uU,Ke,hv,List.length_append,List.length_cons,List.length_nil])|((with_reducible refine oD ?_ ?_);kernel_rfl)|((with_reducible intro h);try simp only [go_sem,simprocAttr,Kc,mF,qh,Ig,nQ,uU,Ke,hv,List.length_append,List.length_cons,List.length_nil] at h)|omega|intro h)
 refine ai (fun j:Nat=>j≤O.length) (fun j=>⟨[(0, .ptr 10000 0),(1,eN e),(4,eN n),(6,eN ((A.length+1+j:Nat):Int))], [(10000, .box [eN (n+1), .ref 51, .ref 10002, .ref 73, .mref 10004]),(51, .own 73 2 (E2.map rE)),(10002, .own 3 1 ((A++t::(O++B)).map rI)),(73, .own 31 1 (vI (outs++ [[(es.length:Int)]]))),(10004, .mp 0 (aj++ [([(e:Int)],n)]))]⟩) (fun j=>O.length - j) 0 (by omega) ?_ ?_
 ·refine Le.of ?_ ?_<;>simp [go_sem,simprocAttr,Kc,mF,qh,Ig,nQ,uU,Ke,hv,List.length_append,List.length_cons,List.length_nil]
 rintro j hj
 obtain ⟨L,hL⟩:∃L,L=A++t::(O++B):=⟨_,rfl⟩
 rcases Nat.lt_or_ge j O.length with hlt|hge
 ·have hb:decide (((A.length+1+j:Nat):Int)<(L.length:Int))=true:=decide_eq_true (by rw [hL];omega)
  have pn:L.getD (A.length+1+j) 0=O.getD j 0:=by rw [hL];exact JM hlt
  have hm:=hO _ (aL (d:=0) hlt)
  have hm2:=lB (outs++ [[(es.length:Int)]]) (O.getD j 0)
  rw [hm] at hm2
  rw [← hL] at hm2 ⊢
  have hjl:A.length+1+j<L.length:=by rw [hL];omega
  repeat' (first|refine Rn.p ?_|(with_reducible apply And.intro)|((first|(refine hK _ ?_;clear hK K)|with_reducible intro K hK|refine Rs.p ?_|((with_reducible first|apply oP|apply oQ);exact rfl)|(refine ak hX hC hP [(10000,10000),(10001,51),(10002,10002),(10003,73),(10004,10004)] (hm2) rfl rfl rfl ?_ ?_ ?_ ?_ ?_ ?_ ?_ ?_ ?_ ?_ ?_ ?_ ?_ ?_;(focus (simp only [go_sem,simprocAttr,gY,hb,pn];done));(iterate 12 (focus (simp [go_sem,simprocAttr,gY,hb,pn];done)));try simp only [List.map_cons,List.map_nil]));try simp only [go_sem,simprocAttr,gY,hb,pn])|((with_reducible refine oD ?_ ?_);kernel_rfl)|((with_reducible intro h);try simp only [go_sem,simprocAttr,gY,hb,pn] at h)|omega|intro h)
  refine ⟨j+1,by omega, ?_,by omega⟩
  refine Le.of ?_ ?_<;>simp [go_sem,simprocAttr,gY,hb,pn]
  omega
 ·obtain rfl:j=O.length:=by omega
  have hm2:=lB (outs++ [[(es.length:Int)]])
  rw [← hL] at hm2 hins ⊢
  cases L6:B with
  |nil=>
   have hb:decide (((A.length+1+O.length:Nat):Int)<(L.length:Int))=false:=decide_eq_false (by rw [hL,hlen,L6];simp)
   repeat' (first|refine Rn.p ?_|(with_reducible apply And.intro)|((first|(refine hK _ ?_;clear hK K)|with_reducible intro K hK|refine Rs.p ?_|((with_reducible first|apply oP|apply oQ);exact rfl)|(refine ak hX hC hP [(10000,10002),(10002,125),(10001,126)] (hins) rfl rfl rfl ?_ ?_ ?_ ?_ ?_ ?_ ?_ ?_ ?_ ?_ ?_ ?_ ?_ ?_;(focus (simp only [go_sem,simprocAttr,gY,rI,hb];done));(iterate 12 (focus (simp [go_sem,simprocAttr,gY,rI,hb];done)));try simp only [List.map_cons,List.map_nil]));try simp only [go_sem,simprocAttr,gY,rI,hb])|((with_reducible refine oD ?_ ?_);kernel_rfl)|((with_reducible intro h);try simp only [go_sem,simprocAttr,gY,rI,hb] at h)|omega|intro h)
   all_goals rfl
  |cons u r=>
   have hb:decide (((A.length+1+O.length:Nat):Int)<(L.length:Int))=true:=decide_eq_true (by rw [hL,hlen,L6];simp;omega)
   have pn:L.getD (A.length+1+O.length) 0=u:=by rw [hL,L6];exact HN
   have MF:=hm2 u
   rw [hB u r L6] at MF
   have hjl:A.length+1+O.length<L.length:=by rw [hL,hlen,L6];simp
   repeat' (first|refine Rn.p ?_|(with_reducible apply And.intro)|((first|(refine hK _ ?_;clear hK K)|with_reducible intro K hK|refine Rs.p ?_|((with_reducible first|apply oP|apply oQ);exact rfl)|(refine ak hX hC hP [(10000,10002),(10002,125),(10001,126)] (hins) rfl rfl rfl ?_ ?_ ?_ ?_ ?_ ?_ ?_ ?_ ?_ ?_ ?_ ?_ ?_ ?_;(focus (simp only [go_sem,simprocAttr,gY,rI,hb,pn];done));(iterate 12 (focus (simp [go_sem,simprocAttr,gY,rI,hb,pn];done)));try simp only [List.map_cons,List.map_nil])|(refine ak hX hC hP [(10000,10000),(10001,51),(10002,10002),(10003,73),(10004,10004)] (MF) rfl rfl rfl ?_ ?_ ?_ ?_ ?_ ?_ ?_ ?_ ?_ ?_ ?_ ?_ ?_ ?_;(focus (simp only [go_sem,simprocAttr,gY,rI,hb,pn];done));(iterate 12 (focus (simp [go_sem,simprocAttr,gY,rI,hb,pn];done)));try simp only [List.map_cons,List.map_nil]));try simp only [go_sem,simprocAttr,gY,rI,hb,pn])|((with_reducible refine oD ?_ ?_);kernel_rfl)|((with_reducible intro h);try simp only [go_sem,simprocAttr,gY,rI,hb,pn] at h)|omega|intro h)
   all_goals rfl
end Go.Ab
end
section
namespace Go.Ab
open Go.Proofs
set_option maxRecDepth 10000
def Dx (q:Nat→Bool):Nat→Nat
 |0=>0
 |n+1=>Dx q n ||| (if q n then 2 ^ n else 0)
theorem kP {q:Nat→Bool} {y:Nat} :∀ {n:Nat},(Dx q n).testBit y=(decide (y<n)&&q y)
 |0=>by simp [Dx]
 |n+1=>by
  rw [Dx,Nat.testBit_or,kP]
  by_cases h:y=n
  ·subst h
   cases hq:q y<;>simp [Nat.testBit_two_pow_self]
  ·have h2:(if q n then 2 ^ n else 0).testBit y=false:=by
    split
    ·rw [Nat.testBit_two_pow];exact decide_eq_false fun e=>h e.symm
    ·simp
   rw [h2,Bool.or_false]
   congr 1
   rw [decide_eq_decide];omega
theorem Ca {q:Nat→Bool} {n:Nat} :Dx q n<2 ^ n:=by
 refine Nat.lt_pow_two_of_testBit _ fun i hi=> ?_
 rw [kP,decide_eq_false (by omega)];rfl
inductive kQ (g:Gr) (both:Bool) (c:Nat→Bool) (x:Nat):Nat→Prop
 |refl:kQ g both c x x
 |fwd {i:Nat} :i<g.es.length→c i=true→kQ g both c x (tl g i).toNat→kQ g both c x (hd g i).toNat
 |DT {i:Nat} :i<g.es.length→c i=true→both=true→kQ g both c x (hd g i).toNat→kQ g both c x (tl g i).toNat
theorem kQ.trans {g:Gr} {both:Bool} {c:Nat→Bool} {x y z:Nat} (h1:kQ g both c x y) (h2:kQ g both c y z):kQ g both c x z:=by
 induction h2 with
 |refl=>exact h1
 |fwd a b _ ih=>exact .fwd a b ih
 |DT a b d _ ih=>exact .DT a b d ih
open Classical in
noncomputable def L7 (g:Gr) (both:Bool) (c:Nat→Bool) (x:Nat):Nat:=Dx (fun y=>decide (kQ g both c x y)) g.n.toNat
noncomputable def ya (g:Gr) (both:Bool) (c:Nat→Bool):List Nat:=(List.range g.n.toNat).map (L7 g both c)
theorem o5 {g:Gr} {both:Bool} {c:Nat→Bool} :(ya g both c).length=g.n.toNat:=by simp [ya]
theorem qi {g:Gr} {both:Bool} {c:Nat→Bool} {x:Nat} (h:x<g.n.toNat):(ya g both c).getD x 0=L7 g both c x:=by
 simp [ya,List.getD_eq_getElem?_getD,List.getElem?_range h]
open Classical in
theorem rX {g:Gr} {both:Bool} {c:Nat→Bool} {x y:Nat} :(L7 g both c x).testBit y=true↔y<g.n.toNat∧kQ g both c x y:=by
 unfold L7
 rw [kP]
 simp
def aT (g:Gr) (both:Bool) (c:Nat→Bool) (a:List Nat):Nat→List Nat × Bool
 |0=>(a,false)
 |k+1=>
  let s:=aT g both c a k
  if c k=true then
   let t:=s.1.getD (tl g k).toNat 0 ||| s.1.getD (hd g k).toNat 0
   let h:=if both=true then t else s.1.getD (hd g k).toNat 0
   ((s.1.set (tl g k).toNat t).set (hd g k).toNat h,s.2||(decide (t≠s.1.getD (tl g k).toNat 0)||decide (h≠s.1.getD (hd g k).toNat 0)))
  else s
theorem qj {g:Gr} {both:Bool} {c:Nat→Bool} {a:List Nat} :∀ {k:Nat},(aT g both c a k).1.length=a.length
 |0=>rfl
 |k+1=>by
  simp only [aT]
  split
  ·simp [qj]
  ·exact qj
theorem mG {l:List Nat} {i j:Nat} {a:Nat} (hi:i<l.length):(l.set i a).getD j 0=if j=i then a else l.getD j 0:=by
 rw [List.getD_eq_getElem?_getD,List.getElem?_set]
 by_cases h:i=j
 ·subst h;rw [if_pos rfl,if_pos hi,if_pos rfl];rfl
 ·rw [if_neg h,if_neg (Ne.symm h), ← List.getD_eq_getElem?_getD]
structure Cb (g:Gr) (both:Bool) (c:Nat→Bool) (a:List Nat):Prop where
 len:a.length=g.n.toNat
 own:∀x,x<g.n.toNat→(a.getD x 0).testBit x=true
 snd:∀x y,x<g.n.toNat→(a.getD x 0).testBit y=true→y<g.n.toNat∧kQ g both c x y
theorem Cb.lt {g:Gr} {both:Bool} {c:Nat→Bool} {a:List Nat} (h:Cb g both c a) (hn:g.n.toNat≤64) (x:Nat):a.getD x 0<18446744073709551616:=by
 by_cases hx:x<g.n.toNat
 ·have:a.getD x 0<2 ^ 64:=Nat.lt_pow_two_of_testBit _ fun i hi=>by
   cases hb:(a.getD x 0).testBit i with
   |false=>rfl
   |true=>have:=(h.snd x i hx hb).1;omega
  simpa using this
 ·rw [List.getD_eq_getElem?_getD,List.getElem?_eq_none (by rw [h.len];omega)];simp
theorem grow_step {g:Gr} (hm:aH g=true) {both:Bool} {c:Nat→Bool} {a:List Nat} (h:Cb g both c a) {i:Nat} (hi:i<g.es.length) (hc:c i=true):
 Cb g both c ((a.set (tl g i).toNat (a.getD (tl g i).toNat 0 ||| a.getD (hd g i).toNat 0)).set (hd g i).toNat (if both=true then a.getD (tl g i).toNat 0 ||| a.getD (hd g i).toNat 0 else a.getD (hd g i).toNat 0))∧
 ∀x y,(a.getD x 0).testBit y=true→(((a.set (tl g i).toNat (a.getD (tl g i).toNat 0 ||| a.getD (hd g i).toNat 0)).set (hd g i).toNat (if both=true then a.getD (tl g i).toNat 0 ||| a.getD (hd g i).toNat 0 else a.getD (hd g i).toNat 0)).getD x 0).testBit y=true:=by
 obtain ⟨ht,hh⟩:=cH hm hi
 have ht:0≤tl g i∧tl g i<g.n:=ht
 have hh:0≤hd g i∧hd g i<g.n:=hh
 have hl:=h.len
 have sk:∀x,((a.set (tl g i).toNat (a.getD (tl g i).toNat 0 ||| a.getD (hd g i).toNat 0)).set (hd g i).toNat (if both=true then a.getD (tl g i).toNat 0 ||| a.getD (hd g i).toNat 0 else a.getD (hd g i).toNat 0)).getD x 0=
  if x=(hd g i).toNat then (if both=true then a.getD (tl g i).toNat 0 ||| a.getD (hd g i).toNat 0 else a.getD (hd g i).toNat 0) else if x=(tl g i).toNat then a.getD (tl g i).toNat 0 ||| a.getD (hd g i).toNat 0 else a.getD x 0:=fun x=>by
  rw [mG (by rw [List.length_set];omega),mG (by omega)]
 have mono:∀x y,(a.getD x 0).testBit y=true→(((a.set (tl g i).toNat (a.getD (tl g i).toNat 0 ||| a.getD (hd g i).toNat 0)).set (hd g i).toNat (if both=true then a.getD (tl g i).toNat 0 ||| a.getD (hd g i).toNat 0 else a.getD (hd g i).toNat 0)).getD x 0).testBit y=true:=fun x y hb=>by
  rw [sk]
  split
  ·rename_i e;subst e
   split
   ·rw [Nat.testBit_or,hb,Bool.or_true]
   ·exact hb
  ·split
   ·rename_i e;subst e
    rw [Nat.testBit_or,hb,Bool.true_or]
   ·exact hb
 refine ⟨⟨by simp [hl],fun x hx=>mono x x (h.own x hx),fun x y hx hb=> ?_⟩,mono⟩
 have e1:kQ g both c (tl g i).toNat (hd g i).toNat:= .fwd hi hc .refl
 rw [sk] at hb
 split at hb
 ·rename_i e;subst e
  split at hb
  ·rename_i OO
   rw [Nat.testBit_or,Bool.or_eq_true] at hb
   rcases hb with hb|hb
   ·obtain ⟨g1,g2⟩:=h.snd _ _ (by omega) hb
    exact ⟨g1,(kQ.DT hi hc OO .refl).trans g2⟩
   ·exact h.snd _ _ hx hb
  ·exact h.snd _ _ hx hb
 ·split at hb
  ·rename_i e;subst e
   rw [Nat.testBit_or,Bool.or_eq_true] at hb
   rcases hb with hb|hb
   ·exact h.snd _ _ hx hb
   ·obtain ⟨g1,g2⟩:=h.snd _ _ (by omega) hb
    exact ⟨g1,e1.trans g2⟩
  ·exact h.snd _ _ hx hb
theorem fm {g:Gr} (hm:aH g=true) {both:Bool} {c:Nat→Bool} {a:List Nat} (h:Cb g both c a):∀ {k:Nat},k≤g.es.length→Cb g both c (aT g both c a k).1∧∀x y,(a.getD x 0).testBit y=true→((aT g both c a k).1.getD x 0).testBit y=true
 |0,_=>⟨h,fun x y hb=>hb⟩
 |k+1,hk=>by
  obtain ⟨i1,i2⟩:=fm hm h (k:=k) (by omega)
  simp only [aT]
  by_cases hc:c k=true
  ·rw [if_pos hc]
   obtain ⟨j1,j2⟩:=grow_step hm i1 (i:=k) (by omega) hc
   exact ⟨j1,fun x y hb=>j2 x y (i2 x y hb)⟩
  ·rw [if_neg hc];exact ⟨i1,i2⟩
def qT (a:List Nat):Nat:=a.foldr (· + ·) 0
theorem Cc:∀ {a b:List Nat},a.length=b.length→(∀x,a.getD x 0≤b.getD x 0)→a≠b→qT a<qT b
 | [], [],_,_,hne=>absurd rfl hne
 |x::a,y::b,hl,h,hne=>by
  have h0:=h 0
  have hr:∀i,a.getD i 0≤b.getD i 0:=fun i=>by simpa using h (i+1)
  simp only [List.getD_cons_zero] at h0
  show x+qT a<y+qT b
  by_cases hab:a=b
  ·subst hab
   have:x≠y:=fun e=>hne (by rw [e])
   omega
  ·have:=Cc (a:=a) (b:=b) (by simpa using hl) hr hab
   omega
theorem zP {m:Nat} :∀ {a:List Nat},(∀x,a.getD x 0<m)→qT a≤a.length*m
 | [],_=>by simp [qT]
 |x::a,h=>by
  have h0:=h 0
  have:=zP (a:=a) fun i=>by simpa using h (i+1)
  simp only [List.getD_cons_zero] at h0
  show x+qT a≤(a.length+1)*m
  rw [Nat.add_mul];omega
theorem nL {a b:Nat} (h:∀y,a.testBit y=true→b.testBit y=true):a≤b:=by
 have:a ||| b=b:=Nat.eq_of_testBit_eq fun y=>by
  rw [Nat.testBit_or]
  cases ha:a.testBit y with
  |false=>simp
  |true=>rw [h y ha];rfl
 rw [← this];exact Nat.left_le_or
theorem gw {g:Gr} {both:Bool} {c:Nat→Bool} {a:List Nat} :∀ {k:Nat},(aT g both c a k).2=false→(aT g both c a k).1=a∧∀i,i<k→c i=true→(a.getD (tl g i).toNat 0 ||| a.getD (hd g i).toNat 0=a.getD (tl g i).toNat 0)∧(both=true→a.getD (tl g i).toNat 0=a.getD (hd g i).toNat 0)
 |0,_=>⟨rfl,fun i hi=>by omega⟩
 |k+1,h=>by
  simp only [aT] at h ⊢
  by_cases hc:c k=true
  ·rw [if_pos hc] at h ⊢
   simp only [Bool.or_eq_false_iff,decide_eq_false_iff_not,Decidable.not_not] at h
   obtain ⟨h1,h2,h3⟩:=h
   obtain ⟨i1,i2⟩:=gw h1
   rw [i1] at h2 h3
   simp only [i1]
   have dH:∀ {l:List Nat} {i v:Nat},v=l.getD i 0→l.set i v=l:=fun {l i v} e=>by
    refine List.ext_getElem? fun j=> ?_
    rw [List.getElem?_set]
    split
    ·rename_i hj;subst hj
     split
     ·rename_i hl;rw [e,List.getD_eq_getElem?_getD,List.getElem?_eq_getElem hl];rfl
     ·rename_i hl;rw [List.getElem?_eq_none (by omega)]
    ·rfl
   refine ⟨by rw [dH h2,dH h3],fun i hi HP=> ?_⟩
   by_cases hik:i=k
   ·subst hik
    refine ⟨h2,fun hb=> ?_⟩
    rw [if_pos hb] at h3
    rw [← h2,h3]
   ·exact i2 i (by omega) HP
  ·rw [if_neg hc] at h ⊢
   obtain ⟨i1,i2⟩:=gw h
   refine ⟨i1,fun i hi HP=> ?_⟩
   by_cases hik:i=k
   ·subst hik;exact absurd HP hc
   ·exact i2 i (by omega) HP
theorem uK {g:Gr} (hm:aH g=true) {both:Bool} {c:Nat→Bool} {a:List Nat} (h:Cb g both c a) (hne:(aT g both c a g.es.length).2=true):qT a<qT (aT g both c a g.es.length).1:=by
 obtain ⟨_,i2⟩:=fm hm h (Nat.le_refl g.es.length)
 refine Cc qj.symm (fun x=>nL (i2 x)) fun e=> ?_
 have key:∀k,k≤g.es.length→(aT g both c a k).2=false:=by
  intro k
  induction k with
  |zero=>intro _;rfl
  |succ k ih=>
   intro hk
   have ih:=ih (by omega)
   have PO:=(gw ih).1
   simp only [aT]
   by_cases hc:c k=true
   ·rw [if_pos hc]
    simp only [Bool.or_eq_false_iff,decide_eq_false_iff_not,Decidable.not_not,ih,PO,true_and]
    obtain ⟨j1,j2⟩:=fm hm h (k:=k) (by omega)
    have later:∀d,k+1+d≤g.es.length→∀x y,((aT g both c a (k+1)).1.getD x 0).testBit y=true→((aT g both c a (k+1+d)).1.getD x 0).testBit y=true:=by
     intro d
     induction d with
     |zero=>intro _ x y hb;exact hb
     |succ d RZ=>
      intro hd x y hb
      have hb:=RZ (by omega) x y hb
      show ((aT g both c a (k+1+d+1)).1.getD x 0).testBit y=true
      simp only [aT] at hb ⊢
      split
      ·rename_i BM
       exact (grow_step hm (fm hm h (k:=k+1+d) (by omega)).1 (i:=k+1+d) (by omega) BM).2 x y hb
      ·exact hb
    have mX:=later (g.es.length - (k+1)) (by omega)
    rw [show k+1+(g.es.length - (k+1))=g.es.length by omega, ← e] at mX
    have x7:(aT g both c a (k+1)).1=(a.set (tl g k).toNat (a.getD (tl g k).toNat 0 ||| a.getD (hd g k).toNat 0)).set (hd g k).toNat (if both=true then a.getD (tl g k).toNat 0 ||| a.getD (hd g k).toNat 0 else a.getD (hd g k).toNat 0):=by
     simp only [aT];rw [if_pos hc,PO]
    obtain ⟨ht,hh⟩:=cH hm (k:=k) (by omega)
    have ht:0≤tl g k∧tl g k<g.n:=ht
    have hh:0≤hd g k∧hd g k<g.n:=hh
    have hl:=h.len
    have sk:∀x,(aT g both c a (k+1)).1.getD x 0=if x=(hd g k).toNat then (if both=true then a.getD (tl g k).toNat 0 ||| a.getD (hd g k).toNat 0 else a.getD (hd g k).toNat 0) else if x=(tl g k).toNat then a.getD (tl g k).toNat 0 ||| a.getD (hd g k).toNat 0 else a.getD x 0:=fun x=>by
     rw [x7,mG (by rw [List.length_set];omega),mG (by omega)]
    have g1:(if both=true then a.getD (tl g k).toNat 0 ||| a.getD (hd g k).toNat 0 else a.getD (hd g k).toNat 0)=a.getD (hd g k).toNat 0:=by
     have:=nL (mX (hd g k).toNat)
     rw [sk,if_pos rfl] at this
     split at this
     ·rename_i hb
      rw [if_pos hb]
      exact Nat.le_antisymm this Nat.right_le_or
     ·rename_i hb;rw [if_neg hb]
    refine ⟨?_,g1⟩
    by_cases heq:(tl g k).toNat=(hd g k).toNat
    ·rw [heq,Nat.or_self]
    ·have:=nL (mX (tl g k).toNat)
     rw [sk,if_neg heq,if_pos rfl] at this
     exact Nat.le_antisymm this Nat.left_le_or
   ·rw [if_neg hc];exact ih
 rw [key _ (Nat.le_refl _)] at hne
 cases hne
theorem we {g:Gr} (hm:aH g=true) {both:Bool} {c:Nat→Bool} {a:List Nat} (h:Cb g both c a) (hne:(aT g both c a g.es.length).2=false):a=ya g both c:=by
 obtain ⟨_,hcl⟩:=gw hne
 have comp:∀x y,x<g.n.toNat→kQ g both c x y→∀w,w<g.n.toNat→kQ g both c w x→True:=fun _ _ _ _ _ _ _=>trivial
 have key:∀ {x y:Nat},kQ g both c x y→∀z,(a.getD y 0).testBit z=true→(a.getD x 0).testBit z=true:=by
  intro x y hR
  induction hR with
  |refl=>exact fun z hz=>hz
  | @fwd i hi hc _ ih=>
    intro z hz
    refine ih z ?_
    rw [← (hcl i hi hc).1,Nat.testBit_or,hz,Bool.or_true]
  | @DT i hi hc hb _ ih=>
    intro z hz
    refine ih z ?_
    rw [← (hcl i hi hc).2 hb];exact hz
 refine List.ext_getElem? fun x=> ?_
 by_cases hx:x<g.n.toNat
 ·have e:a.getD x 0=(ya g both c).getD x 0:=by
   rw [qi hx]
   refine Nat.eq_of_testBit_eq fun y=> ?_
   rw [Bool.eq_iff_iff,rX]
   refine ⟨h.snd x y hx,fun ⟨h1,h2⟩=>key h2 y (h.own y h1)⟩
  rw [List.getD_eq_getElem?_getD,List.getD_eq_getElem?_getD,List.getElem?_eq_getElem (by rw [h.len];exact hx),List.getElem?_eq_getElem (by rw [o5];exact hx)] at e
  rw [List.getElem?_eq_getElem (by rw [h.len];exact hx),List.getElem?_eq_getElem (by rw [o5];exact hx)]
  simpa using e
 ·rw [List.getElem?_eq_none (by rw [h.len];omega),List.getElem?_eq_none (by rw [o5];omega)]
end Go.Ab
end
section
namespace Go.Ab
open Go.Proofs
attribute [local congr] ACall.congr gd.congr Nx.congr
set_option maxRecDepth 20000
set_option maxHeartbeats 8000000
def rU (n:Nat):List D:= [.sc (.int .u64 (n:Int))]
def eU (n:Nat):AV:= .d (.sc (.int .u64 (n:Int)))
def sU (l:List Nat):D:= .sl 1 (l.map rU)
theorem getD_rU (ps:List Nat) (i:Nat):(ps.map rU).getD i [.sc (.int .u64 0)]= [.sc (.int .u64 ((ps.getD i 0:Nat):Int))]:=by
 rw [List.getD_eq_getElem?_getD,List.getElem?_map,List.getD_eq_getElem?_getD]
 cases ps[i]? <;>rfl
theorem dI (l:List Nat) (k:Nat) (v:Nat):(l.map rU).set k [.sc (.int .u64 (v:Int))]=(l.set k v).map rU:=by
 rw [List.map_set];rfl
attribute [go_sem] eU sU getD_rU InU
theorem HQ {s x:Nat} :decide ((((s >>> x &&& 1:Nat)):Int)=1)=s.testBit x:=by
 rw [Bool.eq_iff_iff,decide_eq_true_eq,Nat.testBit,Nat.and_comm]
 have:1 &&& s >>> x=0∨1 &&& s >>> x=1:=by
  rw [Nat.and_comm,Nat.and_one_is_mod];omega
 rcases this with h|h<;>rw [h]<;>simp
theorem qk (s:Nat) (hs:s<18446744073709551616) (x:Int):Spec Tryz.prog 26 (Args [eU s,eN x]) [] (eB (decide (0≤x)&&decide (x<64)&&s.testBit x.toNat)) []:=by
 by_cases h0:0≤x
 rotate_left
 ·have hb0:decide (0≤x)=false:=decide_eq_false h0
  (refine Spec.hd (C:=T.cfg [] []) (rs:= [.t 4]) (T.ah _ _) Tryz.func26 rfl rfl Tryz.ntmps26 Tryz.results26 (by simp [AObj.isNest]) (by simp [AObj.isNest]) (by kernel_rfl) T.mixed fun X hX hP hC aJ bQ=> ?_)
  repeat' (first|refine Rn.p ?_|(with_reducible apply And.intro)|((first|(refine hK _ ?_;clear hK K)|with_reducible intro K hK|refine Rs.p ?_|((with_reducible first|apply oP|apply oQ);exact rfl));try simp only [go_sem,simprocAttr,hb0])|((with_reducible refine oD ?_ ?_);kernel_rfl)|((with_reducible intro h);try simp only [go_sem,simprocAttr,hb0] at h)|omega|intro h)
 have hb0:decide (0≤x)=true:=decide_eq_true h0
 by_cases h1:x<64
 rotate_left
 ·have hb1:decide (x<64)=false:=decide_eq_false h1
  (refine Spec.hd (C:=T.cfg [] []) (rs:= [.t 4]) (T.ah _ _) Tryz.func26 rfl rfl Tryz.ntmps26 Tryz.results26 (by simp [AObj.isNest]) (by simp [AObj.isNest]) (by kernel_rfl) T.mixed fun X hX hP hC aJ bQ=> ?_)
  repeat' (first|refine Rn.p ?_|(with_reducible apply And.intro)|((first|(refine hK _ ?_;clear hK K)|with_reducible intro K hK|refine Rs.p ?_|((with_reducible first|apply oP|apply oQ);exact rfl));try simp only [go_sem,simprocAttr,hb0,hb1])|((with_reducible refine oD ?_ ?_);kernel_rfl)|((with_reducible intro h);try simp only [go_sem,simprocAttr,hb0,hb1] at h)|omega|intro h)
 have hb1:decide (x<64)=true:=decide_eq_true h1
 obtain ⟨i,rfl⟩:∃i:Nat,x=i:=⟨x.toNat,by omega⟩
 have hlt:s >>> i<18446744073709551616:=Nat.lt_of_le_of_lt (Nat.shiftRight_le s i) hs
 have ha:=HQ (s:=s) (x:=i)
 generalize hq:s >>> i=q at hlt ha
 (refine Spec.hd (C:=T.cfg [] []) (rs:= [.t 4]) (T.ah _ _) Tryz.func26 rfl rfl Tryz.ntmps26 Tryz.results26 (by simp [AObj.isNest]) (by simp [AObj.isNest]) (by kernel_rfl) T.mixed fun X hX hP hC aJ bQ=> ?_)
 repeat' (first|refine Rn.p ?_|(with_reducible apply And.intro)|((first|(refine hK _ ?_;clear hK K)|with_reducible intro K hK|refine Rs.p ?_|((with_reducible first|apply oP|apply oQ);exact rfl));try simp only [go_sem,simprocAttr,hb0,hb1,hq,ha])|((with_reducible refine oD ?_ ?_);kernel_rfl)|((with_reducible intro h);try simp only [go_sem,simprocAttr,hb0,hb1,hq,ha] at h)|omega|intro h)
theorem F6 (x:Nat) (hx:x<64):Spec Tryz.prog 114 (Args [.d (.sl 1 [[.sc (.int .i64 (x:Int))]])]) [] (eU (2 ^ x)) []:=by
 have hsh:1 <<< x % 18446744073709551616=2 ^ x:=by
  rw [Nat.shiftLeft_eq,Nat.one_mul,Nat.mod_eq_of_lt]
  exact Nat.lt_of_lt_of_le (Nat.pow_lt_pow_right (by decide) hx) (by decide)
 have hlt:2 ^ x<18446744073709551616:=Nat.lt_of_lt_of_le (Nat.pow_lt_pow_right (by decide) hx) (by decide)
 have hb1:decide (0≤(x:Int))=true:=decide_eq_true (by omega)
 have hb2:decide ((x:Int)<64)=true:=decide_eq_true (by omega)
 (refine Spec.hd (C:=T.cfg [] []) (rs:= [.t 2]) (T.ah _ _) Tryz.func114 rfl rfl Tryz.ntmps114 Tryz.results114 (by simp [AObj.isNest]) (by simp [AObj.isNest]) (by kernel_rfl) T.mixed fun X hX hP hC aJ bQ=> ?_)
 repeat' (first|refine Rn.p ?_|(with_reducible apply And.intro)|((first|(refine hK _ ?_;clear hK K)|with_reducible intro K hK|refine Rs.p ?_|((with_reducible first|apply oP|apply oQ);exact rfl));try simp only [go_sem,simprocAttr])|((with_reducible refine oD ?_ ?_);kernel_rfl)|((with_reducible intro h);try simp only [go_sem,simprocAttr] at h)|omega|intro h)
 refine ai (fun k:Nat=>k≤1) (fun k=>⟨[(2,eU (if k=0 then 0 else 2 ^ x)),(5, .d (.sl 1 [[.sc (.int .i64 (x:Int))]])),(6,eN 1),(7,eN k)], []⟩) (fun k=>1 - k) 0 (by omega) ?_ ?_
 ·refine Le.of ?_ ?_<;>simp [go_sem,simprocAttr]
 rintro k hk
 match k,hk with
 |0,_=>
  repeat' (first|refine Rn.p ?_|(with_reducible apply And.intro)|((first|(refine hK _ ?_;clear hK K)|with_reducible intro K hK|refine Rs.p ?_|((with_reducible first|apply oP|apply oQ);exact rfl));try simp only [go_sem,simprocAttr,hsh,hb1,hb2,Nat.zero_or])|((with_reducible refine oD ?_ ?_);kernel_rfl)|((with_reducible intro h);try simp only [go_sem,simprocAttr,hsh,hb1,hb2,Nat.zero_or] at h)|omega|intro h)
  all_goals (refine ⟨1,by omega, ?_,by omega⟩)
  all_goals (refine Le.of ?_ ?_<;>simp [go_sem,simprocAttr,hsh,hb1,hb2,Nat.zero_or])
 |1,_=>
  repeat' (first|refine Rn.p ?_|(with_reducible apply And.intro)|((first|(refine hK _ ?_;clear hK K)|with_reducible intro K hK|refine Rs.p ?_|((with_reducible first|apply oP|apply oQ);exact rfl));try simp only [go_sem,simprocAttr])|((with_reducible refine oD ?_ ?_);kernel_rfl)|((with_reducible intro h);try simp only [go_sem,simprocAttr] at h)|omega|intro h)
end Go.Ab
end
section
namespace Go.Ab
open Go.Proofs
attribute [local congr] ACall.congr gd.congr Nx.congr
set_option maxRecDepth 20000
set_option maxHeartbeats 8000000
def ql (k:Nat):List Nat:=(List.range k).map fun x=>2 ^ x
theorem Dy {k:Nat} :ql (k+1)=ql k++ [2 ^ k]:=by simp [ql,List.range_succ]
theorem o6 {k:Nat} :(ql k).length=k:=by simp [ql]
def fq (g:Gr):List Nat:=if aH g=true then ql g.n.toNat else []
theorem uL (g:Gr) (hl:g.es.length≤9223372036854775807):Spec Tryz.prog 64 (Args [eG g]) [] (.ref 10000) [(10000, .own 49 1 ((fq g).map rU))]:=by
 have hM:=fD g hl
 cases hm:aH g with
 |false=>
  rw [hm] at hM
  have he:fq g= []:=by unfold fq;rw [hm];rfl
  rw [he]
  (refine Spec.s7 (C:=T.cfg [200,17] []) (rs:= [.t 2]) [(10000,200)] (T.ah _ _) Tryz.func64 rfl rfl Tryz.ntmps64 Tryz.results64 (by simp [AObj.isNest]) (by simp [AObj.isNest]) (by first|(simp [look];done)|(simp [asN];done)|(intro l hl;simp only [asN];repeat (rw [if_neg (fun e=>by subst e;simp [look] at hl)]))) (by first|(simp [look];done)|(simp [asN];done)|(intro l hl;simp only [asN];repeat (rw [if_neg (fun e=>by subst e;simp [look] at hl)]))) (by kernel_rfl) T.mixed fun X hX hP hC aJ bQ=> ?_)
  repeat' (first|(show bV _ .ret _ _;(try simp only [go_sem,simprocAttr]);refine dD hX 2 200 (.own 49 1 []) ?_ ?_ (by decide) ⟨49,1,by decide, .inl rfl⟩ ?_;(iterate 2 (focus (simp only [go_sem,simprocAttr];done)));simp only [go_sem,simprocAttr])|refine Rn.p ?_|(with_reducible apply And.intro)|((first|(refine hK _ ?_;clear hK K)|with_reducible intro K hK|refine Rs.p ?_|((with_reducible first|apply oP|apply oQ);exact rfl)|refine aa hX hC hP (hM) rfl rfl rfl (by simp only [go_sem,simprocAttr]) rfl ?_);try simp only [go_sem,simprocAttr])|((with_reducible refine oD ?_ ?_);kernel_rfl)|((with_reducible intro h);try simp only [go_sem,simprocAttr] at h)|omega|intro h)
 |true=>
  rw [hm] at hM
  have hn:=aB hm
  have he:fq g=ql g.n.toNat:=by unfold fq;rw [if_pos hm]
  rw [he]
  (refine Spec.s7 (C:=T.cfg [200,17] []) (rs:= [.t 2]) [(10000,200)] (T.ah _ _) Tryz.func64 rfl rfl Tryz.ntmps64 Tryz.results64 (by simp [AObj.isNest]) (by simp [AObj.isNest]) (by first|(simp [look];done)|(simp [asN];done)|(intro l hl;simp only [asN];repeat (rw [if_neg (fun e=>by subst e;simp [look] at hl)]))) (by first|(simp [look];done)|(simp [asN];done)|(intro l hl;simp only [asN];repeat (rw [if_neg (fun e=>by subst e;simp [look] at hl)]))) (by kernel_rfl) T.mixed fun X hX hP hC aJ bQ=> ?_)
  repeat' (first|(show bV _ (.seq (.region 3 _ _) _) _ _;(refine dD hX 2 200 (.own 49 1 []) ?_ ?_ (by decide) ⟨49,1,by decide, .inl rfl⟩ ?_;(iterate 2 (focus (simp only [go_sem,simprocAttr];done)));simp only [go_sem,simprocAttr]))|refine Rn.p ?_|(with_reducible apply And.intro)|((first|(refine hK _ ?_;clear hK K)|with_reducible intro K hK|refine Rs.p ?_|((with_reducible first|apply oP|apply oQ);exact rfl)|refine aa hX hC hP (hM) rfl rfl rfl (by simp only [go_sem,simprocAttr]) rfl ?_);try simp only [go_sem,simprocAttr])|((with_reducible refine oD ?_ ?_);kernel_rfl)|((with_reducible intro h);try simp only [go_sem,simprocAttr] at h)|omega|intro h)
  refine ai (fun k:Nat=>k≤g.n.toNat) (fun k=>⟨[(2, .ref 200),(8,eN g.n),(9,eN k)], [(200, .own 49 1 ((ql k).map rU))]⟩) (fun k=>g.n.toNat - k) 0 (by omega) ?_ ?_
  ·refine Le.of ?_ ?_<;>simp [go_sem,simprocAttr,ql]
  rintro k hk
  rcases Nat.lt_or_ge k g.n.toNat with hlt|hge
  ·have hb:decide ((k:Int)<g.n)=true:=decide_eq_true (by omega)
   have q9:=o6 (k:=k)
   have cn:=Dy (k:=k)
   have R2:=F6 k (by omega)
   generalize ql k=O1 at q9 cn
   repeat' (first|(show bV _ (.region 7 _ _) _ _;(refine pM hX 2 17 200 (by simp only [go_sem,simprocAttr,hb,q9]) rfl (by first|exact .inl rfl|exact .inr rfl) (by decide) ?_;simp only [go_sem,simprocAttr,hb,q9]))|refine Rn.p ?_|(with_reducible apply And.intro)|((first|(refine hK _ ?_;clear hK K)|with_reducible intro K hK|refine Rs.p ?_|((with_reducible first|apply oP|apply oQ);exact rfl)|(refine cz hX hC hP (R2) rfl rfl rfl ?_ ?_ rfl ?_;iterate 2 (focus (simp only [go_sem,simprocAttr,hb,q9];done))));try simp only [go_sem,simprocAttr,hb,q9])|((with_reducible refine oD ?_ ?_);kernel_rfl)|((with_reducible intro h);try simp only [go_sem,simprocAttr,hb,q9] at h)|omega|intro h)
   refine ⟨k+1,by omega, ?_,by omega⟩
   rw [cn]
   refine Le.of ?_ ?_<;>simp [go_sem,simprocAttr,hb,q9,rU]
  ·have hb:decide ((k:Int)<g.n)=false:=decide_eq_false (by omega)
   obtain rfl:k=g.n.toNat:=by omega
   repeat' (first|refine Rn.p ?_|(with_reducible apply And.intro)|((first|(refine hK _ ?_;clear hK K)|with_reducible intro K hK|refine Rs.p ?_|((with_reducible first|apply oP|apply oQ);exact rfl));try simp only [go_sem,simprocAttr,hb])|((with_reducible refine oD ?_ ?_);kernel_rfl)|((with_reducible intro h);try simp only [go_sem,simprocAttr,hb] at h)|omega|intro h)
theorem MR {a b:Nat} :(!decide ((a:Int)=(b:Int)))=decide (a≠b):=by
 by_cases h:a=b
 ·simp [h]
 ·simp [h];omega
theorem Cd {g:Gr} (hn:g.n.toNat≤64) (both:Bool) (c:Nat→Bool):∃M:Nat,∀b:List Nat,Cb g both c b→qT b≤M:=
 ⟨_,fun b hb=>by have:=zP (a:=b) fun x=>hb.lt hn x;rw [hb.len] at this;exact this⟩
theorem A7 (g:Gr) (hm:aH g=true) (both:Bool) (c:Nat→Bool) (F:Nat) (hF:∀i,i<g.es.length→Spec Tryz.prog F (Args [eN i]) [] (eB (c i)) []) (a0:List Nat) (h0:Cb g both c a0):
 Spec Tryz.prog 65 (Args [eG g, .ref 10000,eB both, .fn F [] []]) [(10000, .own 49 1 (a0.map rU))] (.tup []) [(10000, .own 49 1 ((ya g both c).map rU))]:=by
 have hn:=aB hm
 obtain ⟨M,hM⟩:=Cd (g:=g) (by omega) both c
 (refine Spec.hd (C:=T.cfg [] []) (rs:= []) (T.ah _ _) Tryz.func65 rfl rfl Tryz.ntmps65 Tryz.results65 (by simp [AObj.isNest]) (by simp [AObj.isNest]) (by kernel_rfl) T.mixed fun X hX hP hC aJ bQ=> ?_)
 repeat' (first|refine Rn.p ?_|(with_reducible apply And.intro)|((first|(refine hK _ ?_;clear hK K)|with_reducible intro K hK|refine Rs.p ?_|((with_reducible first|apply oP|apply oQ);exact rfl));try simp only [go_sem,simprocAttr])|((with_reducible refine oD ?_ ?_);kernel_rfl)|((with_reducible intro h);try simp only [go_sem,simprocAttr] at h)|omega|intro h)
 refine ai (fun s:List Nat × Bool=>Cb g both c s.1∧(s.2=false→s.1=ya g both c)) (fun s=>⟨[(1, .ref 10000),(2,eB both),(3, .fn F [] []),(4, .ptr 4 0),(8,eB s.2)], [(10000, .own 49 1 (s.1.map rU)),(4, .box [eN g.n, .d (sE g.es)])]⟩) (fun s=>2*(M - qT s.1)+(if s.2=true then 1 else 0)) (a0,true) ⟨h0,by simp⟩ ?_ ?_
 ·refine Le.of ?_ ?_<;>simp [go_sem,simprocAttr]
 rintro ⟨a,more⟩ ⟨hG,mX⟩
 simp only at hG mX ⊢
 cases more with
 |false=>
  have:=mX rfl
  subst this
  repeat' (first|refine Rn.p ?_|(with_reducible apply And.intro)|((first|(refine hK _ ?_;clear hK K)|with_reducible intro K hK|refine Rs.p ?_|((with_reducible first|apply oP|apply oQ);exact rfl));try simp only [go_sem,simprocAttr])|((with_reducible refine oD ?_ ?_);kernel_rfl)|((with_reducible intro h);try simp only [go_sem,simprocAttr] at h)|omega|intro h)
 |true=>
 repeat' (first|refine Rn.p ?_|(with_reducible apply And.intro)|((first|(refine hK _ ?_;clear hK K)|with_reducible intro K hK|refine Rs.p ?_|((with_reducible first|apply oP|apply oQ);exact rfl));try simp only [go_sem,simprocAttr])|((with_reducible refine oD ?_ ?_);kernel_rfl)|((with_reducible intro h);try simp only [go_sem,simprocAttr] at h)|omega|intro h)
 refine ai (fun k:Nat=>k≤g.es.length) (fun k=>⟨[(1, .ref 10000),(2,eB both),(3, .fn F [] []),(4, .ptr 4 0),(8,eB (aT g both c a k).2),(15, .d (sE g.es)),(16,eN g.es.length),(17,eN k)], [(10000, .own 49 1 ((aT g both c a k).1.map rU)),(4, .box [eN g.n, .d (sE g.es)])]⟩) (fun k=>g.es.length - k) 0 (by omega) ?_ ?_
 ·refine Le.of ?_ ?_<;>simp [go_sem,simprocAttr,aT]
 rintro k hk
 rcases Nat.lt_or_ge k g.es.length with hlt|hge
 rotate_left
 ·have hb:decide ((k:Int)<(g.es.length:Int))=false:=decide_eq_false (by omega)
  obtain rfl:k=g.es.length:=by omega
  obtain ⟨i1,_⟩:=fm hm hG (Nat.le_refl g.es.length)
  have F7:=uK hm hG
  have zQ:=gw (g:=g) (both:=both) (c:=c) (a:=a) (k:=g.es.length)
  have hdone:=we hm hG
  have Ap:=hM _ i1
  generalize aT g both c a g.es.length=R at*
  repeat' (first|refine Rn.p ?_|(with_reducible apply And.intro)|((first|(refine hK _ ?_;clear hK K)|with_reducible intro K hK|refine Rs.p ?_|((with_reducible first|apply oP|apply oQ);exact rfl));try simp only [go_sem,simprocAttr,hb])|((with_reducible refine oD ?_ ?_);kernel_rfl)|((with_reducible intro h);try simp only [go_sem,simprocAttr,hb] at h)|omega|intro h)
  refine ⟨(R.1,R.2),⟨i1,fun hf=> ?_⟩, ?_, ?_⟩
  ·rw [(zQ hf).1];exact hdone hf
  ·refine Le.of ?_ ?_<;>simp [go_sem,simprocAttr,hb]
  ·cases L8:R.2 with
   |true=>have:=F7 L8;simp;omega
   |false=>rw [(zQ L8).1];simp
 have hb:decide ((k:Int)<(g.es.length:Int))=true:=decide_eq_true (by omega)
 obtain ⟨HR,_⟩:=fm hm hG (k:=k) (by omega)
 obtain ⟨ht,hh⟩:=cH hm hlt
 have DU:=hF k hlt
 have uM:=HR.len
 have qg:=HR.lt (by omega)
 obtain ⟨x,hx⟩:∃x:Nat,(g.es.getD k (0,0)).1=x:=⟨(g.es.getD k (0,0)).1.toNat,by omega⟩
 obtain ⟨y,hy⟩:∃y:Nat,(g.es.getD k (0,0)).2=y:=⟨(g.es.getD k (0,0)).2.toNat,by omega⟩
 have htl:(tl g k).toNat=x:=by show ((g.es.getD k (0,0)).1).toNat=x;rw [hx];rfl
 have Hz:(hd g k).toNat=y:=by show ((g.es.getD k (0,0)).2).toNat=y;rw [hy];rfl
 have cn:aT g both c a (k+1)=if c k=true then ((((aT g both c a k).1.set x ((aT g both c a k).1.getD x 0 ||| (aT g both c a k).1.getD y 0)).set y (if both=true then (aT g both c a k).1.getD x 0 ||| (aT g both c a k).1.getD y 0 else (aT g both c a k).1.getD y 0)),(aT g both c a k).2||(decide ((aT g both c a k).1.getD x 0 ||| (aT g both c a k).1.getD y 0≠(aT g both c a k).1.getD x 0)||decide ((if both=true then (aT g both c a k).1.getD x 0 ||| (aT g both c a k).1.getD y 0 else (aT g both c a k).1.getD y 0)≠(aT g both c a k).1.getD y 0))) else aT g both c a k:=by
  simp only [aT,htl,Hz]
 generalize aT g both c a k=R at HR uM qg cn
 obtain ⟨A,m1⟩:=R
 simp only at HR uM qg cn ⊢
 have OP:=qg x
 have OQ:=qg y
 cases hc:c k with
 |false=>
  rw [hc] at DU cn
  repeat' (first|refine Rn.p ?_|(with_reducible apply And.intro)|((first|(refine hK _ ?_;clear hK K)|with_reducible intro K hK|refine Rs.p ?_|((with_reducible first|apply oP|apply oQ);exact rfl)|refine aa hX hC hP (DU) rfl rfl rfl (by simp only [go_sem,simprocAttr,hb,hx,hy]) rfl ?_);try simp only [go_sem,simprocAttr,hb,hx,hy])|((with_reducible refine oD ?_ ?_);kernel_rfl)|((with_reducible intro h);try simp only [go_sem,simprocAttr,hb,hx,hy] at h)|omega|intro h)
  refine ⟨k+1,by omega, ?_,by omega⟩
  rw [cn]
  refine Le.of ?_ ?_<;>simp [go_sem,simprocAttr,hb,hx,hy]
 |true=>
  rw [hc] at DU cn
  rw [if_pos rfl] at cn
  have n1:=MR (a:=A.getD x 0 ||| A.getD y 0) (b:=A.getD x 0)
  have n2:=MR (a:=if both=true then A.getD x 0 ||| A.getD y 0 else A.getD y 0) (b:=A.getD y 0)
  have JN:A.getD x 0 ||| A.getD y 0<18446744073709551616:=Nat.or_lt_two_pow (n:=64) OP OQ
  have CX:(A.set x (A.getD x 0 ||| A.getD y 0)).length=A.length:=List.length_set ..
  generalize q8:A.getD x 0 ||| A.getD y 0=t at n1 n2 cn JN CX
  generalize L9:decide (t≠A.getD x 0)=d1 at n1 cn
  cases both with
  |true=>
   rw [if_pos rfl] at n2 cn
   generalize uG:decide (t≠A.getD y 0)=d2 at n2 cn
   clear L9 uG
   cases m1<;>cases d1<;>cases d2<;>simp only [Bool.or_false,Bool.or_true,Bool.false_or,Bool.true_or] at cn
   all_goals (repeat' (first|refine Rn.p ?_|(with_reducible apply And.intro)|((first|(refine hK _ ?_;clear hK K)|with_reducible intro K hK|refine Rs.p ?_|((with_reducible first|apply oP|apply oQ);exact rfl)|refine aa hX hC hP (DU) rfl rfl rfl (by simp only [go_sem,simprocAttr,hb,hx,hy,q8,n1,n2,uM,dI,List.length_set]) rfl ?_);try simp only [go_sem,simprocAttr,hb,hx,hy,q8,n1,n2,uM,dI,List.length_set])|((with_reducible refine oD ?_ ?_);kernel_rfl)|((with_reducible intro h);try simp only [go_sem,simprocAttr,hb,hx,hy,q8,n1,n2,uM,dI,List.length_set] at h)|omega|intro h))
   all_goals (refine ⟨k+1,by omega, ?_,by omega⟩)
   all_goals (rw [cn])
   all_goals (refine Le.of ?_ ?_<;>simp [go_sem,simprocAttr,hb,hx,hy,q8,n1,n2,uM,dI,List.length_set])
  |false=>
   rw [if_neg (by simp)] at n2 cn
   have uG:decide (A.getD y 0≠A.getD y 0)=false:=decide_eq_false fun h=>h rfl
   rw [uG] at n2 cn
   clear L9
   cases m1<;>cases d1<;>simp only [Bool.or_false,Bool.or_true,Bool.false_or,Bool.true_or] at cn
   all_goals (repeat' (first|refine Rn.p ?_|(with_reducible apply And.intro)|((first|(refine hK _ ?_;clear hK K)|with_reducible intro K hK|refine Rs.p ?_|((with_reducible first|apply oP|apply oQ);exact rfl)|refine aa hX hC hP (DU) rfl rfl rfl (by simp only [go_sem,simprocAttr,hb,hx,hy,q8,n1,n2,uM,dI,List.length_set]) rfl ?_);try simp only [go_sem,simprocAttr,hb,hx,hy,q8,n1,n2,uM,dI,List.length_set])|((with_reducible refine oD ?_ ?_);kernel_rfl)|((with_reducible intro h);try simp only [go_sem,simprocAttr,hb,hx,hy,q8,n1,n2,uM,dI,List.length_set] at h)|omega|intro h))
   all_goals (refine ⟨k+1,by omega, ?_,by omega⟩)
   all_goals (rw [cn])
   all_goals (refine Le.of ?_ ?_<;>simp [go_sem,simprocAttr,hb,hx,hy,q8,n1,n2,uM,dI,List.length_set])
theorem oJ {l:List Nat} :∀r∈l.map rU,∀x∈r,∃v,x=D.sc v:=by
 intro r hr x hx
 obtain ⟨y,_,rfl⟩:=List.mem_map.1 hr
 simp only [rU,List.mem_singleton] at hx
 exact ⟨_,hx⟩
theorem A8 (i:Nat):Spec Tryz.prog 66 (Args [eN i]) [] (eB true) []:=by
 (refine Spec.hd (C:=T.cfg [] []) (rs:= [.t 2]) (T.ah _ _) Tryz.func66 rfl rfl Tryz.ntmps66 Tryz.results66 (by simp [AObj.isNest]) (by simp [AObj.isNest]) (by kernel_rfl) T.mixed fun X hX hP hC aJ bQ=> ?_)
 repeat' (first|refine Rn.p ?_|(with_reducible apply And.intro)|((first|(refine hK _ ?_;clear hK K)|with_reducible intro K hK|refine Rs.p ?_|((with_reducible first|apply oP|apply oQ);exact rfl)|refine aa hX hC hP (DU) rfl rfl rfl (by simp only [go_sem,simprocAttr]) rfl ?_);try simp only [go_sem,simprocAttr])|((with_reducible refine oD ?_ ?_);kernel_rfl)|((with_reducible intro h);try simp only [go_sem,simprocAttr] at h)|omega|intro h)
theorem wg {g:Gr} (hm:aH g=true) {both:Bool} {c:Nat→Bool} :Cb g both c (fq g):=by
 have he:fq g=ql g.n.toNat:=by unfold fq;rw [if_pos hm]
 have pn:∀x,x<g.n.toNat→(ql g.n.toNat).getD x 0=2 ^ x:=fun x hx=>by simp [ql,List.getD_eq_getElem?_getD,List.getElem?_range hx]
 rw [he]
 refine ⟨o6,fun x hx=>by rw [pn x hx,Nat.testBit_two_pow_self],fun x y hx hb=> ?_⟩
 rw [pn x hx,Nat.testBit_two_pow] at hb
 have:x=y:=of_decide_eq_true hb
 subst this
 exact ⟨hx, .refl⟩
noncomputable def A9 (g:Gr):List Nat:=if aH g=true then ya g false (fun _=>true) else []
theorem wh (g:Gr) (hl:g.es.length≤9223372036854775807):Spec Tryz.prog 25 (Args [eG g]) [] (.d (sU (A9 g))) []:=by
 have hE:=uL g hl
 cases hm:aH g with
 |false=>
  have he:fq g= []:=by unfold fq;rw [hm];rfl
  have hf:A9 g= []:=by unfold A9;rw [hm];rfl
  rw [he] at hE
  rw [hf]
  (refine Spec.hd (C:=T.cfg [] []) (rs:= [.t 2]) (T.ah _ _) Tryz.func25 rfl rfl Tryz.ntmps25 Tryz.results25 (by simp [AObj.isNest]) (by simp [AObj.isNest]) (by kernel_rfl) T.mixed fun X hX hP hC aJ bQ=> ?_)
  repeat' (first|refine Rn.p ?_|(with_reducible apply And.intro)|((first|(refine hK _ ?_;clear hK K)|with_reducible intro K hK|refine Rs.p ?_|((with_reducible first|apply oP|apply oQ);exact rfl)|(refine dU hX hC hP 5 (hE) rfl rfl rfl ?_ ?_ (by first|exact ⟨_,_,_,rfl,oy⟩|exact ⟨_,_,_,rfl,oz⟩|exact ⟨_,_,_,rfl,oJ⟩) rfl (by decide) ?_;(iterate 2 (focus (simp only [go_sem,simprocAttr];done)));simp only [go_sem,simprocAttr]));try simp only [go_sem,simprocAttr])|((with_reducible refine oD ?_ ?_);kernel_rfl)|((with_reducible intro h);try simp only [go_sem,simprocAttr] at h)|omega|intro h)
 |true=>
  have hn:=aB hm
  have he:(fq g).length=g.n.toNat:=by unfold fq;rw [if_pos hm];exact o6
  have hf:A9 g=ya g false (fun _=>true):=by unfold A9;rw [if_pos hm]
  have hG:=A7 g hm false (fun _=>true) 66 (fun i _=>A8 i) (fq g) (wg hm)
  have hb:decide ((g.n.toNat:Int)=0)=false:=decide_eq_false (by omega)
  rw [hf]
  generalize fq g=U at hE he hG
  (refine Spec.hd (C:=T.cfg [] []) (rs:= [.t 2]) (T.ah _ _) Tryz.func25 rfl rfl Tryz.ntmps25 Tryz.results25 (by simp [AObj.isNest]) (by simp [AObj.isNest]) (by kernel_rfl) T.mixed fun X hX hP hC aJ bQ=> ?_)
  repeat' (first|refine Rn.p ?_|(with_reducible apply And.intro)|((first|(refine hK _ ?_;clear hK K)|with_reducible intro K hK|refine Rs.p ?_|((with_reducible first|apply oP|apply oQ);exact rfl)|(refine dU hX hC hP 5 (hE) rfl rfl rfl ?_ ?_ (by first|exact ⟨_,_,_,rfl,oy⟩|exact ⟨_,_,_,rfl,oz⟩|exact ⟨_,_,_,rfl,oJ⟩) rfl (by decide) ?_;(iterate 2 (focus (simp only [go_sem,simprocAttr,he,hb];done)));simp only [go_sem,simprocAttr,he,hb])|(refine ak hX hC hP [(10000,5)] (hG) rfl rfl rfl ?_ ?_ ?_ ?_ ?_ ?_ ?_ ?_ ?_ ?_ ?_ ?_ ?_ ?_;(focus (simp only [go_sem,simprocAttr,he,hb];done));(iterate 12 (focus (simp [go_sem,simprocAttr,he,hb];done)));try simp only [List.map_cons,List.map_nil]));try simp only [go_sem,simprocAttr,he,hb])|((with_reducible refine oD ?_ ?_);kernel_rfl)|((with_reducible intro h);try simp only [go_sem,simprocAttr,he,hb] at h)|omega|intro h)
end Go.Ab
end
section
namespace Go.Ab
open Go.Proofs
attribute [local congr] ACall.congr gd.congr Nx.congr
set_option maxRecDepth 20000
set_option maxHeartbeats 8000000
theorem Ba (g:Gr) (hm:aH g=true) (both:Bool) (c:Nat→Bool) (F:Nat) (i0:Int) (hF:∀i:Nat,i<g.es.length→Spec Tryz.prog F (Args [eN i, .ptr 10001 0]) [(10001, .rob [eN i0])] (eB (c i)) [(10001, .rob [eN i0])]) (a0:List Nat) (h0:Cb g both c a0):
 Spec Tryz.prog 65 (Args [eG g, .ref 10000,eB both, .fn F [] [.ptr 10001 0]]) [(10000, .own 49 1 (a0.map rU)),(10001, .box [eN i0])] (.tup []) [(10000, .own 49 1 ((ya g both c).map rU)),(10001, .box [eN i0])]:=by
 have hn:=aB hm
 obtain ⟨M,hM⟩:=Cd (g:=g) (by omega) both c
 (refine Spec.hd (C:=T.cfg [] []) (rs:= []) (T.ah _ _) Tryz.func65 rfl rfl Tryz.ntmps65 Tryz.results65 (by simp [AObj.isNest]) (by simp [AObj.isNest]) (by kernel_rfl) T.mixed fun X hX hP hC aJ bQ=> ?_)
 repeat' (first|refine Rn.p ?_|(with_reducible apply And.intro)|((first|(refine hK _ ?_;clear hK K)|with_reducible intro K hK|refine Rs.p ?_|((with_reducible first|apply oP|apply oQ);exact rfl));try simp only [go_sem,simprocAttr])|((with_reducible refine oD ?_ ?_);kernel_rfl)|((with_reducible intro h);try simp only [go_sem,simprocAttr] at h)|omega|intro h)
 refine ai (fun s:List Nat × Bool=>Cb g both c s.1∧(s.2=false→s.1=ya g both c)) (fun s=>⟨[(1, .ref 10000),(2,eB both),(3, .fn F [] [.ptr 10001 0]),(4, .ptr 4 0),(8,eB s.2)], [(10000, .own 49 1 (s.1.map rU)),(10001, .box [eN i0]),(4, .box [eN g.n, .d (sE g.es)])]⟩) (fun s=>2*(M - qT s.1)+(if s.2=true then 1 else 0)) (a0,true) ⟨h0,by simp⟩ ?_ ?_
 ·refine Le.of ?_ ?_<;>simp [go_sem,simprocAttr]
 rintro ⟨a,more⟩ ⟨hG,mX⟩
 simp only at hG mX ⊢
 cases more with
 |false=>
  have:=mX rfl
  subst this
  repeat' (first|refine Rn.p ?_|(with_reducible apply And.intro)|((first|(refine hK _ ?_;clear hK K)|with_reducible intro K hK|refine Rs.p ?_|((with_reducible first|apply oP|apply oQ);exact rfl));try simp only [go_sem,simprocAttr])|((with_reducible refine oD ?_ ?_);kernel_rfl)|((with_reducible intro h);try simp only [go_sem,simprocAttr] at h)|omega|intro h)
 |true=>
 repeat' (first|refine Rn.p ?_|(with_reducible apply And.intro)|((first|(refine hK _ ?_;clear hK K)|with_reducible intro K hK|refine Rs.p ?_|((with_reducible first|apply oP|apply oQ);exact rfl));try simp only [go_sem,simprocAttr])|((with_reducible refine oD ?_ ?_);kernel_rfl)|((with_reducible intro h);try simp only [go_sem,simprocAttr] at h)|omega|intro h)
 refine ai (fun k:Nat=>k≤g.es.length) (fun k=>⟨[(1, .ref 10000),(2,eB both),(3, .fn F [] [.ptr 10001 0]),(4, .ptr 4 0),(8,eB (aT g both c a k).2),(15, .d (sE g.es)),(16,eN g.es.length),(17,eN k)], [(10000, .own 49 1 ((aT g both c a k).1.map rU)),(10001, .box [eN i0]),(4, .box [eN g.n, .d (sE g.es)])]⟩) (fun k=>g.es.length - k) 0 (by omega) ?_ ?_
 ·refine Le.of ?_ ?_<;>simp [go_sem,simprocAttr,aT]
 rintro k hk
 rcases Nat.lt_or_ge k g.es.length with hlt|hge
 rotate_left
 ·have hb:decide ((k:Int)<(g.es.length:Int))=false:=decide_eq_false (by omega)
  obtain rfl:k=g.es.length:=by omega
  obtain ⟨i1,_⟩:=fm hm hG (Nat.le_refl g.es.length)
  have F7:=uK hm hG
  have zQ:=gw (g:=g) (both:=both) (c:=c) (a:=a) (k:=g.es.length)
  have hdone:=we hm hG
  have Ap:=hM _ i1
  generalize aT g both c a g.es.length=R at*
  repeat' (first|refine Rn.p ?_|(with_reducible apply And.intro)|((first|(refine hK _ ?_;clear hK K)|with_reducible intro K hK|refine Rs.p ?_|((with_reducible first|apply oP|apply oQ);exact rfl));try simp only [go_sem,simprocAttr,hb])|((with_reducible refine oD ?_ ?_);kernel_rfl)|((with_reducible intro h);try simp only [go_sem,simprocAttr,hb] at h)|omega|intro h)
  refine ⟨(R.1,R.2),⟨i1,fun hf=> ?_⟩, ?_, ?_⟩
  ·rw [(zQ hf).1];exact hdone hf
  ·refine Le.of ?_ ?_<;>simp [go_sem,simprocAttr,hb]
  ·cases L8:R.2 with
   |true=>have:=F7 L8;simp;omega
   |false=>rw [(zQ L8).1];simp
 have hb:decide ((k:Int)<(g.es.length:Int))=true:=decide_eq_true (by omega)
 obtain ⟨HR,_⟩:=fm hm hG (k:=k) (by omega)
 obtain ⟨ht,hh⟩:=cH hm hlt
 have DU:=hF k hlt
 have uM:=HR.len
 have qg:=HR.lt (by omega)
 obtain ⟨x,hx⟩:∃x:Nat,(g.es.getD k (0,0)).1=x:=⟨(g.es.getD k (0,0)).1.toNat,by omega⟩
 obtain ⟨y,hy⟩:∃y:Nat,(g.es.getD k (0,0)).2=y:=⟨(g.es.getD k (0,0)).2.toNat,by omega⟩
 have htl:(tl g k).toNat=x:=by show ((g.es.getD k (0,0)).1).toNat=x;rw [hx];rfl
 have Hz:(hd g k).toNat=y:=by show ((g.es.getD k (0,0)).2).toNat=y;rw [hy];rfl
 have cn:aT g both c a (k+1)=if c k=true then ((((aT g both c a k).1.set x ((aT g both c a k).1.getD x 0 ||| (aT g both c a k).1.getD y 0)).set y (if both=true then (aT g both c a k).1.getD x 0 ||| (aT g both c a k).1.getD y 0 else (aT g both c a k).1.getD y 0)),(aT g both c a k).2||(decide ((aT g both c a k).1.getD x 0 ||| (aT g both c a k).1.getD y 0≠(aT g both c a k).1.getD x 0)||decide ((if both=true then (aT g both c a k).1.getD x 0 ||| (aT g both c a k).1.getD y 0 else (aT g both c a k).1.getD y 0)≠(aT g both c a k).1.getD y 0))) else aT g both c a k:=by
  simp only [aT,htl,Hz]
 generalize aT g both c a k=R at HR uM qg cn
 obtain ⟨A,m1⟩:=R
 simp only at HR uM qg cn ⊢
 have OP:=qg x
 have OQ:=qg y
 cases hc:c k with
 |false=>
  rw [hc] at DU cn
  repeat' (first|refine Rn.p ?_|(with_reducible apply And.intro)|((first|(refine hK _ ?_;clear hK K)|with_reducible intro K hK|refine Rs.p ?_|((with_reducible first|apply oP|apply oQ);exact rfl)|(refine bt hX hC hP [(10001,10001)] (DU) rfl rfl rfl ?_ ?_ ?_ ?_ ?_ ?_ rfl rfl ?_ ?_;(focus (simp only [go_sem,simprocAttr,hb,hx,hy];done));(iterate 6 (focus (simp [go_sem,simprocAttr,hb,hx,hy];done)));try simp only [List.map_cons,List.map_nil]));try simp only [go_sem,simprocAttr,hb,hx,hy])|((with_reducible refine oD ?_ ?_);kernel_rfl)|((with_reducible intro h);try simp only [go_sem,simprocAttr,hb,hx,hy] at h)|omega|intro h)
  refine ⟨k+1,by omega, ?_,by omega⟩
  rw [cn]
  refine Le.of ?_ ?_<;>simp [go_sem,simprocAttr,hb,hx,hy]
 |true=>
  rw [hc] at DU cn
  rw [if_pos rfl] at cn
  have n1:=MR (a:=A.getD x 0 ||| A.getD y 0) (b:=A.getD x 0)
  have n2:=MR (a:=if both=true then A.getD x 0 ||| A.getD y 0 else A.getD y 0) (b:=A.getD y 0)
  have JN:A.getD x 0 ||| A.getD y 0<18446744073709551616:=Nat.or_lt_two_pow (n:=64) OP OQ
  have CX:(A.set x (A.getD x 0 ||| A.getD y 0)).length=A.length:=List.length_set ..
  generalize q8:A.getD x 0 ||| A.getD y 0=t at n1 n2 cn JN CX
  generalize L9:decide (t≠A.getD x 0)=d1 at n1 cn
  cases both with
  |true=>
   rw [if_pos rfl] at n2 cn
   generalize uG:decide (t≠A.getD y 0)=d2 at n2 cn
   clear L9 uG
   cases m1<;>cases d1<;>cases d2<;>simp only [Bool.or_false,Bool.or_true,Bool.false_or,Bool.true_or] at cn
   all_goals (repeat' (first|refine Rn.p ?_|(with_reducible apply And.intro)|((first|(refine hK _ ?_;clear hK K)|with_reducible intro K hK|refine Rs.p ?_|((with_reducible first|apply oP|apply oQ);exact rfl)|(refine bt hX hC hP [(10001,10001)] (DU) rfl rfl rfl ?_ ?_ ?_ ?_ ?_ ?_ rfl rfl ?_ ?_;(focus (simp only [go_sem,simprocAttr,hb,hx,hy,q8,n1,n2,uM,dI,List.length_set];done));(iterate 6 (focus (simp [go_sem,simprocAttr,hb,hx,hy,q8,n1,n2,uM,dI,List.length_set];done)));try simp only [List.map_cons,List.map_nil]));try simp only [go_sem,simprocAttr,hb,hx,hy,q8,n1,n2,uM,dI,List.length_set])|((with_reducible refine oD ?_ ?_);kernel_rfl)|((with_reducible intro h);try simp only [go_sem,simprocAttr,hb,hx,hy,q8,n1,n2,uM,dI,List.length_set] at h)|omega|intro h))
   all_goals (refine ⟨k+1,by omega, ?_,by omega⟩)
   all_goals (rw [cn])
   all_goals (refine Le.of ?_ ?_<;>simp [go_sem,simprocAttr,hb,hx,hy,q8,n1,n2,uM,dI,List.length_set])
  |false=>
   rw [if_neg (by simp)] at n2 cn
   have uG:decide (A.getD y 0≠A.getD y 0)=false:=decide_eq_false fun h=>h rfl
   rw [uG] at n2 cn
   clear L9
   cases m1<;>cases d1<;>simp only [Bool.or_false,Bool.or_true,Bool.false_or,Bool.true_or] at cn
   all_goals (repeat' (first|refine Rn.p ?_|(with_reducible apply And.intro)|((first|(refine hK _ ?_;clear hK K)|with_reducible intro K hK|refine Rs.p ?_|((with_reducible first|apply oP|apply oQ);exact rfl)|(refine bt hX hC hP [(10001,10001)] (DU) rfl rfl rfl ?_ ?_ ?_ ?_ ?_ ?_ rfl rfl ?_ ?_;(focus (simp only [go_sem,simprocAttr,hb,hx,hy,q8,n1,n2,uM,dI,List.length_set];done));(iterate 6 (focus (simp [go_sem,simprocAttr,hb,hx,hy,q8,n1,n2,uM,dI,List.length_set];done)));try simp only [List.map_cons,List.map_nil]));try simp only [go_sem,simprocAttr,hb,hx,hy,q8,n1,n2,uM,dI,List.length_set])|((with_reducible refine oD ?_ ?_);kernel_rfl)|((with_reducible intro h);try simp only [go_sem,simprocAttr,hb,hx,hy,q8,n1,n2,uM,dI,List.length_set] at h)|omega|intro h))
   all_goals (refine ⟨k+1,by omega, ?_,by omega⟩)
   all_goals (rw [cn])
   all_goals (refine Le.of ?_ ?_<;>simp [go_sem,simprocAttr,hb,hx,hy,q8,n1,n2,uM,dI,List.length_set])
theorem F8 (i k:Int):Spec Tryz.prog 87 (Args [eN k, .ptr 10001 0]) [(10001, .rob [eN i])] (eB (!decide (k=i))) [(10001, .rob [eN i])]:=by
 (refine Spec.hd (C:=T.cfg [] []) (rs:= [.t 3]) (T.ah _ _) Tryz.func87 rfl rfl Tryz.ntmps87 Tryz.results87 (by simp [AObj.isNest]) (by simp [AObj.isNest]) (by kernel_rfl) T.mixed fun X hX hP hC aJ bQ=> ?_)
 repeat' (first|refine Rn.p ?_|(with_reducible apply And.intro)|((first|(refine hK _ ?_;clear hK K)|with_reducible intro K hK|refine Rs.p ?_|((with_reducible first|apply oP|apply oQ);exact rfl));try simp only [go_sem,simprocAttr])|((with_reducible refine oD ?_ ?_);kernel_rfl)|((with_reducible intro h);try simp only [go_sem,simprocAttr] at h)|omega|intro h)
def o7 (i:Nat) (k:Nat):Bool:= !decide ((k:Int)=(i:Int))
noncomputable def Bb (g:Gr) (i:Nat):Bool:=((ya g false (o7 i)).getD (tl g i).toNat 0).testBit (hd g i).toNat
noncomputable def zR (g:Gr) (k:Nat):List Int:=((List.range k).filter fun i=>Bb g i).map fun i:Nat=>(i:Int)
noncomputable def cM (g:Gr):List Int:=if aH g=true then zR g g.es.length else []
theorem o8 {g:Gr} {k:Nat} :zR g (k+1)=if Bb g k=true then zR g k++ [(k:Int)] else zR g k:=by
 unfold zR
 rw [List.range_succ,List.filter_append,List.map_append]
 cases h:Bb g k with
 |true=>rw [if_pos rfl,List.filter_cons,if_pos h];rfl
 |false=>rw [if_neg (by simp),List.filter_cons,if_neg (by rw [h];decide)];simp
theorem Ce {g:Gr} {k:Nat} :(zR g k).length≤k:=by
 unfold zR
 rw [List.length_map]
 exact Nat.le_trans (List.length_filter_le _ _) (by simp)
theorem xZ (g:Gr) (hl:g.es.length≤9223372036854775807):Spec Tryz.prog 42 (Args [eG g]) [] (.d (sI (cM g))) []:=by
 have hE:=uL g hl
 (refine Spec.hd (C:=T.cfg [200,34,33] []) (rs:= [.t 2]) (T.ah _ _) Tryz.func42 rfl rfl Tryz.ntmps42 Tryz.results42 (by simp [AObj.isNest]) (by simp [AObj.isNest]) (by kernel_rfl) T.mixed fun X hX hP hC aJ bQ=> ?_)
 repeat' (first|(show bV _ (.seq (.region 1 _ _) _) _ _;(refine dD hX 2 200 (.own 3 1 []) ?_ ?_ (by decide) ⟨3,1,by decide, .inl rfl⟩ ?_;(iterate 2 (focus (simp only [go_sem,simprocAttr];done)));simp only [go_sem,simprocAttr]))|refine Rn.p ?_|(with_reducible apply And.intro)|((first|(refine hK _ ?_;clear hK K)|with_reducible intro K hK|refine Rs.p ?_|((with_reducible first|apply oP|apply oQ);exact rfl));try simp only [go_sem,simprocAttr])|((with_reducible refine oD ?_ ?_);kernel_rfl)|((with_reducible intro h);try simp only [go_sem,simprocAttr] at h)|omega|intro h)
 have hm0:aH g=false→cM g= []:=fun h=>by unfold cM;rw [h];rfl
 cases hm:aH g with
 |false=>
  have hU:fq g= []:=by unfold fq;rw [hm];rfl
  rw [hU] at hE
  rw [hm0 hm]
  cases Aa:g.es with
  |nil=>
   refine ai (fun k:Nat=>k=0) (fun _=>⟨[(1, .ptr 1 0),(2, .ref 200),(7, .d (sE [])),(8,eN 0),(9,eN 0)], [(1, .box [eN g.n, .d (sE [])]),(200, .own 3 1 [])]⟩) (fun _=>0) 0 rfl ?_ ?_
   ·refine Le.of ?_ ?_<;>simp [go_sem,simprocAttr,Aa]
   rintro k rfl
   repeat' (first|refine Rn.p ?_|(with_reducible apply And.intro)|((first|(refine hK _ ?_;clear hK K)|with_reducible intro K hK|refine Rs.p ?_|((with_reducible first|apply oP|apply oQ);exact rfl));try simp only [go_sem,simprocAttr])|((with_reducible refine oD ?_ ?_);kernel_rfl)|((with_reducible intro h);try simp only [go_sem,simprocAttr] at h)|omega|intro h)
  |cons q r=>
   have hq:g.es.length=r.length+1:=by rw [Aa];rfl
   have hb:decide ((0:Int)<((r.length+1:Nat):Int))=true:=decide_eq_true (by omega)
   refine ai (fun k:Nat=>k=0) (fun _=>⟨[(1, .ptr 1 0),(2, .ref 200),(7, .d (sE g.es)),(8,eN ((r.length+1:Nat):Int)),(9,eN 0)], [(1, .box [eN g.n, .d (sE g.es)]),(200, .own 3 1 [])]⟩) (fun _=>0) 0 rfl ?_ ?_
   ·refine Le.of ?_ ?_<;>simp [go_sem,simprocAttr,Aa]
   rintro k rfl
   repeat' (first|refine Rn.p ?_|(with_reducible apply And.intro)|((first|(refine hK _ ?_;clear hK K)|with_reducible intro K hK|refine Rs.p ?_|((with_reducible first|apply oP|apply oQ);exact rfl)|(refine dU hX hC hP 15 (hE) rfl rfl rfl ?_ ?_ (by first|exact ⟨_,_,_,rfl,oy⟩|exact ⟨_,_,_,rfl,oz⟩|exact ⟨_,_,_,rfl,oJ⟩) rfl (by decide) ?_;(iterate 2 (focus (simp only [go_sem,simprocAttr,hb];done)));simp only [go_sem,simprocAttr,hb]));try simp only [go_sem,simprocAttr,hb])|((with_reducible refine oD ?_ ?_);kernel_rfl)|((with_reducible intro h);try simp only [go_sem,simprocAttr,hb] at h)|omega|intro h)
 |true=>
  have hn:=aB hm
  have he:(fq g).length=g.n.toNat:=by unfold fq;rw [if_pos hm];exact o6
  have hb0:decide ((g.n.toNat:Int)=0)=false:=decide_eq_false (by omega)
  have hT:cM g=zR g g.es.length:=if_pos hm
  rw [hT]
  have hG:=fun i:Nat=>Ba g hm false (o7 i) 87 (i:Int) (fun k _=>F8 (i:Int) (k:Int)) (fq g) (wg hm)
  generalize fq g=U at hE he hG
  refine ai (fun k:Nat=>k≤g.es.length) (fun k=>⟨[(1, .ptr 1 0),(2, .ref 200),(7, .d (sE g.es)),(8,eN g.es.length),(9,eN k)], [(1, .box [eN g.n, .d (sE g.es)]),(200, .own 3 1 ((zR g k).map rI))]⟩) (fun k=>g.es.length - k) 0 (by omega) ?_ ?_
  ·refine Le.of ?_ ?_<;>simp [go_sem,simprocAttr,zR]
  rintro k hk
  rcases Nat.lt_or_ge k g.es.length with hlt|hge
  rotate_left
  ·have hb:decide ((k:Int)<(g.es.length:Int))=false:=decide_eq_false (by omega)
   obtain rfl:k=g.es.length:=by omega
   repeat' (first|refine Rn.p ?_|(with_reducible apply And.intro)|((first|(refine hK _ ?_;clear hK K)|with_reducible intro K hK|refine Rs.p ?_|((with_reducible first|apply oP|apply oQ);exact rfl));try simp only [go_sem,simprocAttr,hb])|((with_reducible refine oD ?_ ?_);kernel_rfl)|((with_reducible intro h);try simp only [go_sem,simprocAttr,hb] at h)|omega|intro h)
  have hb:decide ((k:Int)<(g.es.length:Int))=true:=decide_eq_true (by omega)
  have OR:=hG k
  have cn:=o8 (g:=g) (k:=k)
  have Fa:=Ce (g:=g) (k:=k)
  obtain ⟨ht,hh⟩:=cH hm hlt
  obtain ⟨x,hx⟩:∃x:Nat,(g.es.getD k (0,0)).1=x:=⟨(g.es.getD k (0,0)).1.toNat,by omega⟩
  obtain ⟨y,hy⟩:∃y:Nat,(g.es.getD k (0,0)).2=y:=⟨(g.es.getD k (0,0)).2.toNat,by omega⟩
  rw [hx] at ht
  rw [hy] at hh
  have Kn:Bb g k=((ya g false (o7 k)).getD x 0).testBit y:=by
   unfold Bb
   rw [show (tl g k).toNat=x by show ((g.es.getD k (0,0)).1).toNat=x;rw [hx];rfl,show (hd g k).toNat=y by show ((g.es.getD k (0,0)).2).toNat=y;rw [hy];rfl]
  have hrl:(ya g false (o7 k)).length=g.n.toNat:=o5
  have hH:=qk ((ya g false (o7 k)).getD x 0) (by
   rw [qi (by omega)]
   exact Nat.lt_of_lt_of_le Ca (Nat.pow_le_pow_right (by decide) (show g.n.toNat≤64 by omega))) (y:Int)
  rw [show (decide ((0:Int)≤(y:Int))&&decide ((y:Int)<64)&&((ya g false (o7 k)).getD x 0).testBit ((y:Int)).toNat)=Bb g k by
   rw [Kn,decide_eq_true (show (0:Int)≤(y:Int) by omega),decide_eq_true (show (y:Int)<64 by omega)];rfl] at hH
  generalize ya g false (o7 k)=R at OR hrl hH
  generalize zR g k=O at cn Fa
  cases hB:Bb g k with
  |true=>
   rw [hB] at hH
   rw [hB,if_pos rfl] at cn
   repeat' (first|(show bV _ (.region 10 _ _) _ _;(refine pM hX 2 34 200 (by simp only [go_sem,simprocAttr,hb,hb0,he,hx,hy,hrl]) rfl (by first|exact .inl rfl|exact .inr rfl) (by decide) ?_;simp only [go_sem,simprocAttr,hb,hb0,he,hx,hy,hrl]))|refine Rn.p ?_|(with_reducible apply And.intro)|((first|(refine hK _ ?_;clear hK K)|with_reducible intro K hK|refine Rs.p ?_|((with_reducible first|apply oP|apply oQ);exact rfl)|(refine dU hX hC hP 15 (hE) rfl rfl rfl ?_ ?_ (by first|exact ⟨_,_,_,rfl,oy⟩|exact ⟨_,_,_,rfl,oz⟩|exact ⟨_,_,_,rfl,oJ⟩) rfl (by decide) ?_;(iterate 2 (focus (simp only [go_sem,simprocAttr,hb,hb0,he,hx,hy,hrl];done)));simp only [go_sem,simprocAttr,hb,hb0,he,hx,hy,hrl])|(refine ak hX hC hP [(10000,15),(10001,3)] (OR) rfl rfl rfl ?_ ?_ ?_ ?_ ?_ ?_ ?_ ?_ ?_ ?_ ?_ ?_ ?_ ?_;(focus (simp only [go_sem,simprocAttr,hb,hb0,he,hx,hy,hrl];done));(iterate 12 (focus (simp [go_sem,simprocAttr,hb,hb0,he,hx,hy,hrl];done)));try simp only [List.map_cons,List.map_nil])|refine aa hX hC hP (hH) rfl rfl rfl (by simp only [go_sem,simprocAttr,hb,hb0,he,hx,hy,hrl]) rfl ?_);try simp only [go_sem,simprocAttr,hb,hb0,he,hx,hy,hrl])|((with_reducible refine oD ?_ ?_);kernel_rfl)|((with_reducible intro h);try simp only [go_sem,simprocAttr,hb,hb0,he,hx,hy,hrl] at h)|omega|intro h)
   refine ⟨k+1,by omega, ?_,by omega⟩
   rw [cn]
   refine Le.of ?_ ?_<;>simp [go_sem,simprocAttr,hb,hb0,he,hx,hy,hrl,rI]
  |false=>
   rw [hB] at hH
   rw [hB,if_neg (by simp)] at cn
   repeat' (first|refine Rn.p ?_|(with_reducible apply And.intro)|((first|(refine hK _ ?_;clear hK K)|with_reducible intro K hK|refine Rs.p ?_|((with_reducible first|apply oP|apply oQ);exact rfl)|(refine dU hX hC hP 15 (hE) rfl rfl rfl ?_ ?_ (by first|exact ⟨_,_,_,rfl,oy⟩|exact ⟨_,_,_,rfl,oz⟩|exact ⟨_,_,_,rfl,oJ⟩) rfl (by decide) ?_;(iterate 2 (focus (simp only [go_sem,simprocAttr,hb,hb0,he,hx,hy,hrl];done)));simp only [go_sem,simprocAttr,hb,hb0,he,hx,hy,hrl])|(refine ak hX hC hP [(10000,15),(10001,3)] (OR) rfl rfl rfl ?_ ?_ ?_ ?_ ?_ ?_ ?_ ?_ ?_ ?_ ?_ ?_ ?_ ?_;(focus (simp only [go_sem,simprocAttr,hb,hb0,he,hx,hy,hrl];done));(iterate 12 (focus (simp [go_sem,simprocAttr,hb,hb0,he,hx,hy,hrl];done)));try simp only [List.map_cons,List.map_nil])|refine aa hX hC hP (hH) rfl rfl rfl (by simp only [go_sem,simprocAttr,hb,hb0,he,hx,hy,hrl]) rfl ?_);try simp only [go_sem,simprocAttr,hb,hb0,he,hx,hy,hrl])|((with_reducible refine oD ?_ ?_);kernel_rfl)|((with_reducible intro h);try simp only [go_sem,simprocAttr,hb,hb0,he,hx,hy,hrl] at h)|omega|intro h)
   refine ⟨k+1,by omega, ?_,by omega⟩
   rw [cn]
   refine Le.of ?_ ?_<;>simp [go_sem,simprocAttr,hb,hb0,he,hx,hy,hrl]
end Go.Ab
end
section
namespace Go.Ab
open Go.Proofs
attribute [local congr] ACall.congr gd.congr Nx.congr
set_option maxRecDepth 10000
set_option maxHeartbeats 8000000
def swapT (l:List It) (k:Nat):List It:=(List.range l.length).map fun p=>if p<k∨l.length - 1<p+k then l.getD (l.length - 1 - p) (0,0,0) else l.getD p (0,0,0)
theorem cV {l:List It} {k:Nat} :(swapT l k).length=l.length:=by simp [swapT]
theorem j0 {l:List It} {k p:Nat} (h:p<l.length):(swapT l k)[p]? =some (if p<k∨l.length - 1<p+k then l.getD (l.length - 1 - p) (0,0,0) else l.getD p (0,0,0)):=by
 simp [swapT,List.getElem?_range h]
theorem uN {l:List It} {k p:Nat} (h:p<l.length) (d:It):(swapT l k).getD p d=if p<k∨l.length - 1<p+k then l.getD (l.length - 1 - p) (0,0,0) else l.getD p (0,0,0):=by
 rw [List.getD_eq_getElem?_getD,j0 h];rfl
theorem Bc {l:List It} :swapT l 0=l:=by
 refine List.ext_getElem? fun i=> ?_
 by_cases hi:i<l.length
 ·rw [j0 hi,if_neg (by omega),List.getD_eq_getElem?_getD,List.getElem?_eq_getElem hi];rfl
 ·rw [List.getElem?_eq_none (by rw [cV];omega),List.getElem?_eq_none (by omega)]
theorem Dz {l:List It} {k:Nat} (h:l.length≤2*k+1):swapT l k=l.reverse:=by
 refine List.ext_getElem? fun i=> ?_
 by_cases hi:i<l.length
 ·rw [j0 hi,List.getElem?_reverse hi]
  split
  ·rw [List.getD_eq_getElem?_getD,List.getElem?_eq_getElem (by omega)];rfl
  ·have:i=l.length - 1 - i:=by omega
   rw [← this,List.getD_eq_getElem?_getD,List.getElem?_eq_getElem hi];rfl
 ·rw [List.getElem?_eq_none (by rw [cV];omega),List.getElem?_eq_none (by rw [List.length_reverse];omega)]
theorem Bd {l:List It} {k:Nat} (h:k<l.length - 1 - k):((swapT l k).set k ((swapT l k).getD (l.length - 1 - k) (0,0,0))).set (l.length - 1 - k) ((swapT l k).getD k (0,0,0))=swapT l (k+1):=by
 refine List.ext_getElem? fun i=> ?_
 rw [List.getElem?_set,List.length_set,cV,List.getElem?_set,cV]
 by_cases hi:i<l.length
 ·rw [j0 hi,j0 hi,uN (by omega),uN (by omega)]
  by_cases h1:l.length - 1 - k=i
  ·rw [if_pos h1,if_pos (by omega),if_neg (by omega),if_pos (by omega)]
   congr 2;omega
  ·rw [if_neg h1]
   by_cases h2:k=i
   ·rw [if_pos h2,if_pos (by omega),if_neg (by omega),if_pos (by omega)]
    congr 2;omega
   ·rw [if_neg h2]
    congr 1
    by_cases h3:i<k∨l.length - 1<i+k
    ·rw [if_pos h3,if_pos (by omega)]
    ·rw [if_neg h3,if_neg (by omega)]
 ·rw [List.getElem?_eq_none (by rw [cV];omega),List.getElem?_eq_none (by rw [cV];omega),if_neg (by omega),if_neg (by omega)]
theorem F9 (l:List It) (k:Nat) (t:It):(l.map rT).set k [.sc (.int .i64 t.1), .sc (.int .i64 t.2.1), .sc (.int .i64 t.2.2)]=(l.set k t).map rT:=by
 rw [List.map_set];rfl
theorem ve (l:List It) (hl:l.length≤1000000):Spec Tryz.prog 63 (Args [.ref 10000]) [(10000, .own 100 3 (l.map rT))] (.tup []) [(10000, .own 100 3 (l.reverse.map rT))]:=by
 (refine Spec.hd (C:=T.cfg [] []) (rs:= []) (T.ah _ _) Tryz.func63 rfl rfl Tryz.ntmps63 Tryz.results63 (by simp [AObj.isNest]) (by simp [AObj.isNest]) (by kernel_rfl) T.mixed fun X hX hP hC aJ bQ=> ?_)
 repeat' (first|refine Rn.p ?_|(with_reducible apply And.intro)|((first|(refine hK _ ?_;clear hK K)|with_reducible intro K hK|refine Rs.p ?_|((with_reducible first|apply oP|apply oQ);exact rfl));try simp only [go_sem,simprocAttr])|((with_reducible refine oD ?_ ?_);kernel_rfl)|((with_reducible intro h);try simp only [go_sem,simprocAttr] at h)|omega|intro h)
 refine ai (fun k:Nat=>2*k≤l.length+1) (fun k=>⟨[(0, .ref 10000),(2,eN k),(3,eN ((l.length:Int) - 1 - k))], [(10000, .own 100 3 ((swapT l k).map rT))]⟩) (fun k=>l.length+1 - k) 0 (by omega) ?_ ?_
 ·refine Le.of ?_ ?_<;>simp [go_sem,simprocAttr,Bc]
 rintro k hk
 rcases Nat.lt_or_ge (2*k+1) l.length with hlt|hge
 ·have hb:decide ((k:Int)<(l.length:Int) - 1 - (k:Int))=true:=decide_eq_true (by omega)
  have ht:((l.length:Int) - 1 - (k:Int)).toNat=l.length - 1 - k:=by omega
  repeat' (first|refine Rn.p ?_|(with_reducible apply And.intro)|((first|(refine hK _ ?_;clear hK K)|with_reducible intro K hK|refine Rs.p ?_|((with_reducible first|apply oP|apply oQ);exact rfl));try simp only [go_sem,simprocAttr,hb,ht,cV,F9,List.length_cons,List.length_nil,List.drop_succ_cons,List.drop_zero,List.drop_nil])|((with_reducible refine oD ?_ ?_);kernel_rfl)|((with_reducible intro h);try simp only [go_sem,simprocAttr,hb,ht,cV,F9,List.length_cons,List.length_nil,List.drop_succ_cons,List.drop_zero,List.drop_nil] at h)|omega|intro h)
  refine ⟨k+1,by omega, ?_,by omega⟩
  refine Le.of ?_ ?_<;>simp [go_sem,simprocAttr]
  ·omega
  ·rw [← Bd (by omega),List.map_set,List.map_set]
   simp only [List.getD_eq_getElem?_getD]
   rfl
 ·have hb:decide ((k:Int)<(l.length:Int) - 1 - (k:Int))=false:=decide_eq_false (by omega)
  repeat' (first|refine Rn.p ?_|(with_reducible apply And.intro)|((first|(refine hK _ ?_;clear hK K)|with_reducible intro K hK|refine Rs.p ?_|((with_reducible first|apply oP|apply oQ);exact rfl));try simp only [go_sem,simprocAttr,hb])|((with_reducible refine oD ?_ ?_);kernel_rfl)|((with_reducible intro h);try simp only [go_sem,simprocAttr,hb] at h)|omega|intro h)
  simp only [go_sem,simprocAttr,hb,Dz hge]
theorem zS (ps:List It) (hl:ps.length≤1000000):
 Spec Tryz.prog 127 (Args [.d (sT ps)]) [] (.ref 10000) [(10000, .own 100 3 (ps.map rT))]:=by
 (refine Spec.s7 (C:=T.cfg [5,7] []) (rs:= [.t 2]) [(10000,7)] (T.ah _ _) Tryz.func127 rfl rfl Tryz.ntmps127 Tryz.results127 (by simp [AObj.isNest]) (by simp [AObj.isNest]) (by first|(simp [look];done)|(simp [asN];done)|(intro l hl;simp only [asN];repeat (rw [if_neg (fun e=>by subst e;simp [look] at hl)]))) (by first|(simp [look];done)|(simp [asN];done)|(intro l hl;simp only [asN];repeat (rw [if_neg (fun e=>by subst e;simp [look] at hl)]))) (by kernel_rfl) T.mixed fun X hX hP hC aJ bQ=> ?_)
 repeat' (first|(show bV _ .ret _ _;(try simp only [go_sem,simprocAttr]);refine dD hX 2 7 (.own 100 3 []) ?_ ?_ (by decide) ⟨100,3,by decide, .inl rfl⟩ ?_;(iterate 2 (focus (simp only [go_sem,simprocAttr];done)));simp only [go_sem,simprocAttr])|refine Rn.p ?_|(with_reducible apply And.intro)|((first|(refine hK _ ?_;clear hK K)|with_reducible intro K hK|refine Rs.p ?_|((with_reducible first|apply oP|apply oQ);exact rfl));try simp only [go_sem,simprocAttr])|((with_reducible refine oD ?_ ?_);kernel_rfl)|((with_reducible intro h);try simp only [go_sem,simprocAttr] at h)|omega|intro h)
 exact h.symm
theorem DA (ds:List D) (row:List It) (hr:row.length≤1000000):Spec Tryz.prog 84 (Args [.d (.pt (sT row::ds))]) [] (.ref 10000) [(10000, .own 100 3 (row.map rT))]:=by
 (refine Spec.s7 (C:=T.cfg [] []) (rs:= [.t 2]) [(10000,7)] (T.ah _ _) Tryz.func84 rfl rfl Tryz.ntmps84 Tryz.results84 (by simp [AObj.isNest]) (by simp [AObj.isNest]) (by first|(simp [look];done)|(simp [asN];done)|(intro l hl;simp only [asN];repeat (rw [if_neg (fun e=>by subst e;simp [look] at hl)]))) (by first|(simp [look];done)|(simp [asN];done)|(intro l hl;simp only [asN];repeat (rw [if_neg (fun e=>by subst e;simp [look] at hl)]))) (by kernel_rfl) T.mixed fun X hX hP hC aJ bQ=> ?_)
 repeat' (first|refine Rn.p ?_|(with_reducible apply And.intro)|((first|(refine hK _ ?_;clear hK K)|with_reducible intro K hK|refine Rs.p ?_|((with_reducible first|apply oP|apply oQ);exact rfl)|(refine ak hX hC hP [(10000,7)] (zS row hr) rfl rfl rfl ?_ ?_ ?_ ?_ ?_ ?_ ?_ ?_ ?_ ?_ ?_ ?_ ?_ ?_;(focus (simp only [go_sem,simprocAttr];done));(iterate 12 (focus (simp [go_sem,simprocAttr];done)));try simp only [List.map_cons,List.map_nil]));try simp only [go_sem,simprocAttr])|((with_reducible refine oD ?_ ?_);kernel_rfl)|((with_reducible intro h);try simp only [go_sem,simprocAttr] at h)|omega|intro h)
def wj (rs:List Int) (l:List It):Int:=match l.find? (fun t=>decide (t.2.2∈rs)) with
 |some t=>t.2.2
 |none=>rs.headD (-1)
theorem DB (rs:List Int) (l:List It) (hr:rs≠ []) (hrl:rs.length≤1000000) (hl:l.length≤1000000):Spec Tryz.prog 112 (Args [.d (sI rs), .d (sT l)]) [] (eN (wj rs l)) []:=by
 generalize hH:wj rs l=H
 (refine Spec.hd (C:=T.cfg [] []) (rs:= [.t 4]) (T.ah _ _) Tryz.func112 rfl rfl Tryz.ntmps112 Tryz.results112 (by simp [AObj.isNest]) (by simp [AObj.isNest]) (by kernel_rfl) T.mixed fun X hX hP hC aJ bQ=> ?_)
 repeat' (first|refine Rn.p ?_|(with_reducible apply And.intro)|((first|(refine hK _ ?_;clear hK K)|with_reducible intro K hK|refine Rs.p ?_|((with_reducible first|apply oP|apply oQ);exact rfl));try simp only [go_sem,simprocAttr])|((with_reducible refine oD ?_ ?_);kernel_rfl)|((with_reducible intro h);try simp only [go_sem,simprocAttr] at h)|omega|intro h)
 refine ai (fun k:Nat=>k≤l.length∧∀j,j<k→(l.getD j (0,0,0)).2.2∉rs) (fun k=>⟨[(0, .d (sI rs)),(7, .d (sT l)),(8,eN l.length),(9,eN k)], []⟩) (fun k=>l.length - k) 0 (by simp) ?_ ?_
 ·(refine Le.of ?_ ?_<;>simp [go_sem,simprocAttr])
 rintro k ⟨hk,hg⟩
 rcases Nat.lt_or_ge k l.length with cu|IP
 ·have hb:decide ((k:Int)<(l.length:Int))=true:=decide_eq_true (by omega)
  by_cases h1:(l.getD k (0,0,0)).2.2∈rs
  ·have hb1:decide ((l.getD k (0,0,0)).2.2∈rs)=true:=decide_eq_true h1
   have:(l.getD k (0,0,0)).2.2=H:=by
    rw [← hH];unfold wj
    have:l.find? (fun t=>decide (t.2.2∈rs))=some (l.getD k (0,0,0)):=by
     rw [List.find?_eq_some_iff_getElem]
     refine ⟨hb1,k,cu,by rw [List.getD_eq_getElem?_getD,List.getElem?_eq_getElem cu];rfl,fun j hj=> ?_⟩
     have:=hg j hj
     rw [List.getD_eq_getElem?_getD,List.getElem?_eq_getElem (by omega)] at this
     simpa using this
    rw [this]
   have hb2:decide (H∈rs)=true:=by rw [← this];exact hb1
   repeat' (first|refine Rn.p ?_|(with_reducible apply And.intro)|((first|(refine hK _ ?_;clear hK K)|with_reducible intro K hK|refine Rs.p ?_|((with_reducible first|apply oP|apply oQ);exact rfl)|refine aa hX hC hP (aX rs H (by omega)) rfl rfl rfl (by simp only [go_sem,simprocAttr,hb,hb2,this]) rfl ?_);try simp only [go_sem,simprocAttr,hb,hb2,this])|((with_reducible refine oD ?_ ?_);kernel_rfl)|((with_reducible intro h);try simp only [go_sem,simprocAttr,hb,hb2,this] at h)|omega|intro h)
  ·have hb1:decide ((l.getD k (0,0,0)).2.2∈rs)=false:=decide_eq_false h1
   repeat' (first|refine Rn.p ?_|(with_reducible apply And.intro)|((first|(refine hK _ ?_;clear hK K)|with_reducible intro K hK|refine Rs.p ?_|((with_reducible first|apply oP|apply oQ);exact rfl)|refine aa hX hC hP (aX rs (l.getD k (0,0,0)).2.2 (by omega)) rfl rfl rfl (by simp only [go_sem,simprocAttr,hb,hb1]) rfl ?_);try simp only [go_sem,simprocAttr,hb,hb1])|((with_reducible refine oD ?_ ?_);kernel_rfl)|((with_reducible intro h);try simp only [go_sem,simprocAttr,hb,hb1] at h)|omega|intro h)
   refine ⟨k+1,⟨by omega,fun j hj=> ?_⟩, ?_,by omega⟩
   ·by_cases e:j=k
    ·subst e;exact h1
    ·exact hg j (by omega)
   ·(refine Le.of ?_ ?_<;>simp [go_sem,simprocAttr,hb,hb1])
 ·have hb:decide ((k:Int)<(l.length:Int))=false:=decide_eq_false (by omega)
  have hpos:=List.length_pos_iff.2 hr
  have:rs.getD 0 0=H:=by
   rw [← hH];unfold wj
   have:l.find? (fun t=>decide (t.2.2∈rs))=none:=by
    rw [List.find?_eq_none]
    intro t ht
    obtain ⟨j,hj,rfl⟩:=List.mem_iff_getElem.1 ht
    have:=hg j (by omega)
    rw [List.getD_eq_getElem?_getD,List.getElem?_eq_getElem hj] at this
    simpa using this
   rw [this]
   match rs,hr with
   |a::_,_=>rfl
  repeat' (first|refine Rn.p ?_|(with_reducible apply And.intro)|((first|(refine hK _ ?_;clear hK K)|with_reducible intro K hK|refine Rs.p ?_|((with_reducible first|apply oP|apply oQ);exact rfl));try simp only [go_sem,simprocAttr,hb,this])|((with_reducible refine oD ?_ ?_);kernel_rfl)|((with_reducible intro h);try simp only [go_sem,simprocAttr,hb,this] at h)|omega|intro h)
end Go.Ab
end
section
namespace Go.Ab
open Go.Proofs
attribute [local congr] ACall.congr gd.congr Nx.congr
set_option maxRecDepth 10000
set_option maxHeartbeats 8000000
theorem HS {g:Gr} (hm:aH g=true) {f:Fr} (hi:fH g f) (rev:Bool):wj (eM g f) (jl rev f.row)=jm g f rev:=by
 unfold wj jm
 have:(fun t:It=>decide (t.2.2∈eM g f))=fun t:It=>az g f t.2.2:=by
  funext t
  cases h:az g f t.2.2 with
  |true=>exact decide_eq_true ((gI hm hi).2 h)
  |false=>exact decide_eq_false fun h2=>by rw [(gI hm hi).1 h2] at h;cases h
 rw [this]
 rfl
theorem Be (row:List It):Spec Tryz.prog 62 (Args [.ref 10000]) [(10000, .own 100 3 (row.map rT))] (.tup []) [(10000, .own 100 3 ((jl false row).map rT))]:=by
 (refine Spec.hd (C:=T.cfg [] []) (rs:= []) (T.ah _ _) Tryz.func62 rfl rfl Tryz.ntmps62 Tryz.results62 (by simp [AObj.isNest]) (by simp [AObj.isNest]) (by kernel_rfl) T.mixed fun X hX hP hC aJ bQ=> ?_)
 repeat' (first|refine Rn.p ?_|(with_reducible apply And.intro)|((first|(refine hK _ ?_;clear hK K)|with_reducible intro K hK|refine Rs.p ?_|((with_reducible first|apply oP|apply oQ);exact rfl));try simp only [go_sem,simprocAttr,jl])|((with_reducible refine oD ?_ ?_);kernel_rfl)|((with_reducible intro h);try simp only [go_sem,simprocAttr,jl] at h)|omega|intro h)
theorem Bf (row:List It) (hl:row.length≤1000000):Spec Tryz.prog 63 (Args [.ref 10000]) [(10000, .own 100 3 (row.map rT))] (.tup []) [(10000, .own 100 3 ((jl true row).map rT))]:=ve row hl
theorem wk (g:Gr) (p:Pl) (h:aY g p) (rev:Bool) (F:Nat) (Ma:∀row:List It,row.length≤1000000→Spec Tryz.prog F (Args [.ref 10000]) [(10000, .own 100 3 (row.map rT))] (.tup []) [(10000, .own 100 3 ((jl rev row).map rT))]):
 Spec Tryz.prog 61 (Args [eG g, .d (.sl 1 (vI p.outs)), .fn F [] []]) [] (.d (sI (fS g p rev g.n.toNat))) []:=by
 have hm:=an h.1
 have hn:=aB hm
 (refine Spec.hd (C:=T.cfg [] []) (rs:= [.t 6]) (T.ah _ _) Tryz.func61 rfl rfl Tryz.ntmps61 Tryz.results61 (by simp [AObj.isNest]) (by simp [AObj.isNest]) (by kernel_rfl) T.mixed fun X hX hP hC aJ bQ=> ?_)
 repeat' (first|(show bV _ (.seq (.region 3 _ _) _) _ _;(refine yQ 15 0 3 rfl rfl rfl ?_;simp only [List.set_cons_zero,List.set_cons_succ,go_sem,simprocAttr]);(refine jD hX 15 2 200 (.tip 3 1 []) rfl rfl rfl (by simp only [go_sem,simprocAttr]) (by decide) (by simp [go_sem,simprocAttr]) ⟨3,1,by decide, .inr rfl⟩ ?_;simp only [List.set_cons_zero,List.set_cons_succ,go_sem,simprocAttr]))|refine Rn.p ?_|(with_reducible apply And.intro)|((first|(refine hK _ ?_;clear hK K)|with_reducible intro K hK|refine Rs.p ?_|((with_reducible first|apply oP|apply oQ);exact rfl)|(refine iI hX hC hP [(10000,15)] (pS g (by omega) h.1 hm) rfl rfl rfl ?_ ?_ ?_ ?_ ?_ ?_ ?_ ?_ ?_ ?_ ?_ ?_ ?_ ?_;(focus (simp only [go_sem,simprocAttr];done));(iterate 12 (focus (simp [go_sem,simprocAttr];done)));try simp only [List.map_cons,List.map_nil]));try simp only [go_sem,simprocAttr])|((with_reducible refine oD ?_ ?_);kernel_rfl)|((with_reducible intro h);try simp only [go_sem,simprocAttr] at h)|omega|intro h)
 have OS:List.replicate g.n.toNat [D.sc (.int .i64 0)]=(fS g p rev 0).map rI:=by rw [fS,List.map_replicate];rfl
 rw [OS]
 refine ai (fun k:Nat=>k≤g.n.toNat) (fun k=>⟨[(1, .d (.sl 1 (vI p.outs))),(2, .fn F [] []),(7, .ptr 15 0),(9, .ref 20),(22,eN g.n),(23,eN k)], [(15, .box [.d (sT (bK g p rev k).row), .d (vw g), .ref 200]),(200, .tip 3 1 ((bK g p rev k).pl.map rI)),(20, .own 3 1 ((fS g p rev k).map rI))]⟩) (fun k=>g.n.toNat - k) 0 (by omega) ?_ ?_
 ·refine Le.of ?_ ?_<;>simp [go_sem,simprocAttr,bK]
 rintro k hk
 obtain ⟨hi,dn,_,hrl⟩:=uf h rev hk
 have hmul:k*(g.es.length+1)≤64*129:=Nat.mul_le_mul (by omega) (by omega)
 rcases Nat.lt_or_ge k g.n.toNat with cu|IP
 rotate_left
 ·have hb:decide ((k:Int)<g.n)=false:=decide_eq_false (by omega)
  obtain rfl:k=g.n.toNat:=by omega
  repeat' (first|refine Rn.p ?_|(with_reducible apply And.intro)|((first|(refine hK _ ?_;clear hK K)|with_reducible intro K hK|refine Rs.p ?_|((with_reducible first|apply oP|apply oQ);exact rfl));try simp only [go_sem,simprocAttr,hb])|((with_reducible refine oD ?_ ?_);kernel_rfl)|((with_reducible intro h);try simp only [go_sem,simprocAttr,hb] at h)|omega|intro h)
 have hb:decide ((k:Int)<g.n)=true:=decide_eq_true (by omega)
 obtain ⟨hR,hne⟩:=A0 h rev cu
 have Ik:=aE hR
 have jh:(eM g (bK g p rev k)).length≤64:=by have:=tU (g:=g) (f:=bK g p rev k) (k:=g.n.toNat);unfold eM;omega
 have hpe:=HS hm hi.tofH rev
 have hlo:(jl rev (bK g p rev k).row).length=(bK g p rev k).row.length:=by unfold jl;split<;>simp
 have MT:=DB (eM g (bK g p rev k)) (jl rev (bK g p rev k).row) hne (by omega) (by omega)
 rw [hpe] at MT
 clear hpe
 have R3:=DA [vw g,sI (bK g p rev k).pl] (bK g p rev k).row (by omega)
 have PR:=Ma (bK g p rev k).row (by omega)
 have MU:=zf g hm (bK g p rev k) (by omega) (by omega)
 have JO:=bJ h.2.1 Ik.1 Ik.2.1
 have q9:=rM h.2.1 Ik.1 Ik.2.1
 have cn:bK g p rev (k+1)=(aC g (bK g p rev k) (jm g (bK g p rev k) rev) (b8 p (jm g (bK g p rev k) rev))).2:=rfl
 have PU:fS g p rev (k+1)=(fS g p rev k).set (jm g (bK g p rev k) rev).toNat (k:Int):=rfl
 have uY:=pY (g:=g) (p:=p) (rev:=rev) (k:=k)
 generalize jm g (bK g p rev k) rev=x0 at*
 obtain ⟨x,rfl⟩:∃x:Nat,x0=x:=⟨x0.toNat,by omega⟩
 have hxl:x<p.outs.length:=by have:=h.2.1.1;omega
 have hv:=fG hxl
 have hla:b8 p (x:Int)=p.outs.getD x []:=by unfold b8;rw [Int.toNat_natCast]
 rw [hla] at JO q9 cn
 rw [Int.toNat_natCast] at PU
 have Dk:=qF g hm (bK g p rev k) hi (x:Int) (p.outs.getD x []) (by omega) (by omega) (by omega)
 have hpk:fF g (bK g p rev k) (x:Int) (p.outs.getD x [])=aC g (bK g p rev k) (x:Int) (p.outs.getD x []):=by
  unfold fF
  rw [if_neg (by rw [hR];simp),if_neg]
  rintro (h|⟨i,h1,h2⟩)
  ·exact h JO.length_eq
  ·exact h2 (JO.mem_iff.2 h1)
 rw [hpk] at Dk
 generalize p.outs.getD x []=o at hv Dk cn
 generalize eM g (bK g p rev k)=L at MT MU jh
 generalize jl rev (bK g p rev k).row=LR at MT PR hlo
 generalize R4:bK g p rev (k+1)=f' at cn
 generalize bK g p rev k=f at*
 generalize aC g f (x:Int) o=su at Dk cn
 repeat' (first|(show bV _ (.region 11 _ _) _ _;(refine dJ hX 15 2 201 200 rfl rfl rfl (by first|exact .inl rfl|exact .inr rfl) (by decide) (by decide) ?_;simp only [List.set_cons_zero,List.set_cons_succ,go_sem,simprocAttr,hb,hv,uY,ja,pq,fN]))|refine Rn.p ?_|(with_reducible apply And.intro)|((first|(refine hK _ ?_;clear hK K)|with_reducible intro K hK|refine Rs.p ?_|((with_reducible first|apply oP|apply oQ);exact rfl)|(refine dU hX hC hP 29 (R3) rfl rfl rfl ?_ ?_ (by first|exact ⟨_,_,_,rfl,oy⟩|exact ⟨_,_,_,rfl,oz⟩|exact ⟨_,_,_,rfl,oJ⟩) rfl (by decide) ?_;(iterate 2 (focus (simp only [go_sem,simprocAttr,hb,hv,uY,ja,pq,fN];done)));simp only [go_sem,simprocAttr,hb,hv,uY,ja,pq,fN])|(refine ak hX hC hP [(10000,29)] (PR) rfl rfl rfl ?_ ?_ ?_ ?_ ?_ ?_ ?_ ?_ ?_ ?_ ?_ ?_ ?_ ?_;(focus (simp only [go_sem,simprocAttr,hb,hv,uY,ja,pq,fN];done));(iterate 12 (focus (simp [go_sem,simprocAttr,hb,hv,uY,ja,pq,fN];done)));try simp only [List.map_cons,List.map_nil])|(refine lD hX hC hP 34 (MU) rfl rfl rfl ?_ ?_ (by first|exact ⟨_,_,_,rfl,oy⟩|exact ⟨_,_,_,rfl,oz⟩|exact ⟨_,_,_,rfl,oJ⟩) rfl (by decide) ?_;(iterate 2 (focus (simp only [go_sem,simprocAttr,hb,hv,uY,ja,pq,fN];done)));simp only [go_sem,simprocAttr,hb,hv,uY,ja,pq,fN])|(refine ag hX hC hP (MT) rfl rfl rfl ?_ ?_ ?_ ?_;iterate 3 (focus (simp only [go_sem,simprocAttr,hb,hv,uY,ja,pq,fN];done)))|(refine ak hX hC hP [(10000,15),(10001,200),(10002,201)] (Dk) rfl rfl rfl ?_ ?_ ?_ ?_ ?_ ?_ ?_ ?_ ?_ ?_ ?_ ?_ ?_ ?_;(focus (simp only [go_sem,simprocAttr,hb,hv,uY,ja,pq,fN];done));(iterate 12 (focus (simp [go_sem,simprocAttr,hb,hv,uY,ja,pq,fN];done)));try simp only [List.map_cons,List.map_nil]));try simp only [go_sem,simprocAttr,hb,hv,uY,ja,pq,fN])|((with_reducible refine oD ?_ ?_);kernel_rfl)|((with_reducible intro h);try simp only [go_sem,simprocAttr,hb,hv,uY,ja,pq,fN] at h)|omega|intro h)
 refine ⟨k+1,by omega, ?_,by omega⟩
 rw [PU,R4,cn]
 refine Le.of ?_ ?_<;>simp [go_sem,simprocAttr,hb,hv,uY,ja,pq,fN,rI]
def JP (b:Bool) (g:Gr) (p:Pl):List Int × List Int × Int:=
 if (bP b g p).2.1=0∧nI g=true then (fS g p false g.n.toNat,fS g p true g.n.toNat,0) else ([], [],1)
theorem Bg (g:Gr) (hl:g.es.length≤1000) (p:Pl) (hp:lR p) (b:Bool) (hr:b=true↔(bN g).1=0∧bk g p):
 Spec Tryz.prog 24 (Args [eG g,ePl p]) [] (.tup [.d (sI (JP b g p).1), .d (sI (JP b g p).2.1),eN (JP b g p).2.2]) []:=by
 have hO:=dG g hl p hp b hr
 have hI:=kO g hl
 by_cases h0:(bP b g p).2.1=0
 rotate_left
 ·have hK:JP b g p=([], [],1):=if_neg fun h=>h0 h.1
  have hb0:decide ((bP b g p).2.1=0)=false:=decide_eq_false h0
  rw [hK]
  (refine Spec.hd (C:=T.cfg [] []) (rs:= [.t 4, .t 5, .t 6]) (T.ah _ _) Tryz.func24 rfl rfl Tryz.ntmps24 Tryz.results24 (by simp [AObj.isNest]) (by simp [AObj.isNest]) (by kernel_rfl) T.mixed fun X hX hP hC aJ bQ=> ?_)
  repeat' (first|refine Rn.p ?_|(with_reducible apply And.intro)|((first|(refine hK _ ?_;clear hK K)|with_reducible intro K hK|refine Rs.p ?_|((with_reducible first|apply oP|apply oQ);exact rfl)|refine aa hX hC hP (hO) rfl rfl rfl (by simp only [go_sem,simprocAttr,hb0]) rfl ?_);try simp only [go_sem,simprocAttr,hb0])|((with_reducible refine oD ?_ ?_);kernel_rfl)|((with_reducible intro h);try simp only [go_sem,simprocAttr,hb0] at h)|omega|intro h)
 obtain ⟨hrun,hR⟩:=gu hr h0
 rw [hR] at hO
 simp only at hO
 cases Cf:nI g with
 |false=>
  have hK:JP b g p=([], [],1):=if_neg fun h=>by rw [Cf] at h;cases h.2
  rw [hK]
  rw [Cf] at hI
  (refine Spec.hd (C:=T.cfg [] []) (rs:= [.t 4, .t 5, .t 6]) (T.ah _ _) Tryz.func24 rfl rfl Tryz.ntmps24 Tryz.results24 (by simp [AObj.isNest]) (by simp [AObj.isNest]) (by kernel_rfl) T.mixed fun X hX hP hC aJ bQ=> ?_)
  repeat' (first|refine Rn.p ?_|(with_reducible apply And.intro)|((first|(refine hK _ ?_;clear hK K)|with_reducible intro K hK|refine Rs.p ?_|((with_reducible first|apply oP|apply oQ);exact rfl)|refine aa hX hC hP (hO) rfl rfl rfl (by simp only [go_sem,simprocAttr]) rfl ?_|refine aa hX hC hP (hI) rfl rfl rfl (by simp only [go_sem,simprocAttr]) rfl ?_);try simp only [go_sem,simprocAttr])|((with_reducible refine oD ?_ ?_);kernel_rfl)|((with_reducible intro h);try simp only [go_sem,simprocAttr] at h)|omega|intro h)
 |true=>
  have hK:JP b g p=(fS g p false g.n.toNat,fS g p true g.n.toNat,0):=if_pos ⟨h0,Cf⟩
  rw [hK]
  rw [Cf] at hI
  have PV:=wk g p hrun false 62 fun row _=>Be row
  have PW:=wk g p hrun true 63 fun row hl=>Bf row hl
  generalize fS g p false g.n.toNat=R0 at PV
  generalize fS g p true g.n.toNat=R1 at PW
  (refine Spec.hd (C:=T.cfg [] []) (rs:= [.t 4, .t 5, .t 6]) (T.ah _ _) Tryz.func24 rfl rfl Tryz.ntmps24 Tryz.results24 (by simp [AObj.isNest]) (by simp [AObj.isNest]) (by kernel_rfl) T.mixed fun X hX hP hC aJ bQ=> ?_)
  repeat' (first|refine Rn.p ?_|(with_reducible apply And.intro)|((first|(refine hK _ ?_;clear hK K)|with_reducible intro K hK|refine Rs.p ?_|((with_reducible first|apply oP|apply oQ);exact rfl)|refine aa hX hC hP (hO) rfl rfl rfl (by simp only [go_sem,simprocAttr]) rfl ?_|refine aa hX hC hP (hI) rfl rfl rfl (by simp only [go_sem,simprocAttr]) rfl ?_|refine aa hX hC hP (PV) rfl rfl rfl (by simp only [go_sem,simprocAttr]) rfl ?_|refine aa hX hC hP (PW) rfl rfl rfl (by simp only [go_sem,simprocAttr]) rfl ?_);try simp only [go_sem,simprocAttr])|((with_reducible refine oD ?_ ?_);kernel_rfl)|((with_reducible intro h);try simp only [go_sem,simprocAttr] at h)|omega|intro h)
end Go.Ab
end
section
namespace Go.Ab
open Go.Proofs
attribute [local congr] ACall.congr gd.congr Nx.congr
set_option maxRecDepth 10000
set_option maxHeartbeats 8000000
def PX (l:List Int) (k:Nat):List Int:=(List.range l.length).map fun p=>if p<k∨l.length - 1<p+k then l.getD (l.length - 1 - p) 0 else l.getD p 0
theorem x3 (ps:List Int) (hl:ps.length≤1000000):
 Spec Tryz.prog 71 (Args [.d (sI ps)]) [] (.ref 10000) [(10000, .own 3 1 (ps.map rI))]:=by
 (refine Spec.s7 (C:=T.cfg [5,7] []) (rs:= [.t 2]) [(10000,7)] (T.ah _ _) Tryz.func71 rfl rfl Tryz.ntmps71 Tryz.results71 (by simp [AObj.isNest]) (by simp [AObj.isNest]) (by first|(simp [look];done)|(simp [asN];done)|(intro l hl;simp only [asN];repeat (rw [if_neg (fun e=>by subst e;simp [look] at hl)]))) (by first|(simp [look];done)|(simp [asN];done)|(intro l hl;simp only [asN];repeat (rw [if_neg (fun e=>by subst e;simp [look] at hl)]))) (by kernel_rfl) T.mixed fun X hX hP hC aJ bQ=> ?_)
 repeat' (first|(show bV _ .ret _ _;(try simp only [go_sem,simprocAttr]);refine dD hX 2 7 (.own 3 1 []) ?_ ?_ (by decide) ⟨3,1,by decide, .inl rfl⟩ ?_;(iterate 2 (focus (simp only [go_sem,simprocAttr];done)));simp only [go_sem,simprocAttr])|refine Rn.p ?_|(with_reducible apply And.intro)|((first|(refine hK _ ?_;clear hK K)|with_reducible intro K hK|refine Rs.p ?_|((with_reducible first|apply oP|apply oQ);exact rfl));try simp only [go_sem,simprocAttr])|((with_reducible refine oD ?_ ?_);kernel_rfl)|((with_reducible intro h);try simp only [go_sem,simprocAttr] at h)|omega|intro h)
 exact h.symm
end Go.Ab
end
section
namespace Go.Ab
open Go.Proofs
attribute [local congr] ACall.congr gd.congr Nx.congr
set_option maxRecDepth 20000
set_option maxHeartbeats 8000000
set_option linter.unusedSectionVars false
def k7 (g:Gr) (bs:List Int) (k:Nat):List (List Int × Int):=(List.range k).map fun j:Nat=>([bs.getD j 0],g.n+(j:Int))
theorem DC {g:Gr} {bs:List Int} {k:Nat} :k7 g bs (k+1)=k7 g bs k++ [([bs.getD k 0],g.n+(k:Int))]:=by simp [k7,List.range_succ]
theorem lV {g:Gr} {bs:List Int} {k:Nat} {p:List Int × Int} :p∈k7 g bs k↔∃j:Nat,j<k∧p=([bs.getD j 0],g.n+(j:Int)):=by
 simp only [k7,List.mem_map,List.mem_range]
 constructor
 ·rintro ⟨j,h,rfl⟩;exact ⟨j,h,rfl⟩
 ·rintro ⟨j,h,rfl⟩;exact ⟨j,h,rfl⟩
theorem DD {g:Gr} {k:Nat} :jd g (k+1)=jd g k++ [[((g.es.length+k:Nat):Int)]]:=by simp [jd,List.range_succ]
theorem Ga {g:Gr} {bs:List Int} :(jc g bs).length=g.es.length+bs.length:=by simp [jc]
section
variable {g:Gr} {p:Pl} {bs:List Int} (h:aY g p) (hb:uE g bs) (hs1:g.n+bs.length≤64) (An:g.es.length+bs.length≤128)
include h hb hs1 An
theorem zT:∀ {k:Nat},k≤bs.length→(ee g bs k p.ord).length=g.n.toNat+k
 |0,_=>by rw [v7,aS h.2.1];rfl
 |k+1,hk=>by
  have hm:=an h.1
  have nH:∀u∈p.ord,u<g.n:=fun u hu=>by
   have:=h.2.1.2.1.mem_iff.1 hu
   simp only [dP,List.mem_map,List.mem_range] at this
   obtain ⟨k,hk,e⟩:=this
   have e:(k:Int)=u:=e
   omega
  have uT:=hb.oK _ (aL (d:=0) hk)
  have Hr:ew g (bs.getD k 0)∈p.ord:=by
   have htr:=aU hm (i:=(bs.getD k 0).toNat) (by omega)
   obtain ⟨l,hl,e⟩:=gy h.2.1 htr.1 htr.2
   show tl g (bs.getD k 0).toNat∈p.ord
   rw [← e,aG,List.getD_eq_getElem?_getD,List.getElem?_eq_getElem (by rw [aS h.2.1];exact hl)]
   exact List.getElem_mem _
  obtain ⟨A,B,o1,o2,_,_⟩:=v8 (k:=k) (cB h.2.1) nH Hr
  have ih:=zT (k:=k) (by omega)
  rw [o1] at ih
  rw [o2]
  simp only [List.length_append,List.length_cons] at ih ⊢
  omega
theorem Gb {k:Nat} (hk:k<bs.length):Spec Tryz.prog 118 (Args [.ptr 10000 0,eN (bs.getD k 0)]) (gY (g.n+(k:Int)) (jc g (bs.take k)) (ee g bs k p.ord) (p.outs++jd g k) (k7 g bs k)) (.tup [])
 (F4 (g.n+((k+1:Nat):Int)) (jc g (bs.take (k+1))) (ee g bs (k+1) p.ord) (p.outs++jd g (k+1)) (k7 g bs (k+1))):=by
 have hm:=an h.1
 have hn:=aB hm
 have dn:=h.2.1.1
 have bZ:=cB h.2.1
 have uT:=hb.oK _ (aL (d:=0) hk)
 obtain ⟨e,he⟩:∃e:Nat,bs.getD k 0=(e:Int):=⟨(bs.getD k 0).toNat,by omega⟩
 obtain ⟨e1,e2,e3⟩:=Dt hb hk he
 have R5:(bs.take k).length=k:=by simp;omega
 have R6:(bs.take (k+1)).length=k+1:=by simp;omega
 have hel:(jc g (bs.take k)).length=g.es.length+k:=by rw [Ga,R5]
 have ht:ew g (bs.getD k 0)=tl g e:=by rw [he];rfl
 have nH:∀u∈p.ord,u<g.n:=fun u hu=>by
  have:=h.2.1.2.1.mem_iff.1 hu
  simp only [dP,List.mem_map,List.mem_range] at this
  obtain ⟨k,hk,e⟩:=this
  have e:(k:Int)=u:=e
  omega
 have Hr:ew g (bs.getD k 0)∈p.ord:=by
  rw [ht]
  have htr:=aU hm e1
  obtain ⟨l,hl,e⟩:=gy h.2.1 htr.1 htr.2
  rw [← e,aG,List.getD_eq_getElem?_getD,List.getElem?_eq_getElem (by rw [aS h.2.1];exact hl)]
  exact List.getElem_mem _
 obtain ⟨A,B,o1,o2,o3,o4⟩:=v8 (k:=k) bZ nH Hr
 rw [ht] at o1 o2 o3
 have pn:∀i,i<g.es.length→((jc g (bs.take (k+1))).getD i (0,0)).1=tl g i:=fun i hi=>by
  have:=(cF (g:=g) (bs:=bs.take (k+1)) (e:=(i:Int)) (by omega) (by omega)).1
  exact this
 have Mb:(ee g bs k p.ord).length<1000:=by
  rw [zT h hb hs1 An (by omega)];omega
 have R7:(jd g k).length=k:=by simp [jd]
 have hinj:∀j,j<bs.length→bs.getD j 0=bs.getD k 0→j=k:=fun j hj hjk=>by
  have a:=fL hb.nd hj
  have b:=fL hb.nd hk
  rw [hjk] at a
  omega
 have key:=Dw (g.n+(k:Int)) (jc g (bs.take k)) (p.outs++jd g k) (k7 g bs k) e A (nK g bs k (tl g e)) B (tl g e) (by omega) (by omega) (by omega) (by rw [List.length_append,dn,R7];omega) (by rw [← o1];exact Mb)
  (fun q hq=> ?_) (fun q hq=> ?_) (by rw [e2]) o3 (fun u hu=> ?_) (fun u r hB=> ?_)
 ·rw [e2,show ((tl g e,hd g e):Edge).2=hd g e from rfl, ← e3, ← o1, ← o2,hel] at key
  rw [he,DD,DC,he, ← List.append_assoc,show g.n+((k+1:Nat):Int)=g.n+(k:Int)+1 by omega]
  exact key
 ·obtain ⟨j,hj,rfl⟩:=lV.1 hq
  have:=hb.oK _ (aL (d:=0) (show j<bs.length by omega))
  simp only [List.getD_cons_zero]
  omega
 ·obtain ⟨j,hj,rfl⟩:=lV.1 hq
  intro e'
  simp only [List.cons.injEq,and_true] at e'
  have:=hinj j (by omega) (by rw [he];exact e'.symm)
  omega
 ·obtain ⟨j,j1,j2,rfl⟩:=gB.1 hu
  rw [e2,show ((tl g e,hd g e):Edge).2=hd g e from rfl, ← e3]
  have yG:=hb.oK _ (aL (d:=0) (show j<bs.length by omega))
  unfold uJ
  rw [List.any_eq_true]
  refine ⟨([bs.getD j 0],g.n+(j:Int)),List.mem_append_left _ (lV.2 ⟨j,j1,rfl⟩), ?_⟩
  simp only [eo,List.getD_cons_zero,Bool.and_eq_true,decide_eq_true_eq]
  refine ⟨⟨trivial,fun e'=> ?_⟩, ?_⟩
  ·have:=hinj j (by omega) (by rw [he];omega)
   omega
  ·rw [pn _ (by omega),pn _ e1]
   exact j2
 ·rw [e2,show ((tl g e,hd g e):Edge).2=hd g e from rfl, ← e3]
  have hu:=o4 u r hB
  unfold uJ
  rw [List.any_eq_false]
  intro q hq
  have Gx:g.n≤q.2:=by
   rcases List.mem_append.1 hq with hq|hq
   ·obtain ⟨j,hj,rfl⟩:=lV.1 hq
    show g.n≤g.n+(j:Int)
    omega
   ·rw [List.mem_singleton] at hq
    subst hq
    show g.n≤g.n+(k:Int)
    omega
  simp only [eo,Bool.and_eq_true,decide_eq_true_eq]
  rintro ⟨⟨h1,_⟩,_⟩
  omega
end
end Go.Ab
end
section
namespace Go.Ab
open Go.Proofs
attribute [local congr] ACall.congr gd.congr Nx.congr
set_option maxRecDepth 10000
set_option maxHeartbeats 8000000
theorem kR {b:Bool} {g:Gr} {p:Pl} (hr:b=true↔(bN g).1=0∧bk g p) (h:aY g p):bP b g p=((fO g p g.n.toNat,aW g p),(0,0)):=by
 obtain rfl:b=true:=hr.2 ⟨h.1,h.2.1⟩
 unfold bP
 rw [if_neg (by simp),gr.2 h.2.2]
 rfl
theorem HT {b:Bool} {g:Gr} {p:Pl} (hr:b=true↔(bN g).1=0∧bk g p) (h:(mJ b g p).2.2=0):mS g p∧mJ b g p=(aq g p,bG g p,0):=by
 unfold mJ at h ⊢
 split at h
 ·cases h
 rename_i h0
 split at h
 ·cases h
 rename_i h1
 rw [if_neg h0,if_neg h1]
 exact ⟨⟨(gu hr (by simpa using h0)).1,by omega,by omega⟩,rfl⟩
theorem R8 (g:Gr) (p:Pl):∃b:Bool,(b=true↔(bN g).1=0∧bk g p):=by
 by_cases h:(bN g).1=0∧bk g p
 ·exact ⟨true,by simp [h]⟩
 ·exact ⟨false,by simp [h]⟩
end Go.Ab
end
section
namespace Go.Ab
open Go.Proofs
attribute [local congr] ACall.congr gd.congr Nx.congr
set_option maxRecDepth 20000
set_option maxHeartbeats 8000000
theorem x4 (ps:List Edge) (hl:ps.length≤1000000):
 Spec Tryz.prog 97 (Args [.d (sE ps)]) [] (.ref 10000) [(10000, .own 73 2 (ps.map rE))]:=by
 (refine Spec.s7 (C:=T.cfg [5,7] []) (rs:= [.t 2]) [(10000,7)] (T.ah _ _) Tryz.func97 rfl rfl Tryz.ntmps97 Tryz.results97 (by simp [AObj.isNest]) (by simp [AObj.isNest]) (by first|(simp [look];done)|(simp [asN];done)|(intro l hl;simp only [asN];repeat (rw [if_neg (fun e=>by subst e;simp [look] at hl)]))) (by first|(simp [look];done)|(simp [asN];done)|(intro l hl;simp only [asN];repeat (rw [if_neg (fun e=>by subst e;simp [look] at hl)]))) (by kernel_rfl) T.mixed fun X hX hP hC aJ bQ=> ?_)
 repeat' (first|(show bV _ .ret _ _;(try simp only [go_sem,simprocAttr]);refine dD hX 2 7 (.own 73 2 []) ?_ ?_ (by decide) ⟨73,2,by decide, .inl rfl⟩ ?_;(iterate 2 (focus (simp only [go_sem,simprocAttr];done)));simp only [go_sem,simprocAttr])|refine Rn.p ?_|(with_reducible apply And.intro)|((first|(refine hK _ ?_;clear hK K)|with_reducible intro K hK|refine Rs.p ?_|((with_reducible first|apply oP|apply oQ);exact rfl));try simp only [go_sem,simprocAttr])|((with_reducible refine oD ?_ ?_);kernel_rfl)|((with_reducible intro h);try simp only [go_sem,simprocAttr] at h)|omega|intro h)
 exact h.symm
theorem iW {g:Gr} :uE g (cM g):=by
 unfold cM
 split
 ·refine ⟨?_,fun i hi=> ?_⟩
  ·unfold zR
   exact List.Pairwise.map _ (fun a b hab=>by omega) (List.nodup_range.filter _)
  ·simp only [zR,List.mem_map,List.mem_filter,List.mem_range] at hi
   obtain ⟨j,⟨h1,_⟩,rfl⟩:=hi
   omega
 ·exact ⟨List.nodup_nil,by simp⟩
theorem DE (g:Gr) (hl:g.es.length≤1000) (p:Pl) (hp:lR p) (b:Bool) (hr:b=true↔(bN g).1=0∧bk g p) (hno:¬((bP b g p).2.1=0∧nI g=true)):
 Spec Tryz.prog 76 (Args [eG g,ePl p]) [] (.tup [.d (.sc (.pointer none)),eN 1]) []:=by
 have hO:=dG g hl p hp b hr
 have hI:=kO g hl
 by_cases h0:(bP b g p).2.1=0
 rotate_left
 ·have hb0:decide ((bP b g p).2.1=0)=false:=decide_eq_false h0
  (refine Spec.hd (C:=T.cfg [] []) (rs:= [.t 4, .t 5]) (T.ah _ _) Tryz.func76 rfl rfl Tryz.ntmps76 Tryz.results76 (by simp [AObj.isNest]) (by simp [AObj.isNest]) (by kernel_rfl) T.mixed fun X hX hP hC aJ bQ=> ?_)
  repeat' (first|refine Rn.p ?_|(with_reducible apply And.intro)|((first|(refine hK _ ?_;clear hK K)|with_reducible intro K hK|refine Rs.p ?_|((with_reducible first|apply oP|apply oQ);exact rfl)|refine aa hX hC hP (hO) rfl rfl rfl (by simp only [go_sem,simprocAttr,hb0]) rfl ?_);try simp only [go_sem,simprocAttr,hb0])|((with_reducible refine oD ?_ ?_);kernel_rfl)|((with_reducible intro h);try simp only [go_sem,simprocAttr,hb0] at h)|omega|intro h)
 obtain ⟨hrun,hR⟩:=gu hr h0
 rw [hR] at hO
 simp only at hO
 cases Cf:nI g with
 |true=>exact absurd ⟨h0,Cf⟩ hno
 |false=>
  rw [Cf] at hI
  (refine Spec.hd (C:=T.cfg [] []) (rs:= [.t 4, .t 5]) (T.ah _ _) Tryz.func76 rfl rfl Tryz.ntmps76 Tryz.results76 (by simp [AObj.isNest]) (by simp [AObj.isNest]) (by kernel_rfl) T.mixed fun X hX hP hC aJ bQ=> ?_)
  repeat' (first|refine Rn.p ?_|(with_reducible apply And.intro)|((first|(refine hK _ ?_;clear hK K)|with_reducible intro K hK|refine Rs.p ?_|((with_reducible first|apply oP|apply oQ);exact rfl)|refine aa hX hC hP (hO) rfl rfl rfl (by simp only [go_sem,simprocAttr]) rfl ?_|refine aa hX hC hP (hI) rfl rfl rfl (by simp only [go_sem,simprocAttr]) rfl ?_);try simp only [go_sem,simprocAttr])|((with_reducible refine oD ?_ ?_);kernel_rfl)|((with_reducible intro h);try simp only [go_sem,simprocAttr] at h)|omega|intro h)
theorem uO (g:Gr) (hl:g.es.length≤1000) (p:Pl) (hp:lR p) (b:Bool) (hr:b=true↔(bN g).1=0∧bk g p) (h0:(bP b g p).2.1=0) (Cf:nI g=true) (hbig:64<g.n+(cM g).length∨128<g.es.length+(cM g).length):
 Spec Tryz.prog 76 (Args [eG g,ePl p]) [] (.tup [.d (.sc (.pointer none)),eN 10]) []:=by
 have hO:=dG g hl p hp b hr
 have hI:=kO g hl
 have hT:=xZ g (by omega)
 obtain ⟨hrun,hR⟩:=gu hr h0
 rw [hR] at hO
 simp only at hO
 rw [Cf] at hI
 have hn:=aB (an hrun.1)
 have Fa:(cM g).length≤1000:=by
  unfold cM
  split
  ·have:=Ce (g:=g) (k:=g.es.length);omega
  ·simp
 generalize cM g=bs at hT hbig Fa
 by_cases hA:64<g.n+(bs.length:Int)
 ·have hb1:decide (64<g.n+(bs.length:Int))=true:=decide_eq_true hA
  (refine Spec.hd (C:=T.cfg [] []) (rs:= [.t 4, .t 5]) (T.ah _ _) Tryz.func76 rfl rfl Tryz.ntmps76 Tryz.results76 (by simp [AObj.isNest]) (by simp [AObj.isNest]) (by kernel_rfl) T.mixed fun X hX hP hC aJ bQ=> ?_)
  repeat' (first|refine Rn.p ?_|(with_reducible apply And.intro)|((first|(refine hK _ ?_;clear hK K)|with_reducible intro K hK|refine Rs.p ?_|((with_reducible first|apply oP|apply oQ);exact rfl)|refine aa hX hC hP (hO) rfl rfl rfl (by simp only [go_sem,simprocAttr,hb1]) rfl ?_|refine aa hX hC hP (hI) rfl rfl rfl (by simp only [go_sem,simprocAttr,hb1]) rfl ?_|refine aa hX hC hP (hT) rfl rfl rfl (by simp only [go_sem,simprocAttr,hb1]) rfl ?_);try simp only [go_sem,simprocAttr,hb1])|((with_reducible refine oD ?_ ?_);kernel_rfl)|((with_reducible intro h);try simp only [go_sem,simprocAttr,hb1] at h)|omega|intro h)
 ·have hb1:decide (64<g.n+(bs.length:Int))=false:=decide_eq_false hA
  have hb2:decide (128<(g.es.length:Int)+(bs.length:Int))=true:=decide_eq_true (by omega)
  (refine Spec.hd (C:=T.cfg [] []) (rs:= [.t 4, .t 5]) (T.ah _ _) Tryz.func76 rfl rfl Tryz.ntmps76 Tryz.results76 (by simp [AObj.isNest]) (by simp [AObj.isNest]) (by kernel_rfl) T.mixed fun X hX hP hC aJ bQ=> ?_)
  repeat' (first|refine Rn.p ?_|(with_reducible apply And.intro)|((first|(refine hK _ ?_;clear hK K)|with_reducible intro K hK|refine Rs.p ?_|((with_reducible first|apply oP|apply oQ);exact rfl)|refine aa hX hC hP (hO) rfl rfl rfl (by simp only [go_sem,simprocAttr,hb1,hb2]) rfl ?_|refine aa hX hC hP (hI) rfl rfl rfl (by simp only [go_sem,simprocAttr,hb1,hb2]) rfl ?_|refine aa hX hC hP (hT) rfl rfl rfl (by simp only [go_sem,simprocAttr,hb1,hb2]) rfl ?_);try simp only [go_sem,simprocAttr,hb1,hb2])|((with_reducible refine oD ?_ ?_);kernel_rfl)|((with_reducible intro h);try simp only [go_sem,simprocAttr,hb1,hb2] at h)|omega|intro h)
theorem wm (g:Gr) (hl:g.es.length≤1000) (p:Pl) (hp:lR p) (hrun:aY g p) (Cf:nI g=true) (bs:List Int) (R9:cM g=bs) (hs1:g.n+bs.length≤64) (An:g.es.length+bs.length≤128):
 Spec Tryz.prog 76 (Args [eG g,ePl p]) [] (.tup [.ptr 10000 0,eN 0]) (gY (g.n+bs.length) (jc g bs) (ee g bs bs.length p.ord) (p.outs++jd g bs.length) (k7 g bs bs.length)):=by
 have hO:=dG g hl p hp true ⟨fun _=>⟨hrun.1,hrun.2.1⟩,fun _=>rfl⟩
 rw [kR ⟨fun _=>⟨hrun.1,hrun.2.1⟩,fun _=>rfl⟩ hrun] at hO
 simp only at hO
 have hI:=kO g hl
 rw [Cf] at hI
 have hT:=xZ g (by omega)
 have AJ:=iW (g:=g)
 rw [R9] at hT AJ
 have hn:=aB (an hrun.1)
 have dn:=hrun.2.1.1
 have q9:=aS hrun.2.1
 have hb1:decide (64<g.n+(bs.length:Int))=false:=decide_eq_false (by omega)
 have hb2:decide (128<(g.es.length:Int)+(bs.length:Int))=false:=decide_eq_false (by omega)
 have Sa:=x4 g.es (by omega)
 have Sb:=x3 p.ord (by omega)
 have Sc:∀k,k<p.outs.length→Spec Tryz.prog 71 (Args [.d (sI (p.outs.getD k []))]) [] (.d (sI (p.outs.getD k []))) []:=fun k hk=>jg _ (by
  have h1:=(hrun.2.1.2.2 k (by omega)).length_eq
  have h2:(cm g (k:Int)).length≤g.es.length:=iw
  omega)
 unfold gY
 (refine Spec.s7 (C:=T.cfg [51,55,76,75,200] []) (rs:= [.t 4, .t 5]) [(10000,59),(10001,51),(10002,55),(10003,200),(10004,57)] (T.ah _ _) Tryz.func76 rfl rfl Tryz.ntmps76 Tryz.results76 (by simp [AObj.isNest]) (by simp [AObj.isNest]) (by first|(simp [look];done)|(simp [asN];done)|(intro l hl;simp only [asN];repeat (rw [if_neg (fun e=>by subst e;simp [look] at hl)]))) (by first|(simp [look];done)|(simp [asN];done)|(intro l hl;simp only [asN];repeat (rw [if_neg (fun e=>by subst e;simp [look] at hl)]))) (by kernel_rfl) T.mixed fun X hX hP hC aJ bQ=> ?_)
 repeat' (first|(show bV _ (.seq (.region 8 _ _) _) _ _;(refine jD hX 59 3 200 (.own 31 1 []) rfl rfl rfl (by simp only [go_sem,simprocAttr,hb1,hb2]) (by decide) (by simp [go_sem,simprocAttr,hb1,hb2]) ⟨31,1,by decide, .inl rfl⟩ ?_;simp only [List.set_cons_zero,List.set_cons_succ,go_sem,simprocAttr,hb1,hb2]))|refine Rn.p ?_|(with_reducible apply And.intro)|((first|(refine hK _ ?_;clear hK K)|with_reducible intro K hK|refine Rs.p ?_|((with_reducible first|apply oP|apply oQ);exact rfl)|refine aa hX hC hP (hO) rfl rfl rfl (by simp only [go_sem,simprocAttr,hb1,hb2]) rfl ?_|refine aa hX hC hP (hI) rfl rfl rfl (by simp only [go_sem,simprocAttr,hb1,hb2]) rfl ?_|refine aa hX hC hP (hT) rfl rfl rfl (by simp only [go_sem,simprocAttr,hb1,hb2]) rfl ?_|(refine ak hX hC hP [(10000,51)] (Sa) rfl rfl rfl ?_ ?_ ?_ ?_ ?_ ?_ ?_ ?_ ?_ ?_ ?_ ?_ ?_ ?_;(focus (simp only [go_sem,simprocAttr,hb1,hb2];done));(iterate 12 (focus (simp [go_sem,simprocAttr,hb1,hb2];done)));try simp only [List.map_cons,List.map_nil])|(refine ak hX hC hP [(10000,55)] (Sb) rfl rfl rfl ?_ ?_ ?_ ?_ ?_ ?_ ?_ ?_ ?_ ?_ ?_ ?_ ?_ ?_;(focus (simp only [go_sem,simprocAttr,hb1,hb2];done));(iterate 12 (focus (simp [go_sem,simprocAttr,hb1,hb2];done)));try simp only [List.map_cons,List.map_nil]));try simp only [go_sem,simprocAttr,hb1,hb2])|((with_reducible refine oD ?_ ?_);kernel_rfl)|((with_reducible intro h);try simp only [go_sem,simprocAttr,hb1,hb2] at h)|omega|intro h)
 refine ai (fun k:Nat=>k≤p.outs.length) (fun k=>⟨[(4, .d (.sc (.pointer none))),(5,eN 0),(9, .d (sI bs)),(10, .ptr 59 0),(61, .d (.sl 1 (vI p.outs))),(62,eN p.outs.length),(63,eN k)], [(59, .box [eN g.n, .ref 51, .ref 55, .ref 200, .mref 57]),(51, .own 73 2 (g.es.map rE)),(55, .own 3 1 (p.ord.map rI)),(200, .own 31 1 (vI (p.outs.take k))),(57, .mp 0 [])]⟩) (fun k=>p.outs.length - k) 0 (by omega) ?_ ?_
 ·refine Le.of ?_ ?_<;>simp [go_sem,simprocAttr,vI]
 rintro k hk
 rcases Nat.lt_or_ge k p.outs.length with hlt|hge
 ·have hb:decide ((k:Int)<(p.outs.length:Int))=true:=decide_eq_true (by omega)
  have hc:=Sc k hlt
  have Ae:(p.outs.take k).length=k:=by simp;omega
  have hv:vI (p.outs.take k)++ [[D.sl 1 ((p.outs.getD k []).map rI)]]=vI (p.outs.take (k+1)):=by
   rw [List.take_add_one,List.getElem?_eq_getElem hlt,Option.toList_some,JL,List.getD_eq_getElem?_getD,List.getElem?_eq_getElem hlt]
   rfl
  repeat' (first|(show bV _ (.region 12 _ _) _ _;(refine dJ hX 59 3 76 200 rfl rfl rfl (by first|exact .inl rfl|exact .inr rfl) (by decide) (by decide) ?_;simp only [List.set_cons_zero,List.set_cons_succ,go_sem,simprocAttr,hb,hv,fG hlt,Ae,sI]))|refine Rn.p ?_|(with_reducible apply And.intro)|((first|(refine hK _ ?_;clear hK K)|with_reducible intro K hK|refine Rs.p ?_|((with_reducible first|apply oP|apply oQ);exact rfl)|refine aa hX hC hP (hc) rfl rfl rfl (by simp only [go_sem,simprocAttr,hb,hv,fG hlt,Ae,sI]) rfl ?_);try simp only [go_sem,simprocAttr,hb,hv,fG hlt,Ae,sI])|((with_reducible refine oD ?_ ?_);kernel_rfl)|((with_reducible intro h);try simp only [go_sem,simprocAttr,hb,hv,fG hlt,Ae,sI] at h)|omega|intro h)
  refine ⟨k+1,by omega, ?_,by omega⟩
  refine Le.of ?_ ?_<;>simp [go_sem,simprocAttr,hb,hv,fG hlt,Ae,sI]
 ·have hb:decide ((k:Int)<(p.outs.length:Int))=false:=decide_eq_false (by omega)
  obtain rfl:k=p.outs.length:=by omega
  rw [List.take_length]
  repeat' (first|refine Rn.p ?_|(with_reducible apply And.intro)|((first|(refine hK _ ?_;clear hK K)|with_reducible intro K hK|refine Rs.p ?_|((with_reducible first|apply oP|apply oQ);exact rfl));try simp only [go_sem,simprocAttr,hb])|((with_reducible refine oD ?_ ?_);kernel_rfl)|((with_reducible intro h);try simp only [go_sem,simprocAttr,hb] at h)|omega|intro h)
  refine ai (fun k:Nat=>k≤bs.length) (fun k=>⟨[(4, .d (.sc (.pointer none))),(5,eN 0),(10, .ptr 59 0),(81, .d (sI bs)),(82,eN bs.length),(83,eN k)], [(59, .box [eN (g.n+(k:Int)), .ref 51, .ref 55, .ref 200, .mref 57]),(51, .own 73 2 ((jc g (bs.take k)).map rE)),(55, .own 3 1 ((ee g bs k p.ord).map rI)),(200, .own 31 1 (vI (p.outs++jd g k))),(57, .mp 0 (k7 g bs k))]⟩) (fun k=>bs.length - k) 0 (by omega) ?_ ?_
  ·refine Le.of ?_ ?_<;>simp [go_sem,simprocAttr,Du,v7,jd,k7]
  rintro k hk
  rcases Nat.lt_or_ge k bs.length with hlt|hge
  ·have hb3:decide ((k:Int)<(bs.length:Int))=true:=decide_eq_true (by omega)
   have hL:=Gb hrun AJ hs1 An hlt
   repeat' (first|(show bV _ (.region 17 _ _) _ _;(refine dJ hX 59 1 301 51 rfl rfl rfl (by first|exact .inl rfl|exact .inr rfl) (by decide) (by decide) ?_;simp only [List.set_cons_zero,List.set_cons_succ,go_sem,simprocAttr,hb3,gY,F4]);(refine dJ hX 59 2 302 55 rfl rfl rfl (by first|exact .inl rfl|exact .inr rfl) (by decide) (by decide) ?_;simp only [List.set_cons_zero,List.set_cons_succ,go_sem,simprocAttr,hb3,gY,F4]);(refine dJ hX 59 3 303 200 rfl rfl rfl (by first|exact .inl rfl|exact .inr rfl) (by decide) (by decide) ?_;simp only [List.set_cons_zero,List.set_cons_succ,go_sem,simprocAttr,hb3,gY,F4]))|refine Rn.p ?_|(with_reducible apply And.intro)|((first|(refine hK _ ?_;clear hK K)|with_reducible intro K hK|refine Rs.p ?_|((with_reducible first|apply oP|apply oQ);exact rfl)|(refine ak hX hC hP [(10000,59),(10001,51),(10002,55),(10003,200),(10004,57),(10011,301),(10012,302),(10013,303)] (hL) rfl rfl rfl ?_ ?_ ?_ ?_ ?_ ?_ ?_ ?_ ?_ ?_ ?_ ?_ ?_ ?_;(focus (simp only [go_sem,simprocAttr,hb3,gY,F4];done));(iterate 12 (focus (simp [go_sem,simprocAttr,hb3,gY,F4];done)));try simp only [List.map_cons,List.map_nil]));try simp only [go_sem,simprocAttr,hb3,gY,F4])|((with_reducible refine oD ?_ ?_);kernel_rfl)|((with_reducible intro h);try simp only [go_sem,simprocAttr,hb3,gY,F4] at h)|omega|intro h)
   refine ⟨k+1,by omega, ?_,by omega⟩
   refine Le.of ?_ ?_<;>simp [go_sem,simprocAttr,hb3,gY,F4]
  ·have hb3:decide ((k:Int)<(bs.length:Int))=false:=decide_eq_false (by omega)
   obtain rfl:k=bs.length:=by omega
   rw [List.take_length]
   repeat' (first|refine Rn.p ?_|(with_reducible apply And.intro)|((first|(refine hK _ ?_;clear hK K)|with_reducible intro K hK|refine Rs.p ?_|((with_reducible first|apply oP|apply oQ);exact rfl));try simp only [go_sem,simprocAttr,hb3])|((with_reducible refine oD ?_ ?_);kernel_rfl)|((with_reducible intro h);try simp only [go_sem,simprocAttr,hb3] at h)|omega|intro h)
end Go.Ab
end
section
namespace Go.Ab
open Go.Proofs
attribute [local congr] ACall.congr gd.congr Nx.congr
set_option maxRecDepth 20000
set_option maxHeartbeats 8000000
noncomputable def qU (b:Bool) (g:Gr) (p:Pl):Gr × Pl × Int:=
 if (bP b g p).2.1=0∧nI g=true then (if 64<g.n+(cM g).length∨128<g.es.length+(cM g).length then (gz,pz,10) else (aD g (cM g),lU g p (cM g),0)) else (gz,pz,1)
theorem x5 (g:Gr) (hl:g.es.length≤1000) (p:Pl) (hp:lR p) (b:Bool) (hr:b=true↔(bN g).1=0∧bk g p):
 Spec Tryz.prog 38 (Args [eG g,ePl p]) [] (.tup [eG (qU b g p).1,ePl (qU b g p).2.1,eN (qU b g p).2.2]) []:=by
 by_cases h0:(bP b g p).2.1=0∧nI g=true
 rotate_left
 ·have hN:=DE g hl p hp b hr h0
  have hK:qU b g p=(gz,pz,1):=if_neg h0
  rw [hK]
  (refine Spec.hd (C:=T.cfg [] []) (rs:= [.c 4 24, .c 5 34, .t 6]) (T.ah _ _) Tryz.func38 rfl rfl Tryz.ntmps38 Tryz.results38 (by simp [AObj.isNest]) (by simp [AObj.isNest]) (by kernel_rfl) T.mixed fun X hX hP hC aJ bQ=> ?_)
  repeat' (first|refine Rn.p ?_|(with_reducible apply And.intro)|((first|(refine hK _ ?_;clear hK K)|with_reducible intro K hK|refine Rs.p ?_|((with_reducible first|apply oP|apply oQ);exact rfl)|refine aa hX hC hP (hN) rfl rfl rfl (by simp only [go_sem,simprocAttr,gz,pz]) rfl ?_);try simp only [go_sem,simprocAttr,gz,pz])|((with_reducible refine oD ?_ ?_);kernel_rfl)|((with_reducible intro h);try simp only [go_sem,simprocAttr,gz,pz] at h)|omega|intro h)
  rfl
 by_cases h1:64<g.n+(cM g).length∨128<g.es.length+(cM g).length
 ·have hN:=uO g hl p hp b hr h0.1 h0.2 h1
  have hK:qU b g p=(gz,pz,10):=by unfold qU;rw [if_pos h0,if_pos h1]
  rw [hK]
  (refine Spec.hd (C:=T.cfg [] []) (rs:= [.c 4 24, .c 5 34, .t 6]) (T.ah _ _) Tryz.func38 rfl rfl Tryz.ntmps38 Tryz.results38 (by simp [AObj.isNest]) (by simp [AObj.isNest]) (by kernel_rfl) T.mixed fun X hX hP hC aJ bQ=> ?_)
  repeat' (first|refine Rn.p ?_|(with_reducible apply And.intro)|((first|(refine hK _ ?_;clear hK K)|with_reducible intro K hK|refine Rs.p ?_|((with_reducible first|apply oP|apply oQ);exact rfl)|refine aa hX hC hP (hN) rfl rfl rfl (by simp only [go_sem,simprocAttr,gz,pz]) rfl ?_);try simp only [go_sem,simprocAttr,gz,pz])|((with_reducible refine oD ?_ ?_);kernel_rfl)|((with_reducible intro h);try simp only [go_sem,simprocAttr,gz,pz] at h)|omega|intro h)
  rfl
 have hK:qU b g p=(aD g (cM g),lU g p (cM g),0):=by unfold qU;rw [if_pos h0,if_neg h1]
 rw [hK]
 obtain ⟨hrun,_⟩:=gu hr h0.1
 have hN:=wm g hl p hp hrun h0.2 (cM g) rfl (by omega) (by omega)
 generalize cM g=bs at hN
 (refine Spec.hd (C:=T.cfg [] []) (rs:= [.c 4 24, .c 5 34, .t 6]) (T.ah _ _) Tryz.func38 rfl rfl Tryz.ntmps38 Tryz.results38 (by simp [AObj.isNest]) (by simp [AObj.isNest]) (by kernel_rfl) T.mixed fun X hX hP hC aJ bQ=> ?_)
 repeat' (first|refine Rn.p ?_|(with_reducible apply And.intro)|((first|(refine hK _ ?_;clear hK K)|with_reducible intro K hK|refine Rs.p ?_|((with_reducible first|apply oP|apply oQ);exact rfl)|(refine ak hX hC hP [(10000,300),(10001,301),(10002,302),(10003,303),(10004,304)] (hN) rfl rfl rfl ?_ ?_ ?_ ?_ ?_ ?_ ?_ ?_ ?_ ?_ ?_ ?_ ?_ ?_;(focus (simp only [go_sem,simprocAttr,gY,aD,lU];done));(iterate 12 (focus (simp [go_sem,simprocAttr,gY,aD,lU];done)));try simp only [List.map_cons,List.map_nil]));try simp only [go_sem,simprocAttr,gY,aD,lU])|((with_reducible refine oD ?_ ?_);kernel_rfl)|((with_reducible intro h);try simp only [go_sem,simprocAttr,gY,aD,lU] at h)|omega|intro h)
end Go.Ab
end
section
namespace Go.Ab
open Go.Proofs
set_option maxRecDepth 10000
def wo (g:Gr) (both:Bool) (c:Nat→Bool) (a:List Bool):Nat→List Bool
 |0=>a
 |k+1=>if c k&&((wo g both c a k).getD (tl g k).toNat false||both&&(wo g both c a k).getD (hd g k).toNat false) then
   ((wo g both c a k).set (hd g k).toNat true).set (tl g k).toNat (((wo g both c a k).set (hd g k).toNat true).getD (tl g k).toNat false||both) else wo g both c a k
def xh (g:Gr) (both:Bool) (c:Nat→Bool) (a:List Bool):Nat→List Bool
 |0=>a
 |r+1=>wo g both c (xh g both c a r) g.es.length
theorem j5 {l:List Bool} {i j:Nat} {a:Bool} (hi:i<l.length):(l.set i a).getD j false=if j=i then a else l.getD j false:=by
 rw [List.getD_eq_getElem?_getD,List.getElem?_set]
 by_cases h:i=j
 ·subst h;simp [hi]
 ·rw [if_neg h,if_neg (fun e=>h e.symm),List.getD_eq_getElem?_getD]
theorem rY {g:Gr} {both:Bool} {c:Nat→Bool} {a:List Bool} :∀ {k:Nat},(wo g both c a k).length=a.length
 |0=>rfl
 |k+1=>by
  rw [wo]
  split
  ·rw [List.length_set,List.length_set];exact rY
  ·exact rY
theorem gC {g:Gr} {both:Bool} {c:Nat→Bool} {a:List Bool} :∀ {r:Nat},(xh g both c a r).length=a.length
 |0=>rfl
 |r+1=>by rw [xh,rY];exact gC
section
variable {g:Gr} (hm:aH g=true) {both:Bool} {c:Nat→Bool}
include hm
theorem Cg {k:Nat} (hk:k<g.es.length):(tl g k).toNat<g.n.toNat∧(hd g k).toNat<g.n.toNat:=by
 have h1:=aU hm hk
 have h2:=aZ hm hk
 omega
theorem lW {a:List Bool} (ha:a.length=g.n.toNat) {k:Nat} (hk:k<g.es.length) {y:Nat} :(wo g both c a (k+1)).getD y false=true↔
 (wo g both c a k).getD y false=true∨c k=true∧((wo g both c a k).getD (tl g k).toNat false=true∧(y=(hd g k).toNat)∨both=true∧(wo g both c a k).getD (hd g k).toNat false=true∧y=(tl g k).toNat):=by
 obtain ⟨ht,hh⟩:=Cg hm hk
 have hl:(wo g both c a k).length=g.n.toNat:=by rw [rY,ha]
 rw [wo]
 generalize wo g both c a k=b at hl
 cases hc:c k with
 |false=>simp
 |true=>
  simp only [Bool.true_and]
  by_cases hq:(b.getD (tl g k).toNat false||both&&b.getD (hd g k).toNat false)=true
  ·rw [if_pos hq,j5 (by rw [List.length_set,hl];exact ht),j5 (by rw [hl];exact hh),j5 (by rw [hl];exact hh)]
   by_cases e1:y=(tl g k).toNat
   ·subst e1
    rw [if_pos rfl]
    by_cases e2:(tl g k).toNat=(hd g k).toNat
    ·rw [if_pos e2]
     simp only [Bool.true_or,true_iff]
     cases hb:b.getD (tl g k).toNat false with
     |true=>exact .inl rfl
     |false=>
      rw [hb] at hq
      rw [← e2,hb] at hq
      simp at hq
    ·rw [if_neg e2]
     cases hb:b.getD (tl g k).toNat false with
     |true=>simp
     |false=>
      rw [hb] at hq
      simp only [Bool.false_or,Bool.and_eq_true] at hq
      exact ⟨fun _=> .inr ⟨by simp, .inr ⟨hq.1,hq.2,rfl⟩⟩,fun _=>by rw [hq.1];rfl⟩
   ·rw [if_neg e1]
    by_cases e2:y=(hd g k).toNat
    ·subst e2
     rw [if_pos rfl]
     simp only [true_iff]
     cases hb:b.getD (tl g k).toNat false with
     |true=>exact .inr ⟨by simp, .inl ⟨by simp,by simp⟩⟩
     |false=>
      rw [hb] at hq
      simp only [Bool.false_or,Bool.and_eq_true] at hq
      exact .inl hq.2
    ·rw [if_neg e2]
     constructor
     ·intro h;exact .inl h
     ·rintro (h|⟨_,⟨_,h⟩|⟨_,_,h⟩⟩)
      ·exact h
      ·exact absurd h e2
      ·exact absurd h e1
  ·rw [if_neg hq]
   simp only [Bool.or_eq_true,Bool.and_eq_true,not_or,not_and] at hq
   constructor
   ·intro h;exact .inl h
   ·rintro (h|⟨_,⟨h,_⟩|⟨h1,h2,_⟩⟩)
    ·exact h
    ·exact absurd h hq.1
    ·exact absurd h2 (hq.2 h1)
theorem iX {a:List Bool} (ha:a.length=g.n.toNat) {y:Nat} (hy:a.getD y false=true):∀ {k:Nat},k≤g.es.length→(wo g both c a k).getD y false=true
 |0,_=>hy
 |k+1,hk=>(lW hm ha hk).2 (.inl (iX ha hy (by omega)))
theorem Ch {a:List Bool} (ha:a.length=g.n.toNat) {x:Nat} (hs:∀y,a.getD y false=true→kQ g both c x y):∀ {k:Nat},k≤g.es.length→∀y,(wo g both c a k).getD y false=true→kQ g both c x y
 |0,_,y,h=>hs y h
 |k+1,hk,y,h=>by
  have ih:=Ch ha hs (k:=k) (by omega)
  rcases (lW hm ha hk).1 h with h|⟨hc,⟨h1,rfl⟩|⟨h0,h1,rfl⟩⟩
  ·exact ih y h
  ·exact .fwd hk hc (ih _ h1)
  ·exact .DT hk hc h0 (ih _ h1)
theorem HU {a:List Bool} (ha:a.length=g.n.toNat) (hf:∀y,(wo g both c a g.es.length).getD y false=true→a.getD y false=true) {x y:Nat} (hx:a.getD x false=true) (h:kQ g both c x y):a.getD y false=true:=by
 have up:∀ {j k:Nat},j≤k→k≤g.es.length→∀y,(wo g both c a j).getD y false=true→(wo g both c a k).getD y false=true:=by
  intro j k hjk
  induction hjk with
  |refl=>intro _ y h;exact h
  |step _ ih=>intro hk y h;exact (lW hm ha hk).2 (.inl (ih (by omega) y h))
 induction h with
 |refl=>exact hx
 | @fwd k hk hc _ ih=>exact hf _ (up (show k+1≤g.es.length from hk) (Nat.le_refl _) _ ((lW hm ha hk).2 (.inr ⟨hc, .inl ⟨iX hm ha ih (by omega),rfl⟩⟩)))
 | @DT k hk hc OO _ ih=>exact hf _ (up (show k+1≤g.es.length from hk) (Nat.le_refl _) _ ((lW hm ha hk).2 (.inr ⟨hc, .inr ⟨OO,iX hm ha ih (by omega),rfl⟩⟩)))
theorem Ci {a:List Bool} (ha:a.length=g.n.toNat) {x:Nat} (hs:∀y,a.getD y false=true→kQ g both c x y):∀r y,(xh g both c a r).getD y false=true→kQ g both c x y
 |0,y,h=>hs y h
 |r+1,y,h=>Ch hm (by rw [gC];exact ha) (Ci ha hs r) (Nat.le_refl _) y h
def o9 (a:List Bool):Nat:=a.countP id
omit hm in
theorem Gc:∀ {a b:List Bool},a.length=b.length→(∀y,a.getD y false=true→b.getD y false=true)→(∃y,b.getD y false=true∧a.getD y false=false)→o9 a<o9 b∧True
 | [], [],_,_,⟨y,h,_⟩=>by simp at h
 |p::a,q::b,hl,h,⟨y,h1,h2⟩=>by
  have le:∀ {a b:List Bool},a.length=b.length→(∀y,a.getD y false=true→b.getD y false=true)→o9 a≤o9 b:=by
   intro a
   induction a with
   |nil=>intro b _ _;exact Nat.zero_le _
   |cons p a ih=>
    intro b hl h
    cases b with
    |nil=>simp at hl
    |cons q b=>
     have:=ih (b:=b) (by simpa using hl) fun y=>by simpa using h (y+1)
     have h0:=h 0
     simp only [List.getD_cons_zero] at h0
     unfold o9 at this ⊢
     rw [List.countP_cons,List.countP_cons]
     cases p with
     |false=>simp;omega
     |true=>simp [h0 rfl];omega
  have hl':a.length=b.length:=by simpa using hl
  have h':∀y,a.getD y false=true→b.getD y false=true:=fun y=>by simpa using h (y+1)
  refine ⟨?_,trivial⟩
  have hle:=le hl' h'
  unfold o9 at hle ⊢
  rw [List.countP_cons,List.countP_cons]
  cases y with
  |zero=>
   simp only [List.getD_cons_zero] at h1 h2
   subst h1 h2
   simp;omega
  |succ y=>
   have ih:=(Gc hl' h' ⟨y,by simpa using h1,by simpa using h2⟩).1
   unfold o9 at ih
   have h0:=h 0
   simp only [List.getD_cons_zero] at h0
   cases p with
   |false=>simp;omega
   |true=>simp [h0 rfl];omega
omit hm in
theorem JQ (a:List Bool):o9 a≤a.length:=List.countP_le_length
theorem Gd {a:List Bool} (ha:a.length=g.n.toNat) (r:Nat):(∀y,(xh g both c a (r+1)).getD y false=true→(xh g both c a r).getD y false=true)∨o9 (xh g both c a r)<o9 (xh g both c a (r+1)):=by
 by_cases h:∀y,(xh g both c a (r+1)).getD y false=true→(xh g both c a r).getD y false=true
 ·exact .inl h
 ·refine .inr (Gc (gC.trans (gC (r:=r+1)).symm) (fun y hy=>iX hm (by rw [gC];exact ha) hy (Nat.le_refl _)) ?_).1
  simp only [Classical.not_forall] at h
  obtain ⟨y,h1,h2⟩:=h
  exact ⟨y,h1,by simpa using h2⟩
theorem Ge {a:List Bool} (ha:a.length=g.n.toNat) {x:Nat} (hx:a.getD x false=true) (hs:∀y,a.getD y false=true→kQ g both c x y) (hc1:0<o9 a) (y:Nat):(xh g both c a g.n.toNat).getD y false=true↔kQ g both c x y:=by
 refine ⟨Ci hm ha hs _ y,fun h=> ?_⟩
 have Sd:∀r,(xh g both c a r).getD x false=true:=fun r=>by
  induction r with
  |zero=>exact hx
  |succ r ih=>exact iX hm (by rw [gC];exact ha) ih (Nat.le_refl _)
 have key:∀r,(∀y,kQ g both c x y→(xh g both c a r).getD y false=true)∨r<o9 (xh g both c a r):=by
  intro r
  induction r with
  |zero=>exact .inr hc1
  |succ r ih=>
   rcases ih with ih|ih
   ·exact .inl fun y hy=>iX hm (by rw [gC];exact ha) (ih y hy) (Nat.le_refl _)
   ·rcases Gd hm ha r with h|h
    ·exact .inl fun y hy=>iX hm (by rw [gC];exact ha) (HU hm (by rw [gC];exact ha) h (Sd r) hy) (Nat.le_refl _)
    ·exact .inr (by omega)
 rcases key g.n.toNat with h1|h1
 ·exact h1 y h
 ·have:=JQ (xh g both c a g.n.toNat)
  rw [gC,ha] at this
  omega
end
end Go.Ab
end
section
namespace Go.Ab
open Go.Proofs
attribute [local congr] ACall.congr gd.congr Nx.congr
set_option maxRecDepth 20000
set_option maxHeartbeats 8000000
def nM (n x:Nat):List Bool:=(List.replicate n false).set x true
theorem Bh {n x:Nat} :(nM n x).length=n:=by simp [nM]
theorem kQ.congr {g:Gr} {both:Bool} {c c':Nat→Bool} (h:∀k,k<g.es.length→c k=c' k) {x y:Nat} (hr:kQ g both c x y):kQ g both c' x y:=by
 induction hr with
 |refl=>exact .refl
 | @fwd i a b _ ih=>exact .fwd a (by rw [← h i a];exact b) ih
 | @DT i a b d _ ih=>exact .DT a (by rw [← h i a];exact b) d ih
theorem wq {n x y:Nat} (hx:x<n):(nM n x).getD y false=true↔y=x:=by
 unfold nM
 rw [j5 (by simpa using hx)]
 by_cases h:y=x
 ·rw [if_pos h];simp [h]
 ·rw [if_neg h]
  simp only [h,iff_false,Bool.not_eq_true]
  rw [List.getD_eq_getElem?_getD,List.getElem?_replicate]
  split<;>rfl
theorem Bi {n x:Nat} (hx:x<n):0<o9 (nM n x):=by
 unfold o9
 rw [List.countP_pos_iff]
 refine ⟨true, ?_,rfl⟩
 unfold nM
 rw [List.mem_iff_getElem?]
 exact ⟨x,by rw [List.getElem?_set_self (by simpa using hx)]⟩
def JR (m i:Nat):List Bool:=(jN m m).set i false
theorem Cj {m i k:Nat} (hi:i<m) (hk:k<m):(JR m i).getD k false=o7 i k:=by
 unfold JR o7
 rw [j5 (by rw [trueK_length];exact hi)]
 by_cases h:k=i
 ·subst h;simp
 ·rw [if_neg h,jN,List.getD_eq_getElem?_getD,List.getElem?_map,List.getElem?_range hk]
  simp [hk];omega
theorem uP {g:Gr} (hm:aH g=true) {i:Nat} (hi:i<g.es.length):(xh g false (fun k=>(JR g.es.length i).getD k false) (nM g.n.toNat (tl g i).toNat) g.n.toNat).getD (hd g i).toNat false=Bb g i:=by
 obtain ⟨ht,hh⟩:=Cg hm hi
 rw [Bool.eq_iff_iff,Ge hm Bh ((wq ht).2 rfl) (fun y hy=>by rw [(wq ht).1 hy];exact .refl) (Bi ht),Bb,qi ht,rX]
 constructor
 ·intro h
  exact ⟨hh,h.congr fun k hk=>Cj hi hk⟩
 ·rintro ⟨_,h⟩
  exact h.congr fun k hk=>(Cj hi hk).symm
end Go.Ab
end
section
namespace Go.Ab
open Go.Proofs
attribute [local congr] ACall.congr gd.congr Nx.congr
set_option maxRecDepth 20000
set_option maxHeartbeats 8000000
end Go.Ab
end
section
namespace Go.Ab
open Go.Proofs
attribute [local congr] ACall.congr gd.congr Nx.congr
set_option maxRecDepth 10000
set_option maxHeartbeats 16000000
end Go.Ab
end
section
namespace Go.Ab
open Go.Proofs
attribute [local congr] ACall.congr gd.congr Nx.congr
set_option maxRecDepth 20000
set_option maxHeartbeats 8000000
end Go.Ab
end
section
namespace Go.Ab
open Go.Proofs
attribute [local congr] ACall.congr gd.congr Nx.congr
set_option maxRecDepth 20000
set_option maxHeartbeats 16000000
end Go.Ab
end
section
namespace Go.Ab
open Go.Proofs
attribute [local congr] ACall.congr gd.congr Nx.congr
set_option maxRecDepth 10000
abbrev Pt:=Int × Int
def eP (p:Pt):AV:= .agg [.d (.sc (.int .i64 p.1)), .d (.sc (.int .i64 p.2))]
def rP (p:Pt):List D:= [.sc (.int .i64 p.1), .sc (.int .i64 p.2)]
attribute [go_sem] eP
def uV (p:Pt):Prop:=(-262144≤p.1∧p.1≤262144)∧(-262144≤p.2∧p.2≤262144)
def zU (a b:Int):Int:=if a<b then -1 else if b<a then 1 else 0
def Ck (a b n:Int):Bool:=decide (min a b≤n)&&decide (n≤max a b)
def tm (a b c d:Pt):Int:=(b.1 - a.1)*(d.2 - c.2) - (b.2 - a.2)*(d.1 - c.1)
def sd (a b c:Pt):Int:=zU (tm a b a c) 0
def HV (a b c:Pt):Bool:=decide (sd a b c=0)&&Ck a.1 b.1 c.1&&Ck a.2 b.2 c.2
end Go.Ab
end
section
namespace Go.Ab
open Go.Proofs
attribute [local congr] ACall.congr gd.congr Nx.congr
set_option maxRecDepth 10000
def Se (p:Pt):Bool:=decide (262144<max p.1 p.2)||decide (min p.1 p.2< -262144)
theorem getD_rP (ps:List Pt) (i:Nat):(ps.map rP).getD i [.sc (.int .i64 0), .sc (.int .i64 0)]=rP (ps.getD i (0,0)):=by
 simp only [List.getD_eq_getElem?_getD,List.getElem?_map]
 cases ps[i]? <;>rfl
theorem rP_eq (p:Pt):rP p= [.sc (.int .i64 p.1), .sc (.int .i64 p.2)]:=rfl
attribute [go_sem] getD_rP rP_eq Int.toNat_natCast
end Go.Ab
end
section
namespace Go.Ab
open Go.Proofs
attribute [local congr] ACall.congr gd.congr Nx.congr
set_option maxRecDepth 10000
instance (p:Pt):Decidable (uV p):=by unfold uV;infer_instance
def PY (a b c:Pt):Int:=if uV a∧uV b∧uV c then sd a b c else 0
def Sf (a b c:Pt):Bool:=decide (uV a∧uV b∧uV c)&&HV a b c
end Go.Ab
end
section
namespace Go.Ab
open Go.Proofs
attribute [local congr] ACall.congr gd.congr Nx.congr
set_option maxRecDepth 10000
def qI (a b c:Pt):Int:=a.1*b.2 - a.2*b.1+b.1*c.2 - b.2*c.1+c.1*a.2 - c.2*a.1
def qm (a b p:Pt):Int:=(p.1 - a.1)*(b.1 - a.1)+(p.2 - a.2)*(b.2 - a.2)
def Mc (a b c:Pt):Int:=if uV a∧uV b∧uV c then zU (qI a b c) 0 else 0
def Gf (a b c:Pt):Bool:=decide (uV a∧uV b∧uV c)&&(decide (qI a b c=0)&&decide ((a.1 - c.1)*(b.1 - c.1)+(a.2 - c.2)*(b.2 - c.2)≤0))
end Go.Ab
end
section
namespace Go.Ab
open Go.Proofs
attribute [local congr] ACall.congr gd.congr Nx.congr
set_option maxRecDepth 10000
set_option maxHeartbeats 2000000
def Te:OT:=(.br 0 (.br 1 (.br 2 (.br 3 (.br 4 (.br 5 (.br 6 .nil .nil) .nil) .nil) (.br 4 (.br 3 (.br 5 (.br 6 .nil .nil) .nil) (.br 5 (.br 3 (.br 6 .nil .nil) .nil) .nil)) .nil)) (.br 4 (.br 2 (.br 3 (.br 5 (.br 6 .nil .nil) .nil) (.br 5 (.br 3 (.br 6 .nil .nil) .nil) .nil)) (.br 5 (.br 2 (.br 3 (.br 6 .nil .nil) .nil) .nil) .nil)) .nil)) .nil) (.br 1 (.br 0 (.br 2 (.br 3 (.br 4 (.br 5 (.br 6 .nil .nil) .nil) .nil) (.br 4 (.br 3 (.br 5 (.br 6 .nil .nil) .nil) (.br 5 (.br 3 (.br 6 .nil .nil) .nil) .nil)) .nil)) (.br 4 (.br 2 (.br 3 (.br 5 (.br 6 .nil .nil) .nil) (.br 5 (.br 3 (.br 6 .nil .nil) .nil) .nil)) (.br 5 (.br 2 (.br 3 (.br 6 .nil .nil) .nil) .nil) .nil)) .nil)) .nil) .nil))
def Md (a b c d:Pt):Int:=
 if uV a∧uV b∧uV c∧uV d then
  if a=b then (if Gf c d a=true then 1 else 0)
  else if c=d then (if Gf a b c=true then 1 else 0)
  else if zU (qI a b c) 0=0∧zU (qI a b d) 0=0 then
   let lo:=max (qm a b a) (min (qm a b c) (qm a b d))
   let hi:=min (qm a b b) (max (qm a b c) (qm a b d))
   if hi<lo then 0 else if lo=hi then 1 else 2
  else if zU (qI a b c) 0*zU (qI a b d) 0≤0∧zU (qI c d a) 0*zU (qI c d b) 0≤0 then 1 else 0
 else 0
end Go.Ab
end
section
namespace Go.Ab
open Go.Proofs
attribute [local congr] ACall.congr gd.congr Nx.congr
set_option maxRecDepth 10000
set_option maxHeartbeats 2000000
theorem mval_touch (es:List (List Int × Int)) (k:List Int):kY (eC es k) k=kY es k:=by
 unfold eC
 cases h:b9 es k with
 |some i=>rfl
 |none=>
  have hn:=sG h
  have:b9 (es++ [(k,0)]) k=some es.length:=by
   unfold b9
   rw [List.findIdx?_eq_some_iff_getElem]
   refine ⟨by simp,by simp,fun j hj=> ?_⟩
   rw [List.getElem_append_left hj]
   have:=hn es[j] (List.getElem_mem hj)
   simpa using fun e=>this e.symm
  simp [kY,h,this]
def Sg (es:List (List Int × Int)) (k:List Int):List (List Int × Int):=qK (eC es k) (jt es k) (kY es k+1)
def HW (p:Pt) (ks:List (List Int)):List (List Int):=if [p.1,p.2]∈ks then ks else ks++ [[p.1,p.2]]
def BE (n:Int) (es:List (List Int × Int)):Prop:=∀p∈es,0≤p.2∧p.2≤n
end Go.Ab
end
section
namespace Go.Ab
open Go.Proofs
attribute [local congr] ACall.congr gd.congr Nx.congr
set_option maxRecDepth 10000
set_option maxHeartbeats 4000000
attribute [go_sem] mval_touch
def K1 (a _b c d:Pt):List (List Int):=if HV c d a=true then HW a [] else []
def K2 (a b c d:Pt):List (List Int):=if HV c d b=true then HW b (K1 a b c d) else K1 a b c d
def K3 (a b c d:Pt):List (List Int):=if HV a b c=true then HW c (K2 a b c d) else K2 a b c d
def K4 (a b c d:Pt):List (List Int):=if HV a b d=true then HW d (K3 a b c d) else K3 a b c d
def PZ (a b c d:Pt):Int:=
 if uV a∧uV b∧uV c∧uV d then
  if 0<(K4 a b c d).length then min ((K4 a b c d).length:Int) 2
  else if sd a b c*sd a b d<0∧sd c d a*sd c d b<0 then 1 else 0
 else 0
def RS (A B C:List (List Int)) (p:Nat × List (List Int × Int)) (n:Int):Prop:=
 (p.1=0∧p.2.map (·.1)=A∧BE n p.2)∨(p.1=1∧p.2.map (·.1)=B∧BE (n+1) p.2)∨(p.1=2∧p.2.map (·.1)=C∧BE (n+2) p.2)
def bx (p:Pt):AObj:= .box [.d (.sc (.int .i64 p.1)), .d (.sc (.int .i64 p.2))]
attribute [go_sem] bx
def Tf (a b c d:Pt) (i:Nat × List (List Int × Int)):ASt:=
 ⟨[(9, .mref 21),(4, .ptr 4 0),(5, .ptr 5 0),(6, .ptr 6 0),(7, .ptr 7 0),(24, .agg [eN a.1,eN a.2,eN b.1,eN b.2]),(25,eN i.1)],
   [(4,bx a),(5,bx b),(6,bx c),(7,bx d),(21, .mp 2 i.2)]⟩
def Th (a b c d:Pt) (i:Nat × List (List Int × Int)):ASt:=
 ⟨[(9, .mref 21),(4, .ptr 4 0),(5, .ptr 5 0),(6, .ptr 6 0),(7, .ptr 7 0),(41, .agg [eN c.1,eN c.2,eN d.1,eN d.2]),(42,eN i.1)],
   [(4,bx a),(5,bx b),(6,bx c),(7,bx d),(21, .mp 2 i.2)]⟩
end Go.Ab
end
section
namespace Go.Ab
open Go.Proofs
attribute [local congr] ACall.congr gd.congr Nx.congr
set_option maxRecDepth 10000
def key (p:Pt):List Int:= [p.1,p.2]
def Ti (a b c d p:Pt):Prop:=(HV c d a=true∧p=a)∨(HV c d b=true∧p=b)∨(HV a b c=true∧p=c)∨(HV a b d=true∧p=d)
def P3 (a b c d:Pt):Int:=if 0<(K4 a b c d).length then min ((K4 a b c d).length:Int) 2 else if sd a b c*sd a b d<0∧sd c d a*sd c d b<0 then 1 else 0
section
variable {a b:Pt}
end
end Go.Ab
end
section
namespace Go.Ab
open Go.Proofs
attribute [local congr] ACall.congr gd.congr Nx.congr
set_option maxRecDepth 10000
abbrev Pc:=Pt × Pt
def rQ (q:Pc):List D:= [.sc (.int .i64 q.1.1), .sc (.int .i64 q.1.2), .sc (.int .i64 q.2.1), .sc (.int .i64 q.2.2)]
def eQ (q:Pc):AV:= .agg [.d (.sc (.int .i64 q.1.1)), .d (.sc (.int .i64 q.1.2)), .d (.sc (.int .i64 q.2.1)), .d (.sc (.int .i64 q.2.2))]
def sQ (qs:List Pc):D:= .sl 4 (qs.map rQ)
def sP (ps:List Pt):D:= .sl 2 (ps.map rP)
def vP (ls:List (List Pt)):List (List D):=ls.map fun l=> [sP l]
def sLn (ls:List (List Pt)):D:= .sl 1 (vP ls)
def eLn (l:List Pt):AV:= .d (sP l)
theorem getD_rQ (ps:List Pc) (i:Nat):(ps.map rQ).getD i [.sc (.int .i64 0), .sc (.int .i64 0), .sc (.int .i64 0), .sc (.int .i64 0)]=rQ (ps.getD i ((0,0),(0,0))):=by
 simp only [List.getD_eq_getElem?_getD,List.getElem?_map]
 cases ps[i]? <;>rfl
theorem rQ_eq (q:Pc):rQ q= [.sc (.int .i64 q.1.1), .sc (.int .i64 q.1.2), .sc (.int .i64 q.2.1), .sc (.int .i64 q.2.2)]:=rfl
theorem vP_length (ls:List (List Pt)):(vP ls).length=ls.length:=by simp [vP]
theorem vP_getD (ls:List (List Pt)) (i:Nat):(vP ls).getD i [.sl 2 []]= [sP (ls.getD i [])]:=by
 simp only [vP,List.getD_eq_getElem?_getD,List.getElem?_map]
 cases ls[i]? <;>rfl
attribute [go_sem] getD_rQ rQ_eq eQ sQ sP sLn eLn vP_length vP_getD
end Go.Ab
end
section
namespace Go.Ab
open Go.Proofs
attribute [local congr] ACall.congr gd.congr Nx.congr
set_option maxRecDepth 10000
structure Dr where
 pts:List Pt
 ls:List (List Pt)
def eDr (d:Dr):AV:= .agg [.d (sP d.pts), .d (sLn d.ls)]
def lkO (g:Gr) (d:Dr):AObj:= .rob [eN g.n, .d (sE g.es), .d (sP d.pts), .d (sLn d.ls)]
attribute [go_sem] eDr lkO
def Sh (l:List Pt) (k:Nat):List Pc:=(List.range k).map fun i=>(l.getD i (0,0),l.getD (i+1) (0,0))
def P4 (l:List Pt):List Pc:=Sh l (l.length - 1)
def robPt (p:Pt):List (Nat × AObj):= [(10000, .rob [eN p.1,eN p.2])]
attribute [go_sem] robPt
def Si (l:List Pt) (p:Pt):Bool:=(P4 l).any fun q=>Sf q.1 q.2 p
def P5 (l:List Pt):Bool:= !(P4 l).any fun q=>decide (q.2.2≤q.1.2)
structure Me (g:Gr) (d:Dr):Prop where
 may:aH g=true
 np:(d.pts.length:Int)=g.n
 nl:d.ls.length=g.es.length
 oK:∀l∈d.ls,2≤l.length∧l.length≤8
theorem Me.line {g:Gr} {d:Dr} (h:Me g d) {i:Nat} (hi:i<g.es.length):2≤(d.ls.getD i []).length∧(d.ls.getD i []).length≤8:=h.oK _ (aL (by rw [h.nl];exact hi))
def Sj (g:Gr) (d:Dr) (i:Nat):Bool:=decide ((d.ls.getD i []).getD 0 (0,0)=d.pts.getD (g.es.getD i (0,0)).1.toNat (0,0))&&decide ((d.ls.getD i []).getD ((d.ls.getD i []).length - 1) (0,0)=d.pts.getD (g.es.getD i (0,0)).2.toNat (0,0))
def Sk (l:List Pt) (x:Pt):Int:=bI (fun y=>decide (x=y)) l
def OU (d:Dr) (x:Nat):Bool:= !decide (d.pts.getD x (0,0)∈d.pts.take x)
def Mf (g:Gr) (d:Dr) (i k:Nat):Bool:=(List.range k).all fun x=>decide ((x:Int)=(g.es.getD i (0,0)).1)||decide ((x:Int)=(g.es.getD i (0,0)).2)|| !Si (d.ls.getD i []) (d.pts.getD x (0,0))
def P6 (g:Gr) (d:Dr) (i:Nat):Bool:=Mf g d i d.pts.length
end Go.Ab
end
section
namespace Go.Ab
open Go.Proofs
attribute [local congr] ACall.congr gd.congr Nx.congr
set_option maxRecDepth 20000
set_option maxHeartbeats 8000000
def DF (xs ys:List Int) (v:Nat):Pt:=(xs.getD v 0,ys.getD v 0)
def Gg (N:Int) (bs xs ys:List Int) (i:Nat):List Pt:=if (i:Int)∈bs then [DF xs ys (N+(bs.idxOf (i:Int):Nat)).toNat] else []
def Kf (g:Gr) (N:Int) (bs xs ys:List Int) (i:Nat):List Pt:=DF xs ys (tl g i).toNat::(Gg N bs xs ys i++ [DF xs ys (hd g i).toNat])
def qV (xs ys:List Int) (k:Nat):List Pt:=(List.range k).map (DF xs ys)
def uQ (g:Gr) (N:Int) (bs xs ys:List Int) (k:Nat):List (List Pt):=(List.range k).map (Kf g N bs xs ys)
def OV (g:Gr) (N:Int) (bs xs ys:List Int):Dr:=⟨qV xs ys g.n.toNat,uQ g N bs xs ys g.es.length⟩
theorem Gh {xs ys:List Int} {k:Nat} :qV xs ys (k+1)=qV xs ys k++ [DF xs ys k]:=by simp [qV,List.range_succ]
theorem Cl {xs ys:List Int} {k:Nat} :(qV xs ys k).length=k:=by simp [qV]
theorem Gi {g:Gr} {N:Int} {bs xs ys:List Int} {k:Nat} :uQ g N bs xs ys (k+1)=uQ g N bs xs ys k++ [Kf g N bs xs ys k]:=by simp [uQ,List.range_succ]
theorem HX {g:Gr} {N:Int} {bs xs ys:List Int} {k:Nat} :(uQ g N bs xs ys k).length=k:=by simp [uQ]
def dz:Dr:=⟨[], []⟩
noncomputable def DG (g:Gr) (p:Pl) (rev:Bool):List Int:=fS (aD (aq g p) (cM (aq g p))) (lU (aq g p) (bG g p) (cM (aq g p))) rev ((aq g p).n+(cM (aq g p)).length).toNat
noncomputable def HY (b:Bool) (g:Gr) (p:Pl):Dr × Int:=
 if (mJ b g p).2.2≠0 then (dz,(mJ b g p).2.2) else if 64<(aq g p).n+(cM (aq g p)).length∨128<(aq g p).es.length+(cM (aq g p)).length then (dz,10) else (OV g (aq g p).n (cM (aq g p)) (DG g p false) (DG g p true),0)
theorem Gj {g:Gr} {p:Pl} (h:aY g p):p.ord.length≤64∧p.outs.length≤64∧∀l∈p.outs,l.length≤128:=by
 have hn:=aB (an h.1)
 have h1:=aS h.2.1
 have h2:=h.2.1.1
 refine ⟨by omega,by omega,fun l hl=> ?_⟩
 obtain ⟨k,hk,rfl⟩:=List.mem_iff_getElem.1 hl
 have h3:=(h.2.1.2.2 k (by omega)).length_eq
 rw [List.getD_eq_getElem?_getD,List.getElem?_eq_getElem hk,Option.getD_some] at h3
 have h4:(cm g (k:Int)).length≤g.es.length:=iw
 omega
theorem rZ {g:Gr} {p:Pl} (h:aY g p):lR p:=by
 obtain ⟨h1,h2,h3⟩:=Gj h
 exact ⟨by omega,by omega,fun l hl=>by have:=h3 l hl;omega⟩
theorem j6 {g:Gr} {p:Pl} (h:aY g p):(true=true)↔(bN g).1=0∧bk g p:=⟨fun _=>⟨h.1,h.2.1⟩,fun _=>rfl⟩
structure Room (g:Gr) (p:Pl):Prop where
 ok:mS g p
 h1:(aq g p).n+(cM (aq g p)).length≤64
 h2:(aq g p).es.length+(cM (aq g p)).length≤128
theorem Gk {g:Gr} {p:Pl} (h:Room g p):aY (aD (aq g p) (cM (aq g p))) (lU (aq g p) (bG g p) (cM (aq g p))):=B9 (lS h.ok) iW (rW (lS h.ok) iW) h.h1 h.h2
theorem HZ {g:Gr} {p:Pl} (h:Room g p):nI (aD (aq g p) (cM (aq g p)))=true:=F2 (lS h.ok) iW (rW (lS h.ok) iW) h.h1 h.h2 (FU h.ok)
theorem Cm {g:Gr} {p:Pl} {rev:Bool} :(DG g p rev).length=((aq g p).n+(cM (aq g p)).length).toNat:=by unfold DG;exact pY
theorem zV {g:Gr} {bs:List Int} (hb:bs.Nodup) {i:Int} :b9 (k7 g bs bs.length) [i]=if i∈bs then some (bs.idxOf i) else none:=by
 by_cases h:i∈bs
 ·rw [if_pos h]
  obtain ⟨h1,h2⟩:=qf h
  unfold b9
  rw [List.findIdx?_eq_some_iff_getElem]
  refine ⟨by simp [k7,h1], ?_,fun j hj=> ?_⟩
  ·simp only [k7,List.getElem_map,List.getElem_range,decide_eq_true_eq,h2]
  ·simp only [k7,List.getElem_map,List.getElem_range,decide_eq_true_eq]
   intro e
   have e:i=bs.getD j 0:=by simpa using e
   have:=fL hb (i:=j) (by omega)
   rw [← e] at this
   omega
 ·rw [if_neg h]
  unfold b9
  rw [List.findIdx?_eq_none_iff]
  intro q hq
  obtain ⟨j,hj,rfl⟩:=lV.1 hq
  rw [decide_eq_false_iff_not]
  intro e
  have e:i=bs.getD j 0:=by simpa using e
  rw [e] at h
  exact h (aL hj)
theorem H6 {g:Gr} {bs:List Int} (hb:bs.Nodup) {i:Int} (h:i∈bs):kY (k7 g bs bs.length) [i]=g.n+(bs.idxOf i:Nat):=by
 unfold kY
 rw [zV hb,if_pos h]
 have:=(qf h).1
 simp [k7,List.getElem?_range this]
end Go.Ab
end
section
namespace Go.Ab
open Go.Proofs
attribute [local congr] ACall.congr gd.congr Nx.congr
set_option maxRecDepth 20000
set_option maxHeartbeats 8000000
theorem H7 (xs ys:List Int) (v:Nat) (h1:v<xs.length) (h2:v<ys.length) (hx:xs.length≤1000) (hy:ys.length≤1000):Spec Tryz.prog 77 (Args [eN v, .ptr 10001 0, .ptr 10002 0]) [(10001, .rob [.d (sI xs)]),(10002, .rob [.d (sI ys)])] (.agg [eN (xs.getD v 0),eN (ys.getD v 0)]) [(10001, .rob [.d (sI xs)]),(10002, .rob [.d (sI ys)])]:=by
 (refine Spec.hd (C:=T.cfg [] []) (rs:= [.c 4 71]) (T.ah _ _) Tryz.func77 rfl rfl Tryz.ntmps77 Tryz.results77 (by simp [AObj.isNest]) (by simp [AObj.isNest]) (by kernel_rfl) T.mixed fun X hX hP hC aJ bQ=> ?_)
 repeat' (first|refine Rn.p ?_|(with_reducible apply And.intro)|((first|(refine hK _ ?_;clear hK K)|with_reducible intro K hK|refine Rs.p ?_|((with_reducible first|apply oP|apply oQ);exact rfl));try simp only [go_sem,simprocAttr])|((with_reducible refine oD ?_ ?_);kernel_rfl)|((with_reducible intro h);try simp only [go_sem,simprocAttr] at h)|omega|intro h)
end Go.Ab
end
