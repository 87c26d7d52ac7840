/- A part of the proof. -/
import Derived.Test.YtchjjbfhlchpfaaGreatL4P18
set_option linter.unusedSimpArgs false
set_option linter.unusedVariables false
section
namespace Go.Ab
open Go.Proofs
attribute [local congr] ACall.congr gd.congr Nx.congr
set_option maxRecDepth 20000
set_option maxHeartbeats 8000000
set_option linter.unusedSectionVars false
def lR (g:Gr) (bs:List Int) (k:Nat):List (List Int × Int):=(List.range k).map fun j:Nat=>([bs.getD j 0],g.n+(j:Int))
theorem Eh {g:Gr} {bs:List Int} {k:Nat} :lR g bs (k+1)=lR g bs k++ [([bs.getD k 0],g.n+(k:Int))]:=by simp [lR,List.range_succ]
theorem mD {g:Gr} {bs:List Int} {k:Nat} {p:List Int × Int} :p∈lR g bs k↔∃j:Nat,j<k∧p=([bs.getD j 0],g.n+(j:Int)):=by
 simp only [lR,List.mem_map,List.mem_range]
 constructor
 ·rintro ⟨j,h,rfl⟩;exact ⟨j,h,rfl⟩
 ·rintro ⟨j,h,rfl⟩;exact ⟨j,h,rfl⟩
theorem xg {g:Gr} {k:Nat} :eo g (k+1)=eo g k++ [[((g.es.length+k:Nat):Int)]]:=by simp [eo,List.range_succ]
theorem vf {g:Gr} {bs:List Int} :(fR g bs).length=g.es.length+bs.length:=by simp [fR]
section
variable {g:Gr} {p:Pl} {bs:List Int} (h:bn g p) (hb:Aq g bs) (hs1:g.n+bs.length≤64) (C2:g.es.length+bs.length≤128)
include h hb hs1 C2
theorem Aw:∀ {k:Nat},k≤bs.length→(dm g bs k p.ord).length=g.n.toNat+k
 |0,_=>by rw [w6,aQ h.2.1];rfl
 |k+1,hk=>by
  have hm:=an h.1
  have oe:∀u∈p.ord,u<g.n:=fun u hu=>by
   have:=h.2.1.2.1.mem_iff.1 hu
   simp only [ee,List.mem_map,List.mem_range] at this
   obtain ⟨k,hk,e⟩:=this
   have e:(k:Int)=u:=e
   omega
  have vl:=hb.qt _ (aG (d:=0) hk)
  have HX:eR g (bs.getD k 0)∈p.ord:=by
   have htr:=bu hm (i:=(bs.getD k 0).toNat) (by omega)
   obtain ⟨l,hl,e⟩:=gN h.2.1 htr.1 htr.2
   show tl g (bs.getD k 0).toNat∈p.ord
   rw [← e,aH,List.getD_eq_getElem?_getD,List.getElem?_eq_getElem (by rw [aQ h.2.1];exact hl)]
   exact List.getElem_mem _
  obtain ⟨A,B,o1,o2,_,_⟩:=w8 (k:=k) (cP h.2.1) oe HX
  have ih:=Aw (k:=k) (by omega)
  rw [o1] at ih
  rw [o2]
  simp only [List.length_append,List.length_cons] at ih ⊢
  omega
theorem GN {k:Nat} (hk:k<bs.length):Spec Tryz.prog 118 (Args [.ptr 10000 0,eN (bs.getD k 0)]) (iI (g.n+(k:Int)) (fR g (bs.take k)) (dm g bs k p.ord) (p.outs++eo g k) (lR g bs k)) (.tup [])
 (GH (g.n+((k+1:Nat):Int)) (fR g (bs.take (k+1))) (dm g bs (k+1) p.ord) (p.outs++eo g (k+1)) (lR g bs (k+1))):=by
 have hm:=an h.1
 have hn:=aE hm
 have dG:=h.2.1.1
 have bV:=cP h.2.1
 have vl:=hb.qt _ (aG (d:=0) hk)
 obtain ⟨e,he⟩:∃e:Nat,bs.getD k 0=(e:Int):=⟨(bs.getD k 0).toNat,by omega⟩
 obtain ⟨e1,e2,e3⟩:=w9 hb hk he
 have Su:(bs.take k).length=k:=by simp;omega
 have Sv:(bs.take (k+1)).length=k+1:=by simp;omega
 have hel:(fR g (bs.take k)).length=g.es.length+k:=by rw [vf,Su]
 have ht:eR g (bs.getD k 0)=tl g e:=by rw [he];rfl
 have oe:∀u∈p.ord,u<g.n:=fun u hu=>by
  have:=h.2.1.2.1.mem_iff.1 hu
  simp only [ee,List.mem_map,List.mem_range] at this
  obtain ⟨k,hk,e⟩:=this
  have e:(k:Int)=u:=e
  omega
 have HX:eR g (bs.getD k 0)∈p.ord:=by
  rw [ht]
  have htr:=bu hm e1
  obtain ⟨l,hl,e⟩:=gN h.2.1 htr.1 htr.2
  rw [← e,aH,List.getD_eq_getElem?_getD,List.getElem?_eq_getElem (by rw [aQ h.2.1];exact hl)]
  exact List.getElem_mem _
 obtain ⟨A,B,o1,o2,o3,o4⟩:=w8 (k:=k) bV oe HX
 rw [ht] at o1 o2 o3
 have pZ:∀i,i<g.es.length→((fR g (bs.take (k+1))).getD i (0,0)).1=tl g i:=fun i hi=>by
  have:=(di (g:=g) (bs:=bs.take (k+1)) (e:=(i:Int)) (by omega) (by omega)).1
  exact this
 have MC:(dm g bs k p.ord).length<1000:=by
  rw [Aw h hb hs1 C2 (by omega)];omega
 have MD:(eo g k).length=k:=by simp [eo]
 have hinj:∀j,j<bs.length→bs.getD j 0=bs.getD k 0→j=k:=fun j hj hjk=>by
  have a:=gh hb.nd hj
  have b:=gh hb.nd hk
  rw [hjk] at a
  omega
 have key:=D6 (g.n+(k:Int)) (fR g (bs.take k)) (p.outs++eo g k) (lR g bs k) e A (jz g bs k (tl g e)) B (tl g e) (by omega) (by omega) (by omega) (by rw [List.length_append,dG,MD];omega) (by rw [← o1];exact MC)
  (fun q hq=> ?_) (fun q hq=> ?_) (by rw [e2]) o3 (fun u hu=> ?_) (fun u r hB=> ?_)
 ·rw [e2,show ((tl g e,hd g e):Edge).2=hd g e from rfl, ← e3, ← o1, ← o2,hel] at key
  rw [he,xg,Eh,he, ← List.append_assoc,show g.n+((k+1:Nat):Int)=g.n+(k:Int)+1 by omega]
  exact key
 ·obtain ⟨j,hj,rfl⟩:=mD.1 hq
  have:=hb.qt _ (aG (d:=0) (show j<bs.length by omega))
  simp only [List.getD_cons_zero]
  omega
 ·obtain ⟨j,hj,rfl⟩:=mD.1 hq
  intro e'
  simp only [List.cons.injEq,and_true] at e'
  have:=hinj j (by omega) (by rw [he];exact e'.symm)
  omega
 ·obtain ⟨j,j1,j2,rfl⟩:=gO.1 hu
  rw [e2,show ((tl g e,hd g e):Edge).2=hd g e from rfl, ← e3]
  have za:=hb.qt _ (aG (d:=0) (show j<bs.length by omega))
  unfold u7
  rw [List.any_eq_true]
  refine ⟨([bs.getD j 0],g.n+(j:Int)),List.mem_append_left _ (mD.2 ⟨j,j1,rfl⟩), ?_⟩
  simp only [eW,List.getD_cons_zero,Bool.and_eq_true,decide_eq_true_eq]
  refine ⟨⟨trivial,fun e'=> ?_⟩, ?_⟩
  ·have:=hinj j (by omega) (by rw [he];omega)
   omega
  ·rw [pZ _ (by omega),pZ _ e1]
   exact j2
 ·rw [e2,show ((tl g e,hd g e):Edge).2=hd g e from rfl, ← e3]
  have hu:=o4 u r hB
  unfold u7
  rw [List.any_eq_false]
  intro q hq
  have Cd:g.n≤q.2:=by
   rcases List.mem_append.1 hq with hq|hq
   ·obtain ⟨j,hj,rfl⟩:=mD.1 hq
    show g.n≤g.n+(j:Int)
    omega
   ·rw [List.mem_singleton] at hq
    subst hq
    show g.n≤g.n+(k:Int)
    omega
  simp only [eW,Bool.and_eq_true,decide_eq_true_eq]
  rintro ⟨⟨h1,_⟩,_⟩
  omega
end
end Go.Ab
end
section
namespace Go.Ab
open Go.Proofs
attribute [local congr] ACall.congr gd.congr Nx.congr
set_option maxRecDepth 10000
set_option maxHeartbeats 8000000
theorem lE {b:Bool} {g:Gr} {p:Pl} (hr:b=true↔(bE g).1=0∧aT g p) (h:bn g p):bk b g p=((eA g p g.n.toNat,aZ g p),(0,0)):=by
 obtain rfl:b=true:=hr.2 ⟨h.1,h.2.1⟩
 unfold bk
 rw [if_neg (by simp),fu.2 h.2.2]
 rfl
theorem ID {b:Bool} {g:Gr} {p:Pl} (hr:b=true↔(bE g).1=0∧aT g p) (h:(nh b g p).2.2=0):nE g p∧nh b g p=(aq g p,bM g p,0):=by
 unfold nh at h ⊢
 split at h
 ·cases h
 rename_i h0
 split at h
 ·cases h
 rename_i h1
 rw [if_neg h0,if_neg h1]
 exact ⟨⟨(eC hr (by simpa using h0)).1,by omega,by omega⟩,rfl⟩
theorem Sw (g:Gr) (p:Pl):∃b:Bool,(b=true↔(bE g).1=0∧aT g p):=by
 by_cases h:(bE g).1=0∧aT g p
 ·exact ⟨true,by simp [h]⟩
 ·exact ⟨false,by simp [h]⟩
end Go.Ab
end
section
namespace Go.Ab
open Go.Proofs
attribute [local congr] ACall.congr gd.congr Nx.congr
set_option maxRecDepth 20000
set_option maxHeartbeats 8000000
theorem yF (ps:List Edge) (hl:ps.length≤1000000):
 Spec Tryz.prog 97 (Args [.d (sE ps)]) [] (.ref 10000) [(10000, .own 73 2 (ps.map rE))]:=by
 (refine Spec.si (C:=T.cfg [5,7] []) (rs:= [.t 2]) [(10000,7)] (T.ah _ _) Tryz.func97 rfl rfl Tryz.ntmps97 Tryz.results97 (by simp [AObj.isNest]) (by simp [AObj.isNest]) (by first|(simp [look];done)|(simp [asN];done)|(intro l hl;simp only [asN];repeat (rw [if_neg (fun e=>by subst e;simp [look] at hl)]))) (by first|(simp [look];done)|(simp [asN];done)|(intro l hl;simp only [asN];repeat (rw [if_neg (fun e=>by subst e;simp [look] at hl)]))) (by kernel_rfl) T.mixed fun X hX hP hC aC bL=> ?_)
 repeat' (first|(show bS _ .ret _ _;(try simp only [go_sem,simprocAttr]);refine dQ hX 2 7 (.own 73 2 []) ?_ ?_ (by decide) ⟨73,2,by decide, .inl rfl⟩ ?_;(iterate 2 (focus (simp only [go_sem,simprocAttr];done)));simp only [go_sem,simprocAttr])|refine Rn.p ?_|(with_reducible apply And.intro)|((first|(refine hK _ ?_;clear hK K)|with_reducible intro K hK|refine Rs.p ?_|((with_reducible first|apply oP|apply oQ);exact rfl));try simp only [go_sem,simprocAttr])|((with_reducible refine oD ?_ ?_);kernel_rfl)|((with_reducible intro h);try simp only [go_sem,simprocAttr] at h)|omega|intro h)
 exact h.symm
theorem lF {g:Gr} :Aq g (fz g):=by
 unfold fz
 split
 ·refine ⟨?_,fun i hi=> ?_⟩
  ·unfold yC
   exact List.Pairwise.map _ (fun a b hab=>by omega) (List.nodup_range.filter _)
  ·simp only [yC,List.mem_map,List.mem_filter,List.mem_range] at hi
   obtain ⟨j,⟨h1,_⟩,rfl⟩:=hi
   omega
 ·exact ⟨List.nodup_nil,by simp⟩
theorem Ei (g:Gr) (hl:g.es.length≤1000) (p:Pl) (hp:gv p) (b:Bool) (hr:b=true↔(bE g).1=0∧aT g p) (hno:¬((bk b g p).2.1=0∧ni g=true)):
 Spec Tryz.prog 76 (Args [eG g,ePl p]) [] (.tup [.d (.sc (.pointer none)),eN 1]) []:=by
 have hO:=eY g hl p hp b hr
 have hI:=lC g hl
 by_cases h0:(bk b g p).2.1=0
 rotate_left
 ·have hb0:decide ((bk b g p).2.1=0)=false:=decide_eq_false h0
  (refine Spec.hd (C:=T.cfg [] []) (rs:= [.t 4, .t 5]) (T.ah _ _) Tryz.func76 rfl rfl Tryz.ntmps76 Tryz.results76 (by simp [AObj.isNest]) (by simp [AObj.isNest]) (by kernel_rfl) T.mixed fun X hX hP hC aC bL=> ?_)
  repeat' (first|refine Rn.p ?_|(with_reducible apply And.intro)|((first|(refine hK _ ?_;clear hK K)|with_reducible intro K hK|refine Rs.p ?_|((with_reducible first|apply oP|apply oQ);exact rfl)|refine aa hX hC hP (hO) rfl rfl rfl (by simp only [go_sem,simprocAttr,hb0]) rfl ?_);try simp only [go_sem,simprocAttr,hb0])|((with_reducible refine oD ?_ ?_);kernel_rfl)|((with_reducible intro h);try simp only [go_sem,simprocAttr,hb0] at h)|omega|intro h)
 obtain ⟨hrun,hR⟩:=eC hr h0
 rw [hR] at hO
 simp only at hO
 cases yD:ni g with
 |true=>exact absurd ⟨h0,yD⟩ hno
 |false=>
  rw [yD] at hI
  (refine Spec.hd (C:=T.cfg [] []) (rs:= [.t 4, .t 5]) (T.ah _ _) Tryz.func76 rfl rfl Tryz.ntmps76 Tryz.results76 (by simp [AObj.isNest]) (by simp [AObj.isNest]) (by kernel_rfl) T.mixed fun X hX hP hC aC bL=> ?_)
  repeat' (first|refine Rn.p ?_|(with_reducible apply And.intro)|((first|(refine hK _ ?_;clear hK K)|with_reducible intro K hK|refine Rs.p ?_|((with_reducible first|apply oP|apply oQ);exact rfl)|refine aa hX hC hP (hO) rfl rfl rfl (by simp only [go_sem,simprocAttr]) rfl ?_|refine aa hX hC hP (hI) rfl rfl rfl (by simp only [go_sem,simprocAttr]) rfl ?_);try simp only [go_sem,simprocAttr])|((with_reducible refine oD ?_ ?_);kernel_rfl)|((with_reducible intro h);try simp only [go_sem,simprocAttr] at h)|omega|intro h)
theorem vg (g:Gr) (hl:g.es.length≤1000) (p:Pl) (hp:gv p) (b:Bool) (hr:b=true↔(bE g).1=0∧aT g p) (h0:(bk b g p).2.1=0) (yD:ni g=true) (hbig:64<g.n+(fz g).length∨128<g.es.length+(fz g).length):
 Spec Tryz.prog 76 (Args [eG g,ePl p]) [] (.tup [.d (.sc (.pointer none)),eN 10]) []:=by
 have hO:=eY g hl p hp b hr
 have hI:=lC g hl
 have hT:=CO g (by omega)
 obtain ⟨hrun,hR⟩:=eC hr h0
 rw [hR] at hO
 simp only at hO
 rw [yD] at hI
 have hn:=aE (an hrun.1)
 have sq:(fz g).length≤1000:=by
  unfold fz
  split
  ·have:=sJ (g:=g) (k:=g.es.length);omega
  ·simp
 generalize fz g=bs at hT hbig sq
 by_cases hA:64<g.n+(bs.length:Int)
 ·have hb1:decide (64<g.n+(bs.length:Int))=true:=decide_eq_true hA
  (refine Spec.hd (C:=T.cfg [] []) (rs:= [.t 4, .t 5]) (T.ah _ _) Tryz.func76 rfl rfl Tryz.ntmps76 Tryz.results76 (by simp [AObj.isNest]) (by simp [AObj.isNest]) (by kernel_rfl) T.mixed fun X hX hP hC aC bL=> ?_)
  repeat' (first|refine Rn.p ?_|(with_reducible apply And.intro)|((first|(refine hK _ ?_;clear hK K)|with_reducible intro K hK|refine Rs.p ?_|((with_reducible first|apply oP|apply oQ);exact rfl)|refine aa hX hC hP (hO) rfl rfl rfl (by simp only [go_sem,simprocAttr,hb1]) rfl ?_|refine aa hX hC hP (hI) rfl rfl rfl (by simp only [go_sem,simprocAttr,hb1]) rfl ?_|refine aa hX hC hP (hT) rfl rfl rfl (by simp only [go_sem,simprocAttr,hb1]) rfl ?_);try simp only [go_sem,simprocAttr,hb1])|((with_reducible refine oD ?_ ?_);kernel_rfl)|((with_reducible intro h);try simp only [go_sem,simprocAttr,hb1] at h)|omega|intro h)
 ·have hb1:decide (64<g.n+(bs.length:Int))=false:=decide_eq_false hA
  have hb2:decide (128<(g.es.length:Int)+(bs.length:Int))=true:=decide_eq_true (by omega)
  (refine Spec.hd (C:=T.cfg [] []) (rs:= [.t 4, .t 5]) (T.ah _ _) Tryz.func76 rfl rfl Tryz.ntmps76 Tryz.results76 (by simp [AObj.isNest]) (by simp [AObj.isNest]) (by kernel_rfl) T.mixed fun X hX hP hC aC bL=> ?_)
  repeat' (first|refine Rn.p ?_|(with_reducible apply And.intro)|((first|(refine hK _ ?_;clear hK K)|with_reducible intro K hK|refine Rs.p ?_|((with_reducible first|apply oP|apply oQ);exact rfl)|refine aa hX hC hP (hO) rfl rfl rfl (by simp only [go_sem,simprocAttr,hb1,hb2]) rfl ?_|refine aa hX hC hP (hI) rfl rfl rfl (by simp only [go_sem,simprocAttr,hb1,hb2]) rfl ?_|refine aa hX hC hP (hT) rfl rfl rfl (by simp only [go_sem,simprocAttr,hb1,hb2]) rfl ?_);try simp only [go_sem,simprocAttr,hb1,hb2])|((with_reducible refine oD ?_ ?_);kernel_rfl)|((with_reducible intro h);try simp only [go_sem,simprocAttr,hb1,hb2] at h)|omega|intro h)
theorem xh (g:Gr) (hl:g.es.length≤1000) (p:Pl) (hp:gv p) (hrun:bn g p) (yD:ni g=true) (bs:List Int) (Pp:fz g=bs) (hs1:g.n+bs.length≤64) (C2:g.es.length+bs.length≤128):
 Spec Tryz.prog 76 (Args [eG g,ePl p]) [] (.tup [.ptr 10000 0,eN 0]) (iI (g.n+bs.length) (fR g bs) (dm g bs bs.length p.ord) (p.outs++eo g bs.length) (lR g bs bs.length)):=by
 have hO:=eY g hl p hp true ⟨fun _=>⟨hrun.1,hrun.2.1⟩,fun _=>rfl⟩
 rw [lE ⟨fun _=>⟨hrun.1,hrun.2.1⟩,fun _=>rfl⟩ hrun] at hO
 simp only at hO
 have hI:=lC g hl
 rw [yD] at hI
 have hT:=CO g (by omega)
 have c9:=lF (g:=g)
 rw [Pp] at hT c9
 have hn:=aE (an hrun.1)
 have dG:=hrun.2.1.1
 have rD:=aQ hrun.2.1
 have hb1:decide (64<g.n+(bs.length:Int))=false:=decide_eq_false (by omega)
 have hb2:decide (128<(g.es.length:Int)+(bs.length:Int))=false:=decide_eq_false (by omega)
 have Sx:=yF g.es (by omega)
 have Sy:=yE p.ord (by omega)
 have Sz:∀k,k<p.outs.length→Spec Tryz.prog 71 (Args [.d (sI (p.outs.getD k []))]) [] (.d (sI (p.outs.getD k []))) []:=fun k hk=>jC _ (by
  have h1:=(hrun.2.1.2.2 k (by omega)).length_eq
  have h2:(aY g (k:Int)).length≤g.es.length:=fL
  omega)
 unfold iI
 (refine Spec.si (C:=T.cfg [51,55,76,75,200] []) (rs:= [.t 4, .t 5]) [(10000,59),(10001,51),(10002,55),(10003,200),(10004,57)] (T.ah _ _) Tryz.func76 rfl rfl Tryz.ntmps76 Tryz.results76 (by simp [AObj.isNest]) (by simp [AObj.isNest]) (by first|(simp [look];done)|(simp [asN];done)|(intro l hl;simp only [asN];repeat (rw [if_neg (fun e=>by subst e;simp [look] at hl)]))) (by first|(simp [look];done)|(simp [asN];done)|(intro l hl;simp only [asN];repeat (rw [if_neg (fun e=>by subst e;simp [look] at hl)]))) (by kernel_rfl) T.mixed fun X hX hP hC aC bL=> ?_)
 repeat' (first|(show bS _ (.seq (.region 8 _ _) _) _ _;(refine gS hX 59 3 200 (.own 31 1 []) rfl rfl rfl (by simp only [go_sem,simprocAttr,hb1,hb2]) (by decide) (by simp [go_sem,simprocAttr,hb1,hb2]) ⟨31,1,by decide, .inl rfl⟩ ?_;simp only [List.set_cons_zero,List.set_cons_succ,go_sem,simprocAttr,hb1,hb2]))|refine Rn.p ?_|(with_reducible apply And.intro)|((first|(refine hK _ ?_;clear hK K)|with_reducible intro K hK|refine Rs.p ?_|((with_reducible first|apply oP|apply oQ);exact rfl)|refine aa hX hC hP (hO) rfl rfl rfl (by simp only [go_sem,simprocAttr,hb1,hb2]) rfl ?_|refine aa hX hC hP (hI) rfl rfl rfl (by simp only [go_sem,simprocAttr,hb1,hb2]) rfl ?_|refine aa hX hC hP (hT) rfl rfl rfl (by simp only [go_sem,simprocAttr,hb1,hb2]) rfl ?_|(refine aj hX hC hP [(10000,51)] (Sx) rfl rfl rfl ?_ ?_ ?_ ?_ ?_ ?_ ?_ ?_ ?_ ?_ ?_ ?_ ?_ ?_;(focus (simp only [go_sem,simprocAttr,hb1,hb2];done));(iterate 12 (focus (simp [go_sem,simprocAttr,hb1,hb2];done)));try simp only [List.map_cons,List.map_nil])|(refine aj hX hC hP [(10000,55)] (Sy) rfl rfl rfl ?_ ?_ ?_ ?_ ?_ ?_ ?_ ?_ ?_ ?_ ?_ ?_ ?_ ?_;(focus (simp only [go_sem,simprocAttr,hb1,hb2];done));(iterate 12 (focus (simp [go_sem,simprocAttr,hb1,hb2];done)));try simp only [List.map_cons,List.map_nil]));try simp only [go_sem,simprocAttr,hb1,hb2])|((with_reducible refine oD ?_ ?_);kernel_rfl)|((with_reducible intro h);try simp only [go_sem,simprocAttr,hb1,hb2] at h)|omega|intro h)
 refine ag (fun k:Nat=>k≤p.outs.length) (fun k=>⟨[(4, .d (.sc (.pointer none))),(5,eN 0),(9, .d (sI bs)),(10, .ptr 59 0),(61, .d (.sl 1 (vI p.outs))),(62,eN p.outs.length),(63,eN k)], [(59, .box [eN g.n, .ref 51, .ref 55, .ref 200, .mref 57]),(51, .own 73 2 (g.es.map rE)),(55, .own 3 1 (p.ord.map rI)),(200, .own 31 1 (vI (p.outs.take k))),(57, .mp 0 [])]⟩) (fun k=>p.outs.length - k) 0 (by omega) ?_ ?_
 ·refine Le.of ?_ ?_<;>simp [go_sem,simprocAttr,vI]
 rintro k hk
 rcases Nat.lt_or_ge k p.outs.length with hlt|hge
 ·have hb:decide ((k:Int)<(p.outs.length:Int))=true:=decide_eq_true (by omega)
  have hc:=Sz k hlt
  have qo:(p.outs.take k).length=k:=by simp;omega
  have hv:vI (p.outs.take k)++ [[D.sl 1 ((p.outs.getD k []).map rI)]]=vI (p.outs.take (k+1)):=by
   rw [List.take_add_one,List.getElem?_eq_getElem hlt,Option.toList_some,BC,List.getD_eq_getElem?_getD,List.getElem?_eq_getElem hlt]
   rfl
  repeat' (first|(show bS _ (.region 12 _ _) _ _;(refine cB hX 59 3 76 200 rfl rfl rfl (by first|exact .inl rfl|exact .inr rfl) (by decide) (by decide) ?_;simp only [List.set_cons_zero,List.set_cons_succ,go_sem,simprocAttr,hb,hv,dS hlt,qo,sI]))|refine Rn.p ?_|(with_reducible apply And.intro)|((first|(refine hK _ ?_;clear hK K)|with_reducible intro K hK|refine Rs.p ?_|((with_reducible first|apply oP|apply oQ);exact rfl)|refine aa hX hC hP (hc) rfl rfl rfl (by simp only [go_sem,simprocAttr,hb,hv,dS hlt,qo,sI]) rfl ?_);try simp only [go_sem,simprocAttr,hb,hv,dS hlt,qo,sI])|((with_reducible refine oD ?_ ?_);kernel_rfl)|((with_reducible intro h);try simp only [go_sem,simprocAttr,hb,hv,dS hlt,qo,sI] at h)|omega|intro h)
  refine ⟨k+1,by omega, ?_,by omega⟩
  refine Le.of ?_ ?_<;>simp [go_sem,simprocAttr,hb,hv,dS hlt,qo,sI]
 ·have hb:decide ((k:Int)<(p.outs.length:Int))=false:=decide_eq_false (by omega)
  obtain rfl:k=p.outs.length:=by omega
  rw [List.take_length]
  repeat' (first|refine Rn.p ?_|(with_reducible apply And.intro)|((first|(refine hK _ ?_;clear hK K)|with_reducible intro K hK|refine Rs.p ?_|((with_reducible first|apply oP|apply oQ);exact rfl));try simp only [go_sem,simprocAttr,hb])|((with_reducible refine oD ?_ ?_);kernel_rfl)|((with_reducible intro h);try simp only [go_sem,simprocAttr,hb] at h)|omega|intro h)
  refine ag (fun k:Nat=>k≤bs.length) (fun k=>⟨[(4, .d (.sc (.pointer none))),(5,eN 0),(10, .ptr 59 0),(81, .d (sI bs)),(82,eN bs.length),(83,eN k)], [(59, .box [eN (g.n+(k:Int)), .ref 51, .ref 55, .ref 200, .mref 57]),(51, .own 73 2 ((fR g (bs.take k)).map rE)),(55, .own 3 1 ((dm g bs k p.ord).map rI)),(200, .own 31 1 (vI (p.outs++eo g k))),(57, .mp 0 (lR g bs k))]⟩) (fun k=>bs.length - k) 0 (by omega) ?_ ?_
  ·refine Le.of ?_ ?_<;>simp [go_sem,simprocAttr,xb,w6,eo,lR]
  rintro k hk
  rcases Nat.lt_or_ge k bs.length with hlt|hge
  ·have hb3:decide ((k:Int)<(bs.length:Int))=true:=decide_eq_true (by omega)
   have hL:=GN hrun c9 hs1 C2 hlt
   repeat' (first|(show bS _ (.region 17 _ _) _ _;(refine cB hX 59 1 301 51 rfl rfl rfl (by first|exact .inl rfl|exact .inr rfl) (by decide) (by decide) ?_;simp only [List.set_cons_zero,List.set_cons_succ,go_sem,simprocAttr,hb3,iI,GH]);(refine cB hX 59 2 302 55 rfl rfl rfl (by first|exact .inl rfl|exact .inr rfl) (by decide) (by decide) ?_;simp only [List.set_cons_zero,List.set_cons_succ,go_sem,simprocAttr,hb3,iI,GH]);(refine cB hX 59 3 303 200 rfl rfl rfl (by first|exact .inl rfl|exact .inr rfl) (by decide) (by decide) ?_;simp only [List.set_cons_zero,List.set_cons_succ,go_sem,simprocAttr,hb3,iI,GH]))|refine Rn.p ?_|(with_reducible apply And.intro)|((first|(refine hK _ ?_;clear hK K)|with_reducible intro K hK|refine Rs.p ?_|((with_reducible first|apply oP|apply oQ);exact rfl)|(refine aj hX hC hP [(10000,59),(10001,51),(10002,55),(10003,200),(10004,57),(10011,301),(10012,302),(10013,303)] (hL) rfl rfl rfl ?_ ?_ ?_ ?_ ?_ ?_ ?_ ?_ ?_ ?_ ?_ ?_ ?_ ?_;(focus (simp only [go_sem,simprocAttr,hb3,iI,GH];done));(iterate 12 (focus (simp [go_sem,simprocAttr,hb3,iI,GH];done)));try simp only [List.map_cons,List.map_nil]));try simp only [go_sem,simprocAttr,hb3,iI,GH])|((with_reducible refine oD ?_ ?_);kernel_rfl)|((with_reducible intro h);try simp only [go_sem,simprocAttr,hb3,iI,GH] at h)|omega|intro h)
   refine ⟨k+1,by omega, ?_,by omega⟩
   refine Le.of ?_ ?_<;>simp [go_sem,simprocAttr,hb3,iI,GH]
  ·have hb3:decide ((k:Int)<(bs.length:Int))=false:=decide_eq_false (by omega)
   obtain rfl:k=bs.length:=by omega
   rw [List.take_length]
   repeat' (first|refine Rn.p ?_|(with_reducible apply And.intro)|((first|(refine hK _ ?_;clear hK K)|with_reducible intro K hK|refine Rs.p ?_|((with_reducible first|apply oP|apply oQ);exact rfl));try simp only [go_sem,simprocAttr,hb3])|((with_reducible refine oD ?_ ?_);kernel_rfl)|((with_reducible intro h);try simp only [go_sem,simprocAttr,hb3] at h)|omega|intro h)
end Go.Ab
end
section
namespace Go.Ab
open Go.Proofs
attribute [local congr] ACall.congr gd.congr Nx.congr
set_option maxRecDepth 20000
set_option maxHeartbeats 8000000
noncomputable def iJ (b:Bool) (g:Gr) (p:Pl):Gr × Pl × Int:=
 if (bk b g p).2.1=0∧ni g=true then (if 64<g.n+(fz g).length∨128<g.es.length+(fz g).length then (gz,pz,10) else (aO g (fz g),oo g p (fz g),0)) else (gz,pz,1)
theorem yG (g:Gr) (hl:g.es.length≤1000) (p:Pl) (hp:gv p) (b:Bool) (hr:b=true↔(bE g).1=0∧aT g p):
 Spec Tryz.prog 38 (Args [eG g,ePl p]) [] (.tup [eG (iJ b g p).1,ePl (iJ b g p).2.1,eN (iJ b g p).2.2]) []:=by
 by_cases h0:(bk b g p).2.1=0∧ni g=true
 rotate_left
 ·have hN:=Ei g hl p hp b hr h0
  have hK:iJ b g p=(gz,pz,1):=if_neg h0
  rw [hK]
  (refine Spec.hd (C:=T.cfg [] []) (rs:= [.c 4 24, .c 5 34, .t 6]) (T.ah _ _) Tryz.func38 rfl rfl Tryz.ntmps38 Tryz.results38 (by simp [AObj.isNest]) (by simp [AObj.isNest]) (by kernel_rfl) T.mixed fun X hX hP hC aC bL=> ?_)
  repeat' (first|refine Rn.p ?_|(with_reducible apply And.intro)|((first|(refine hK _ ?_;clear hK K)|with_reducible intro K hK|refine Rs.p ?_|((with_reducible first|apply oP|apply oQ);exact rfl)|refine aa hX hC hP (hN) rfl rfl rfl (by simp only [go_sem,simprocAttr,gz,pz]) rfl ?_);try simp only [go_sem,simprocAttr,gz,pz])|((with_reducible refine oD ?_ ?_);kernel_rfl)|((with_reducible intro h);try simp only [go_sem,simprocAttr,gz,pz] at h)|omega|intro h)
  rfl
 by_cases h1:64<g.n+(fz g).length∨128<g.es.length+(fz g).length
 ·have hN:=vg g hl p hp b hr h0.1 h0.2 h1
  have hK:iJ b g p=(gz,pz,10):=by unfold iJ;rw [if_pos h0,if_pos h1]
  rw [hK]
  (refine Spec.hd (C:=T.cfg [] []) (rs:= [.c 4 24, .c 5 34, .t 6]) (T.ah _ _) Tryz.func38 rfl rfl Tryz.ntmps38 Tryz.results38 (by simp [AObj.isNest]) (by simp [AObj.isNest]) (by kernel_rfl) T.mixed fun X hX hP hC aC bL=> ?_)
  repeat' (first|refine Rn.p ?_|(with_reducible apply And.intro)|((first|(refine hK _ ?_;clear hK K)|with_reducible intro K hK|refine Rs.p ?_|((with_reducible first|apply oP|apply oQ);exact rfl)|refine aa hX hC hP (hN) rfl rfl rfl (by simp only [go_sem,simprocAttr,gz,pz]) rfl ?_);try simp only [go_sem,simprocAttr,gz,pz])|((with_reducible refine oD ?_ ?_);kernel_rfl)|((with_reducible intro h);try simp only [go_sem,simprocAttr,gz,pz] at h)|omega|intro h)
  rfl
 have hK:iJ b g p=(aO g (fz g),oo g p (fz g),0):=by unfold iJ;rw [if_pos h0,if_neg h1]
 rw [hK]
 obtain ⟨hrun,_⟩:=eC hr h0.1
 have hN:=xh g hl p hp hrun h0.2 (fz g) rfl (by omega) (by omega)
 generalize fz g=bs at hN
 (refine Spec.hd (C:=T.cfg [] []) (rs:= [.c 4 24, .c 5 34, .t 6]) (T.ah _ _) Tryz.func38 rfl rfl Tryz.ntmps38 Tryz.results38 (by simp [AObj.isNest]) (by simp [AObj.isNest]) (by kernel_rfl) T.mixed fun X hX hP hC aC bL=> ?_)
 repeat' (first|refine Rn.p ?_|(with_reducible apply And.intro)|((first|(refine hK _ ?_;clear hK K)|with_reducible intro K hK|refine Rs.p ?_|((with_reducible first|apply oP|apply oQ);exact rfl)|(refine aj hX hC hP [(10000,300),(10001,301),(10002,302),(10003,303),(10004,304)] (hN) rfl rfl rfl ?_ ?_ ?_ ?_ ?_ ?_ ?_ ?_ ?_ ?_ ?_ ?_ ?_ ?_;(focus (simp only [go_sem,simprocAttr,iI,aO,oo];done));(iterate 12 (focus (simp [go_sem,simprocAttr,iI,aO,oo];done)));try simp only [List.map_cons,List.map_nil]));try simp only [go_sem,simprocAttr,iI,aO,oo])|((with_reducible refine oD ?_ ?_);kernel_rfl)|((with_reducible intro h);try simp only [go_sem,simprocAttr,iI,aO,oo] at h)|omega|intro h)
end Go.Ab
end
section
namespace Go.Ab
open Go.Proofs
set_option maxRecDepth 10000
def nF (g:Gr) (both:Bool) (c:Nat→Bool) (a:List Bool):Nat→List Bool
 |0=>a
 |k+1=>if c k&&((nF g both c a k).getD (tl g k).toNat false||both&&(nF g both c a k).getD (hd g k).toNat false) then
   ((nF g both c a k).set (hd g k).toNat true).set (tl g k).toNat (((nF g both c a k).set (hd g k).toNat true).getD (tl g k).toNat false||both) else nF g both c a k
def pW (g:Gr) (both:Bool) (c:Nat→Bool) (a:List Bool):Nat→List Bool
 |0=>a
 |r+1=>nF g both c (pW g both c a r) g.es.length
theorem kM {l:List Bool} {i j:Nat} {a:Bool} (hi:i<l.length):(l.set i a).getD j false=if j=i then a else l.getD j false:=by
 rw [List.getD_eq_getElem?_getD,List.getElem?_set]
 by_cases h:i=j
 ·subst h;simp [hi]
 ·rw [if_neg h,if_neg (fun e=>h e.symm),List.getD_eq_getElem?_getD]
theorem pR {g:Gr} {both:Bool} {c:Nat→Bool} {a:List Bool} :∀ {k:Nat},(nF g both c a k).length=a.length
 |0=>rfl
 |k+1=>by
  rw [nF]
  split
  ·rw [List.length_set,List.length_set];exact pR
  ·exact pR
theorem e9 {g:Gr} {both:Bool} {c:Nat→Bool} {a:List Bool} :∀ {r:Nat},(pW g both c a r).length=a.length
 |0=>rfl
 |r+1=>by rw [pW,pR];exact e9
section
variable {g:Gr} (hm:aM g=true) {both:Bool} {c:Nat→Bool}
include hm
theorem CP {k:Nat} (hk:k<g.es.length):(tl g k).toNat<g.n.toNat∧(hd g k).toNat<g.n.toNat:=by
 have h1:=bu hm hk
 have h2:=bQ hm hk
 omega
theorem mE {a:List Bool} (ha:a.length=g.n.toNat) {k:Nat} (hk:k<g.es.length) {y:Nat} :(nF g both c a (k+1)).getD y false=true↔
 (nF g both c a k).getD y false=true∨c k=true∧((nF g both c a k).getD (tl g k).toNat false=true∧(y=(hd g k).toNat)∨both=true∧(nF g both c a k).getD (hd g k).toNat false=true∧y=(tl g k).toNat):=by
 obtain ⟨ht,hh⟩:=CP hm hk
 have hl:(nF g both c a k).length=g.n.toNat:=by rw [pR,ha]
 rw [nF]
 generalize nF g both c a k=b at hl
 cases hc:c k with
 |false=>simp
 |true=>
  simp only [Bool.true_and]
  by_cases hq:(b.getD (tl g k).toNat false||both&&b.getD (hd g k).toNat false)=true
  ·rw [if_pos hq,kM (by rw [List.length_set,hl];exact ht),kM (by rw [hl];exact hh),kM (by rw [hl];exact hh)]
   by_cases e1:y=(tl g k).toNat
   ·subst e1
    rw [if_pos rfl]
    by_cases e2:(tl g k).toNat=(hd g k).toNat
    ·rw [if_pos e2]
     simp only [Bool.true_or,true_iff]
     cases hb:b.getD (tl g k).toNat false with
     |true=>exact .inl rfl
     |false=>
      rw [hb] at hq
      rw [← e2,hb] at hq
      simp at hq
    ·rw [if_neg e2]
     cases hb:b.getD (tl g k).toNat false with
     |true=>simp
     |false=>
      rw [hb] at hq
      simp only [Bool.false_or,Bool.and_eq_true] at hq
      exact ⟨fun _=> .inr ⟨by simp, .inr ⟨hq.1,hq.2,rfl⟩⟩,fun _=>by rw [hq.1];rfl⟩
   ·rw [if_neg e1]
    by_cases e2:y=(hd g k).toNat
    ·subst e2
     rw [if_pos rfl]
     simp only [true_iff]
     cases hb:b.getD (tl g k).toNat false with
     |true=>exact .inr ⟨by simp, .inl ⟨by simp,by simp⟩⟩
     |false=>
      rw [hb] at hq
      simp only [Bool.false_or,Bool.and_eq_true] at hq
      exact .inl hq.2
    ·rw [if_neg e2]
     constructor
     ·intro h;exact .inl h
     ·rintro (h|⟨_,⟨_,h⟩|⟨_,_,h⟩⟩)
      ·exact h
      ·exact absurd h e2
      ·exact absurd h e1
  ·rw [if_neg hq]
   simp only [Bool.or_eq_true,Bool.and_eq_true,not_or,not_and] at hq
   constructor
   ·intro h;exact .inl h
   ·rintro (h|⟨_,⟨h,_⟩|⟨h1,h2,_⟩⟩)
    ·exact h
    ·exact absurd h hq.1
    ·exact absurd h2 (hq.2 h1)
theorem ju {a:List Bool} (ha:a.length=g.n.toNat) {y:Nat} (hy:a.getD y false=true):∀ {k:Nat},k≤g.es.length→(nF g both c a k).getD y false=true
 |0,_=>hy
 |k+1,hk=>(mE hm ha hk).2 (.inl (ju ha hy (by omega)))
theorem CQ {a:List Bool} (ha:a.length=g.n.toNat) {x:Nat} (hs:∀y,a.getD y false=true→qc g both c x y):∀ {k:Nat},k≤g.es.length→∀y,(nF g both c a k).getD y false=true→qc g both c x y
 |0,_,y,h=>hs y h
 |k+1,hk,y,h=>by
  have ih:=CQ ha hs (k:=k) (by omega)
  rcases (mE hm ha hk).1 h with h|⟨hc,⟨h1,rfl⟩|⟨h0,h1,rfl⟩⟩
  ·exact ih y h
  ·exact .fwd hk hc (ih _ h1)
  ·exact .Je hk hc h0 (ih _ h1)
theorem IE {a:List Bool} (ha:a.length=g.n.toNat) (hf:∀y,(nF g both c a g.es.length).getD y false=true→a.getD y false=true) {x y:Nat} (hx:a.getD x false=true) (h:qc g both c x y):a.getD y false=true:=by
 have up:∀ {j k:Nat},j≤k→k≤g.es.length→∀y,(nF g both c a j).getD y false=true→(nF g both c a k).getD y false=true:=by
  intro j k hjk
  induction hjk with
  |refl=>intro _ y h;exact h
  |step _ ih=>intro hk y h;exact (mE hm ha hk).2 (.inl (ih (by omega) y h))
 induction h with
 |refl=>exact hx
 | @fwd k hk hc _ ih=>exact hf _ (up (show k+1≤g.es.length from hk) (Nat.le_refl _) _ ((mE hm ha hk).2 (.inr ⟨hc, .inl ⟨ju hm ha ih (by omega),rfl⟩⟩)))
 | @Je k hk hc Pm _ ih=>exact hf _ (up (show k+1≤g.es.length from hk) (Nat.le_refl _) _ ((mE hm ha hk).2 (.inr ⟨hc, .inr ⟨Pm,ju hm ha ih (by omega),rfl⟩⟩)))
theorem CR {a:List Bool} (ha:a.length=g.n.toNat) {x:Nat} (hs:∀y,a.getD y false=true→qc g both c x y):∀r y,(pW g both c a r).getD y false=true→qc g both c x y
 |0,y,h=>hs y h
 |r+1,y,h=>CQ hm (by rw [e9];exact ha) (CR ha hs r) (Nat.le_refl _) y h
def pS (a:List Bool):Nat:=a.countP id
omit hm in
theorem GO:∀ {a b:List Bool},a.length=b.length→(∀y,a.getD y false=true→b.getD y false=true)→(∃y,b.getD y false=true∧a.getD y false=false)→pS a<pS b∧True
 | [], [],_,_,⟨y,h,_⟩=>by simp at h
 |p::a,q::b,hl,h,⟨y,h1,h2⟩=>by
  have le:∀ {a b:List Bool},a.length=b.length→(∀y,a.getD y false=true→b.getD y false=true)→pS a≤pS b:=by
   intro a
   induction a with
   |nil=>intro b _ _;exact Nat.zero_le _
   |cons p a ih=>
    intro b hl h
    cases b with
    |nil=>simp at hl
    |cons q b=>
     have:=ih (b:=b) (by simpa using hl) fun y=>by simpa using h (y+1)
     have h0:=h 0
     simp only [List.getD_cons_zero] at h0
     unfold pS at this ⊢
     rw [List.countP_cons,List.countP_cons]
     cases p with
     |false=>simp;omega
     |true=>simp [h0 rfl];omega
  have hl':a.length=b.length:=by simpa using hl
  have h':∀y,a.getD y false=true→b.getD y false=true:=fun y=>by simpa using h (y+1)
  refine ⟨?_,trivial⟩
  have hle:=le hl' h'
  unfold pS at hle ⊢
  rw [List.countP_cons,List.countP_cons]
  cases y with
  |zero=>
   simp only [List.getD_cons_zero] at h1 h2
   subst h1 h2
   simp;omega
  |succ y=>
   have ih:=(GO hl' h' ⟨y,by simpa using h1,by simpa using h2⟩).1
   unfold pS at ih
   have h0:=h 0
   simp only [List.getD_cons_zero] at h0
   cases p with
   |false=>simp;omega
   |true=>simp [h0 rfl];omega
omit hm in
theorem Ks (a:List Bool):pS a≤a.length:=List.countP_le_length
theorem GP {a:List Bool} (ha:a.length=g.n.toNat) (r:Nat):(∀y,(pW g both c a (r+1)).getD y false=true→(pW g both c a r).getD y false=true)∨pS (pW g both c a r)<pS (pW g both c a (r+1)):=by
 by_cases h:∀y,(pW g both c a (r+1)).getD y false=true→(pW g both c a r).getD y false=true
 ·exact .inl h
 ·refine .inr (GO (e9.trans (e9 (r:=r+1)).symm) (fun y hy=>ju hm (by rw [e9];exact ha) hy (Nat.le_refl _)) ?_).1
  simp only [Classical.not_forall] at h
  obtain ⟨y,h1,h2⟩:=h
  exact ⟨y,h1,by simpa using h2⟩
theorem GQ {a:List Bool} (ha:a.length=g.n.toNat) {x:Nat} (hx:a.getD x false=true) (hs:∀y,a.getD y false=true→qc g both c x y) (hc1:0<pS a) (y:Nat):(pW g both c a g.n.toNat).getD y false=true↔qc g both c x y:=by
 refine ⟨CR hm ha hs _ y,fun h=> ?_⟩
 have Pq:∀r,(pW g both c a r).getD x false=true:=fun r=>by
  induction r with
  |zero=>exact hx
  |succ r ih=>exact ju hm (by rw [e9];exact ha) ih (Nat.le_refl _)
 have key:∀r,(∀y,qc g both c x y→(pW g both c a r).getD y false=true)∨r<pS (pW g both c a r):=by
  intro r
  induction r with
  |zero=>exact .inr hc1
  |succ r ih=>
   rcases ih with ih|ih
   ·exact .inl fun y hy=>ju hm (by rw [e9];exact ha) (ih y hy) (Nat.le_refl _)
   ·rcases GP hm ha r with h|h
    ·exact .inl fun y hy=>ju hm (by rw [e9];exact ha) (IE hm (by rw [e9];exact ha) h (Pq r) hy) (Nat.le_refl _)
    ·exact .inr (by omega)
 rcases key g.n.toNat with h1|h1
 ·exact h1 y h
 ·have:=Ks (pW g both c a g.n.toNat)
  rw [e9,ha] at this
  omega
end
end Go.Ab
end
section
namespace Go.Ab
open Go.Proofs
attribute [local congr] ACall.congr gd.congr Nx.congr
set_option maxRecDepth 20000
set_option maxHeartbeats 8000000
theorem BP (g:Gr) (hl:g.es.length≤1000):Spec Tryz.prog 128 (Args [eG g]) [] (.ref 10000) [(10000, .own 4 1 ((gq g.es.length g.es.length).map rB))]:=by
 have hz:=tY (n:=g.es.length)
 (refine Spec.si (C:=T.cfg [8] []) (rs:= [.t 2]) [(10000,8)] (T.ah _ _) Tryz.func128 rfl rfl Tryz.ntmps128 Tryz.results128 (by simp [AObj.isNest]) (by simp [AObj.isNest]) (by first|(simp [look];done)|(simp [asN];done)|(intro l hl;simp only [asN];repeat (rw [if_neg (fun e=>by subst e;simp [look] at hl)]))) (by first|(simp [look];done)|(simp [asN];done)|(intro l hl;simp only [asN];repeat (rw [if_neg (fun e=>by subst e;simp [look] at hl)]))) (by kernel_rfl) T.mixed fun X hX hP hC aC bL=> ?_)
 repeat' (first|refine Rn.p ?_|(with_reducible apply And.intro)|((first|(refine hK _ ?_;clear hK K)|with_reducible intro K hK|refine Rs.p ?_|((with_reducible first|apply oP|apply oQ);exact rfl));try simp only [go_sem,simprocAttr,hz])|((with_reducible refine oD ?_ ?_);kernel_rfl)|((with_reducible intro h);try simp only [go_sem,simprocAttr,hz] at h)|omega|intro h)
 refine ag (fun k:Nat=>k≤g.es.length) (fun k=>⟨[(3, .ref 8),(4,eN k)], [(8, .own 4 1 ((gq g.es.length k).map rB))]⟩) (fun k=>g.es.length - k) 0 (by omega) ?_ ?_
 ·refine Le.of ?_ ?_<;>simp [go_sem,simprocAttr,hz]
 rintro k hk
 have sq:=trueK_length (n:=g.es.length) (k:=k)
 rcases Nat.lt_or_ge k g.es.length with hlt|hge
 ·have hb:decide ((k:Int)<(g.es.length:Int))=true:=decide_eq_true (by omega)
  have bN:=jj (n:=g.es.length) (k:=k)
  generalize gq g.es.length k=L at sq bN
  repeat' (first|refine Rn.p ?_|(with_reducible apply And.intro)|((first|(refine hK _ ?_;clear hK K)|with_reducible intro K hK|refine Rs.p ?_|((with_reducible first|apply oP|apply oQ);exact rfl));try simp only [go_sem,simprocAttr,hb,sq,bP])|((with_reducible refine oD ?_ ?_);kernel_rfl)|((with_reducible intro h);try simp only [go_sem,simprocAttr,hb,sq,bP] at h)|omega|intro h)
  refine ⟨k+1,by omega, ?_,by omega⟩
  rw [← bN]
  refine Le.of ?_ ?_<;>simp [go_sem,simprocAttr,hb,sq,bP]
 ·have hb:decide ((k:Int)<(g.es.length:Int))=false:=decide_eq_false (by omega)
  obtain rfl:k=g.es.length:=by omega
  repeat' (first|refine Rn.p ?_|(with_reducible apply And.intro)|((first|(refine hK _ ?_;clear hK K)|with_reducible intro K hK|refine Rs.p ?_|((with_reducible first|apply oP|apply oQ);exact rfl));try simp only [go_sem,simprocAttr,hb,sq])|((with_reducible refine oD ?_ ?_);kernel_rfl)|((with_reducible intro h);try simp only [go_sem,simprocAttr,hb,sq] at h)|omega|intro h)
def eS (n x:Nat):List Bool:=(List.replicate n false).set x true
theorem ot {n x:Nat} :(eS n x).length=n:=by simp [eS]
theorem GR {n:Nat} :List.replicate n [D.sc (.bool false)]=(List.replicate n false).map rB:=by simp [rB]
theorem BQ (g:Gr) (hm:aM g=true) (x:Nat) (hx:x<g.n.toNat) (both:Bool) (cs:List Bool) (hcs:cs.length=g.es.length):
 Spec Tryz.prog 129 (Args [eG g,eN x,eB both, .d (sB cs)]) [] (.d (sB (pW g both (fun k=>cs.getD k false) (eS g.n.toNat x) g.n.toNat))) []:=by
 have hn:=aE hm
 have hst:(List.replicate g.n.toNat false).set x true=eS g.n.toNat x:=rfl
 have Es:=ot (n:=g.n.toNat) (x:=x)
 generalize hc:(fun k=>cs.getD k false)=c
 (refine Spec.hd (C:=T.cfg [15] []) (rs:= [.t 8]) (T.ah _ _) Tryz.func129 rfl rfl Tryz.ntmps129 Tryz.results129 (by simp [AObj.isNest]) (by simp [AObj.isNest]) (by kernel_rfl) T.mixed fun X hX hP hC aC bL=> ?_)
 repeat' (first|refine Rn.p ?_|(with_reducible apply And.intro)|((first|(refine hK _ ?_;clear hK K)|with_reducible intro K hK|refine Rs.p ?_|((with_reducible first|apply oP|apply oQ);exact rfl));try simp only [go_sem,simprocAttr,GR,bP,hst,List.length_replicate])|((with_reducible refine oD ?_ ?_);kernel_rfl)|((with_reducible intro h);try simp only [go_sem,simprocAttr,GR,bP,hst,List.length_replicate] at h)|omega|intro h)
 refine ag (fun r:Nat=>r≤g.n.toNat) (fun r=>⟨[(2,eB both),(3, .d (sB cs)),(4, .ptr 4 0),(9, .ref 15),(10,eN r)], [(4, .box [eN g.n, .d (sE g.es)]),(15, .own 4 1 ((pW g both c (eS g.n.toNat x) r).map rB))]⟩) (fun r=>g.n.toNat - r) 0 (by omega) ?_ ?_
 ·refine Le.of ?_ ?_<;>simp [go_sem,simprocAttr,pW]
 rintro r hr
 have hRl:(pW g both c (eS g.n.toNat x) r).length=g.n.toNat:=by rw [e9];exact Es
 rcases Nat.lt_or_ge r g.n.toNat with hlt|hge
 rotate_left
 ·have hb:decide ((r:Int)<g.n)=false:=decide_eq_false (by omega)
  obtain rfl:r=g.n.toNat:=by omega
  repeat' (first|refine Rn.p ?_|(with_reducible apply And.intro)|((first|(refine hK _ ?_;clear hK K)|with_reducible intro K hK|refine Rs.p ?_|((with_reducible first|apply oP|apply oQ);exact rfl));try simp only [go_sem,simprocAttr,hb])|((with_reducible refine oD ?_ ?_);kernel_rfl)|((with_reducible intro h);try simp only [go_sem,simprocAttr,hb] at h)|omega|intro h)
 have hb:decide ((r:Int)<g.n)=true:=decide_eq_true (by omega)
 have ME:pW g both c (eS g.n.toNat x) (r+1)=nF g both c (pW g both c (eS g.n.toNat x) r) g.es.length:=rfl
 generalize pW g both c (eS g.n.toNat x) r=a at hRl ME ⊢
 repeat' (first|refine Rn.p ?_|(with_reducible apply And.intro)|((first|(refine hK _ ?_;clear hK K)|with_reducible intro K hK|refine Rs.p ?_|((with_reducible first|apply oP|apply oQ);exact rfl));try simp only [go_sem,simprocAttr,hb])|((with_reducible refine oD ?_ ?_);kernel_rfl)|((with_reducible intro h);try simp only [go_sem,simprocAttr,hb] at h)|omega|intro h)
 refine ag (fun k:Nat=>k≤g.es.length) (fun k=>⟨[(2,eB both),(3, .d (sB cs)),(4, .ptr 4 0),(9, .ref 15),(10,eN r),(11,eN k)], [(4, .box [eN g.n, .d (sE g.es)]),(15, .own 4 1 ((nF g both c a k).map rB))]⟩) (fun k=>g.es.length - k) 0 (by omega) ?_ ?_
 ·refine Le.of ?_ ?_<;>simp [go_sem,simprocAttr,nF]
 rintro k hk
 rcases Nat.lt_or_ge k g.es.length with Pr|SA
 rotate_left
 ·have c9:decide ((k:Int)<(g.es.length:Int))=false:=decide_eq_false (by omega)
  obtain rfl:k=g.es.length:=by omega
  repeat' (first|refine Rn.p ?_|(with_reducible apply And.intro)|((first|(refine hK _ ?_;clear hK K)|with_reducible intro K hK|refine Rs.p ?_|((with_reducible first|apply oP|apply oQ);exact rfl));try simp only [go_sem,simprocAttr,c9])|((with_reducible refine oD ?_ ?_);kernel_rfl)|((with_reducible intro h);try simp only [go_sem,simprocAttr,c9] at h)|omega|intro h)
  refine ⟨r+1,by omega, ?_,by omega⟩
  rw [ME]
  refine Le.of ?_ ?_<;>simp [go_sem,simprocAttr,c9]
 have c9:decide ((k:Int)<(g.es.length:Int))=true:=decide_eq_true (by omega)
 obtain ⟨ht,hh⟩:=cE hm Pr
 obtain ⟨u,hu⟩:∃u:Nat,(g.es.getD k (0,0)).1=u:=⟨(g.es.getD k (0,0)).1.toNat,by omega⟩
 obtain ⟨v,hv⟩:∃v:Nat,(g.es.getD k (0,0)).2=v:=⟨(g.es.getD k (0,0)).2.toNat,by omega⟩
 rw [hu] at ht
 rw [hv] at hh
 have htl:(tl g k).toNat=u:=by show ((g.es.getD k (0,0)).1).toNat=u;rw [hu];rfl
 have Bx:(hd g k).toNat=v:=by show ((g.es.getD k (0,0)).2).toNat=v;rw [hv];rfl
 have SB:c k=cs.getD k false:=by rw [← hc]
 have bN:nF g both c a (k+1)=if (cs.getD k false&&((nF g both c a k).getD u false||both&&(nF g both c a k).getD v false))=true then ((nF g both c a k).set v true).set u (((nF g both c a k).set v true).getD u false||both) else nF g both c a k:=by
  rw [← SB,nF,htl,Bx]
 have Kt:(nF g both c a k).length=g.n.toNat:=by rw [pR,hRl]
 generalize nF g both c a k=b at bN Kt
 generalize hq1:b.getD u false=q1 at bN
 generalize Cd:b.getD v false=q2 at bN
 generalize Pu:(b.set v true).getD u false=q3 at bN
 generalize HJ:cs.getD k false=q0 at bN
 have Lt:(b.set v true).length=g.n.toNat:=by rw [List.length_set];exact Kt
 cases q0<;>cases q1<;>cases both<;>cases q2<;>cases q3<;>simp only [Bool.or_false,Bool.or_true,Bool.false_or,Bool.true_or,Bool.and_true,Bool.true_and,Bool.and_false,Bool.false_and,Bool.false_eq_true,if_true,if_false] at bN
 all_goals (repeat' (first|refine Rn.p ?_|(with_reducible apply And.intro)|((first|(refine hK _ ?_;clear hK K)|with_reducible intro K hK|refine Rs.p ?_|((with_reducible first|apply oP|apply oQ);exact rfl));try simp only [go_sem,simprocAttr,c9,hu,hv,Kt,hcs,HJ,hq1,Cd,Pu,Lt,bP])|((with_reducible refine oD ?_ ?_);kernel_rfl)|((with_reducible intro h);try simp only [go_sem,simprocAttr,c9,hu,hv,Kt,hcs,HJ,hq1,Cd,Pu,Lt,bP] at h)|omega|intro h))
 all_goals (refine ⟨k+1,by omega, ?_,by omega⟩)
 all_goals (rw [bN])
 all_goals (refine Le.of ?_ ?_<;>simp [go_sem,simprocAttr,c9,hu,hv,Kt,hcs,HJ,hq1,Cd,Pu,Lt,bP])
theorem qc.congr {g:Gr} {both:Bool} {c c':Nat→Bool} (h:∀k,k<g.es.length→c k=c' k) {x y:Nat} (hr:qc g both c x y):qc g both c' x y:=by
 induction hr with
 |refl=>exact .refl
 | @fwd i a b _ ih=>exact .fwd a (by rw [← h i a];exact b) ih
 | @Je i a b d _ ih=>exact .Je a (by rw [← h i a];exact b) d ih
theorem xj {n x y:Nat} (hx:x<n):(eS n x).getD y false=true↔y=x:=by
 unfold eS
 rw [kM (by simpa using hx)]
 by_cases h:y=x
 ·rw [if_pos h];simp [h]
 ·rw [if_neg h]
  simp only [h,iff_false,Bool.not_eq_true]
  rw [List.getD_eq_getElem?_getD,List.getElem?_replicate]
  split<;>rfl
theorem BR {n x:Nat} (hx:x<n):0<pS (eS n x):=by
 unfold pS
 rw [List.countP_pos_iff]
 refine ⟨true, ?_,rfl⟩
 unfold eS
 rw [List.mem_iff_getElem?]
 exact ⟨x,by rw [List.getElem?_set_self (by simpa using hx)]⟩
def vH (m i:Nat):List Bool:=(gq m m).set i false
theorem GS {m i:Nat} :(vH m i).length=m:=by rw [vH,List.length_set,trueK_length]
theorem CS {m i k:Nat} (hi:i<m) (hk:k<m):(vH m i).getD k false=yB i k:=by
 unfold vH yB
 rw [kM (by rw [trueK_length];exact hi)]
 by_cases h:k=i
 ·subst h;simp
 ·rw [if_neg h,gq,List.getD_eq_getElem?_getD,List.getElem?_map,List.getElem?_range hk]
  simp [hk];omega
theorem pT {g:Gr} (hm:aM g=true) {i:Nat} (hi:i<g.es.length):(pW g false (fun k=>(vH g.es.length i).getD k false) (eS g.n.toNat (tl g i).toNat) g.n.toNat).getD (hd g i).toNat false=Ec g i:=by
 obtain ⟨ht,hh⟩:=CP hm hi
 rw [Bool.eq_iff_iff,GQ hm ot ((xj ht).2 rfl) (fun y hy=>by rw [(xj ht).1 hy];exact .refl) (BR ht),Ec,BF ht,CM]
 constructor
 ·intro h
  exact ⟨hh,h.congr fun k hk=>CS hi hk⟩
 ·rintro ⟨_,h⟩
  exact h.congr fun k hk=>(CS hi hk).symm
end Go.Ab
end
section
namespace Go.Ab
open Go.Proofs
attribute [local congr] ACall.congr gd.congr Nx.congr
set_option maxRecDepth 20000
set_option maxHeartbeats 8000000
theorem vh (g:Gr) (hm:aM g=true):Spec Tryz.prog 85 (Args [eG g]) [] (.d (sI (fz g))) []:=by
 have hn:=aE hm
 have hE:=BP g (by omega)
 have hT:fz g=yC g g.es.length:=if_pos hm
 rw [hT]
 have oI:=fun i=>GS (m:=g.es.length) (i:=i)
 have hbd:∀i,(gq g.es.length g.es.length).set i false=vH g.es.length i:=fun _=>rfl
 have htl:=trueK_length (n:=g.es.length) (k:=g.es.length)
 generalize gq g.es.length g.es.length=TT at hE hbd htl
 (refine Spec.hd (C:=T.cfg [7,37,36,16] []) (rs:= [.t 2]) (T.ah _ _) Tryz.func85 rfl rfl Tryz.ntmps85 Tryz.results85 (by simp [AObj.isNest]) (by simp [AObj.isNest]) (by kernel_rfl) T.mixed fun X hX hP hC aC bL=> ?_)
 repeat' (first|(show bS _ (.seq (.region 2 _ _) _) _ _;(refine jQ hX 3 7 200 (by simp only [go_sem,simprocAttr]) rfl (by first|exact .inl rfl|exact .inr rfl) (by decide) ?_;simp only [go_sem,simprocAttr]))|refine Rn.p ?_|(with_reducible apply And.intro)|((first|(refine hK _ ?_;clear hK K)|with_reducible intro K hK|refine Rs.p ?_|((with_reducible first|apply oP|apply oQ);exact rfl));try simp only [go_sem,simprocAttr])|((with_reducible refine oD ?_ ?_);kernel_rfl)|((with_reducible intro h);try simp only [go_sem,simprocAttr] at h)|omega|intro h)
 refine ag (fun k:Nat=>k≤g.es.length) (fun k=>⟨[(1, .ptr 1 0),(3, .ref 200),(4,eN k)], [(1, .box [eN g.n, .d (sE g.es)]),(200, .own 3 1 ((yC g k).map rI))]⟩) (fun k=>g.es.length - k) 0 (by omega) ?_ ?_
 ·refine Le.of ?_ ?_<;>simp [go_sem,simprocAttr,yC]
 rintro k hk
 rcases Nat.lt_or_ge k g.es.length with hlt|hge
 rotate_left
 ·have hb:decide ((k:Int)<(g.es.length:Int))=false:=decide_eq_false (by omega)
  obtain rfl:k=g.es.length:=by omega
  repeat' (first|refine Rn.p ?_|(with_reducible apply And.intro)|((first|(refine hK _ ?_;clear hK K)|with_reducible intro K hK|refine Rs.p ?_|((with_reducible first|apply oP|apply oQ);exact rfl));try simp only [go_sem,simprocAttr,hb])|((with_reducible refine oD ?_ ?_);kernel_rfl)|((with_reducible intro h);try simp only [go_sem,simprocAttr,hb] at h)|omega|intro h)
 have hb:decide ((k:Int)<(g.es.length:Int))=true:=decide_eq_true (by omega)
 have bN:=mC (g:=g) (k:=k)
 have sq:=sJ (g:=g) (k:=k)
 obtain ⟨ht,hh⟩:=cE hm hlt
 obtain ⟨x,hx⟩:∃x:Nat,(g.es.getD k (0,0)).1=x:=⟨(g.es.getD k (0,0)).1.toNat,by omega⟩
 obtain ⟨y,hy⟩:∃y:Nat,(g.es.getD k (0,0)).2=y:=⟨(g.es.getD k (0,0)).2.toNat,by omega⟩
 rw [hx] at ht
 rw [hy] at hh
 have e1:(tl g k).toNat=x:=by show ((g.es.getD k (0,0)).1).toNat=x;rw [hx];rfl
 have e2:(hd g k).toNat=y:=by show ((g.es.getD k (0,0)).2).toNat=y;rw [hy];rfl
 have hV:=pT hm hlt
 rw [e1,e2] at hV
 have Nk:=BQ g hm x (by omega) false (vH g.es.length k) (oI k)
 have ou:(pW g false (fun q=>(vH g.es.length k).getD q false) (eS g.n.toNat x) g.n.toNat).length=g.n.toNat:=by rw [e9];exact ot
 generalize pW g false (fun q=>(vH g.es.length k).getD q false) (eS g.n.toNat x) g.n.toNat=R at hV Nk ou
 have c9:=hbd k
 have mF:=oI k
 generalize vH g.es.length k=BL at Nk c9 mF
 generalize yC g k=O at bN sq
 generalize Ec g k=tb at bN hV
 cases tb with
 |true=>
  rw [if_pos rfl] at bN
  repeat' (first|(show bS _ (.seq (.region 8 _ _) _) _ _;(refine cA hX 16 rfl (.inl rfl) ?_;simp only [go_sem,simprocAttr,hb,hx,hy,htl,c9,mF,ou,hV,bP,sB,getD_rB]))|(show bS _ (.region 4 _ _) _ _;(refine jQ hX 3 37 200 (by simp only [go_sem,simprocAttr,hb,hx,hy,htl,c9,mF,ou,hV,bP,sB,getD_rB]) rfl (by first|exact .inl rfl|exact .inr rfl) (by decide) ?_;simp only [go_sem,simprocAttr,hb,hx,hy,htl,c9,mF,ou,hV,bP,sB,getD_rB]))|refine Rn.p ?_|(with_reducible apply And.intro)|((first|(refine hK _ ?_;clear hK K)|with_reducible intro K hK|refine Rs.p ?_|((with_reducible first|apply oP|apply oQ);exact rfl)|(refine aj hX hC hP [(10000,16)] (hE) rfl rfl rfl ?_ ?_ ?_ ?_ ?_ ?_ ?_ ?_ ?_ ?_ ?_ ?_ ?_ ?_;(focus (simp only [go_sem,simprocAttr,hb,hx,hy,htl,c9,mF,ou,hV,bP,sB,getD_rB];done));(iterate 12 (focus (simp [go_sem,simprocAttr,hb,hx,hy,htl,c9,mF,ou,hV,bP,sB,getD_rB];done)));try simp only [List.map_cons,List.map_nil])|refine aa hX hC hP (Nk) rfl rfl rfl (by simp only [go_sem,simprocAttr,hb,hx,hy,htl,c9,mF,ou,hV,bP,sB,getD_rB]) rfl ?_);try simp only [go_sem,simprocAttr,hb,hx,hy,htl,c9,mF,ou,hV,bP,sB,getD_rB])|((with_reducible refine oD ?_ ?_);kernel_rfl)|((with_reducible intro h);try simp only [go_sem,simprocAttr,hb,hx,hy,htl,c9,mF,ou,hV,bP,sB,getD_rB] at h)|omega|intro h)
  refine ⟨k+1,by omega, ?_,by omega⟩
  rw [bN]
  refine Le.of ?_ ?_<;>simp [go_sem,simprocAttr,hb,hx,hy,htl,c9,mF,ou,hV,bP,sB,getD_rB,rI]
 |false=>
  rw [if_neg (by simp)] at bN
  repeat' (first|(show bS _ (.seq (.region 8 _ _) _) _ _;(refine cA hX 16 rfl (.inl rfl) ?_;simp only [go_sem,simprocAttr,hb,hx,hy,htl,c9,mF,ou,hV,bP,sB,getD_rB]))|refine Rn.p ?_|(with_reducible apply And.intro)|((first|(refine hK _ ?_;clear hK K)|with_reducible intro K hK|refine Rs.p ?_|((with_reducible first|apply oP|apply oQ);exact rfl)|(refine aj hX hC hP [(10000,16)] (hE) rfl rfl rfl ?_ ?_ ?_ ?_ ?_ ?_ ?_ ?_ ?_ ?_ ?_ ?_ ?_ ?_;(focus (simp only [go_sem,simprocAttr,hb,hx,hy,htl,c9,mF,ou,hV,bP,sB,getD_rB];done));(iterate 12 (focus (simp [go_sem,simprocAttr,hb,hx,hy,htl,c9,mF,ou,hV,bP,sB,getD_rB];done)));try simp only [List.map_cons,List.map_nil])|refine aa hX hC hP (Nk) rfl rfl rfl (by simp only [go_sem,simprocAttr,hb,hx,hy,htl,c9,mF,ou,hV,bP,sB,getD_rB]) rfl ?_);try simp only [go_sem,simprocAttr,hb,hx,hy,htl,c9,mF,ou,hV,bP,sB,getD_rB])|((with_reducible refine oD ?_ ?_);kernel_rfl)|((with_reducible intro h);try simp only [go_sem,simprocAttr,hb,hx,hy,htl,c9,mF,ou,hV,bP,sB,getD_rB] at h)|omega|intro h)
  refine ⟨k+1,by omega, ?_,by omega⟩
  rw [bN]
  refine Le.of ?_ ?_<;>simp [go_sem,simprocAttr,hb,hx,hy,htl,c9,mF,ou,hV,bP,sB,getD_rB]
end Go.Ab
end
section
namespace Go.Ab
open Go.Proofs
attribute [local congr] ACall.congr gd.congr Nx.congr
set_option maxRecDepth 10000
set_option maxHeartbeats 16000000
theorem qJ (g:Gr) (hl:g.es.length≤9223372036854775807) (p:Pl) (hp:gv p) (b:Bool) (hr:b=true↔(bE g).1=0∧aT g p):Spec Tryz.prog 20 (Args [eG g,ePl p]) [] (eB (decide ((bk b g p).2.1=0))) []:=by
 have hO:=zY g hl p hp b hr
 generalize bk b g p=R at hO
 (refine Spec.hd (C:=T.cfg [] []) (rs:= [.t 4]) (T.ah _ _) Tryz.func20 rfl rfl Tryz.ntmps20 Tryz.results20 (by simp [AObj.isNest]) (by simp [AObj.isNest]) (by kernel_rfl) T.mixed fun X hX hP hC aC bL=> ?_)
 repeat' (first|refine Rn.p ?_|(with_reducible apply And.intro)|((first|(refine hK _ ?_;clear hK K)|with_reducible intro K hK|refine Rs.p ?_|((with_reducible first|apply oP|apply oQ);exact rfl)|refine aa hX hC hP (hO) rfl rfl rfl (by simp only [go_sem,simprocAttr]) rfl ?_);try simp only [go_sem,simprocAttr])|((with_reducible refine oD ?_ ?_);kernel_rfl)|((with_reducible intro h);try simp only [go_sem,simprocAttr] at h)|omega|intro h)
end Go.Ab
end
section
namespace Go.Ab
open Go.Proofs
attribute [local congr] ACall.congr gd.congr Nx.congr
set_option maxRecDepth 20000
set_option maxHeartbeats 8000000
theorem yH (g:Gr) (hl:g.es.length≤1000) (p:Pl) (hp:gv p) (b:Bool) (hr:b=true↔(bE g).1=0∧aT g p) (hno:¬((bk b g p).2.1=0∧ni g=true)):
 Spec Tryz.prog 39 (Args [eG g,ePl p]) [] (.tup [eG gz,ePl pz,eN 1]) []:=by
 have hO:=qJ g (by omega) p hp b hr
 have hI:=oh g hl
 cases yD:ni g with
 |false=>
  rw [yD] at hI
  (refine Spec.hd (C:=T.cfg [] []) (rs:= [.c 4 24, .c 5 34, .t 6]) (T.ah _ _) Tryz.func39 rfl rfl Tryz.ntmps39 Tryz.results39 (by simp [AObj.isNest]) (by simp [AObj.isNest]) (by kernel_rfl) T.mixed fun X hX hP hC aC bL=> ?_)
  repeat' (first|refine Rn.p ?_|(with_reducible apply And.intro)|((first|(refine hK _ ?_;clear hK K)|with_reducible intro K hK|refine Rs.p ?_|((with_reducible first|apply oP|apply oQ);exact rfl)|refine aa hX hC hP (hI) rfl rfl rfl (by simp only [go_sem,simprocAttr,gz,pz]) rfl ?_);try simp only [go_sem,simprocAttr,gz,pz])|((with_reducible refine oD ?_ ?_);kernel_rfl)|((with_reducible intro h);try simp only [go_sem,simprocAttr,gz,pz] at h)|omega|intro h)
  rfl
 |true=>
  rw [yD] at hI
  have h0:¬(bk b g p).2.1=0:=fun e=>hno ⟨e,yD⟩
  rw [decide_eq_false h0] at hO
  (refine Spec.hd (C:=T.cfg [] []) (rs:= [.c 4 24, .c 5 34, .t 6]) (T.ah _ _) Tryz.func39 rfl rfl Tryz.ntmps39 Tryz.results39 (by simp [AObj.isNest]) (by simp [AObj.isNest]) (by kernel_rfl) T.mixed fun X hX hP hC aC bL=> ?_)
  repeat' (first|refine Rn.p ?_|(with_reducible apply And.intro)|((first|(refine hK _ ?_;clear hK K)|with_reducible intro K hK|refine Rs.p ?_|((with_reducible first|apply oP|apply oQ);exact rfl)|refine aa hX hC hP (hI) rfl rfl rfl (by simp only [go_sem,simprocAttr,gz,pz]) rfl ?_|refine aa hX hC hP (hO) rfl rfl rfl (by simp only [go_sem,simprocAttr,gz,pz]) rfl ?_);try simp only [go_sem,simprocAttr,gz,pz])|((with_reducible refine oD ?_ ?_);kernel_rfl)|((with_reducible intro h);try simp only [go_sem,simprocAttr,gz,pz] at h)|omega|intro h)
  rfl
theorem vJ (g:Gr) (hl:g.es.length≤1000) (p:Pl) (hp:gv p) (b:Bool) (hr:b=true↔(bE g).1=0∧aT g p) (h0:(bk b g p).2.1=0) (yD:ni g=true) (hbig:64<g.n+(fz g).length∨128<g.es.length+(fz g).length):
 Spec Tryz.prog 39 (Args [eG g,ePl p]) [] (.tup [eG gz,ePl pz,eN 10]) []:=by
 have hO:=qJ g (by omega) p hp b hr
 have hI:=oh g hl
 obtain ⟨hrun,hR⟩:=eC hr h0
 have hm:=an hrun.1
 have hT:=vh g hm
 rw [decide_eq_true h0] at hO
 rw [yD] at hI
 have hn:=aE hm
 have sq:(fz g).length≤1000:=by
  have h1:fz g=yC g g.es.length:=if_pos hm
  have:=sJ (g:=g) (k:=g.es.length)
  rw [h1];omega
 generalize fz g=bs at hT hbig sq
 by_cases hA:64<g.n+(bs.length:Int)
 ·have hb1:decide (64<g.n+(bs.length:Int))=true:=decide_eq_true hA
  (refine Spec.hd (C:=T.cfg [] []) (rs:= [.c 4 24, .c 5 34, .t 6]) (T.ah _ _) Tryz.func39 rfl rfl Tryz.ntmps39 Tryz.results39 (by simp [AObj.isNest]) (by simp [AObj.isNest]) (by kernel_rfl) T.mixed fun X hX hP hC aC bL=> ?_)
  repeat' (first|refine Rn.p ?_|(with_reducible apply And.intro)|((first|(refine hK _ ?_;clear hK K)|with_reducible intro K hK|refine Rs.p ?_|((with_reducible first|apply oP|apply oQ);exact rfl)|refine aa hX hC hP (hO) rfl rfl rfl (by simp only [go_sem,simprocAttr,hb1,gz,pz]) rfl ?_|refine aa hX hC hP (hI) rfl rfl rfl (by simp only [go_sem,simprocAttr,hb1,gz,pz]) rfl ?_|refine aa hX hC hP (hT) rfl rfl rfl (by simp only [go_sem,simprocAttr,hb1,gz,pz]) rfl ?_);try simp only [go_sem,simprocAttr,hb1,gz,pz])|((with_reducible refine oD ?_ ?_);kernel_rfl)|((with_reducible intro h);try simp only [go_sem,simprocAttr,hb1,gz,pz] at h)|omega|intro h)
  rfl
 ·have hb1:decide (64<g.n+(bs.length:Int))=false:=decide_eq_false hA
  have hb2:decide (128<(g.es.length:Int)+(bs.length:Int))=true:=decide_eq_true (by omega)
  (refine Spec.hd (C:=T.cfg [] []) (rs:= [.c 4 24, .c 5 34, .t 6]) (T.ah _ _) Tryz.func39 rfl rfl Tryz.ntmps39 Tryz.results39 (by simp [AObj.isNest]) (by simp [AObj.isNest]) (by kernel_rfl) T.mixed fun X hX hP hC aC bL=> ?_)
  repeat' (first|refine Rn.p ?_|(with_reducible apply And.intro)|((first|(refine hK _ ?_;clear hK K)|with_reducible intro K hK|refine Rs.p ?_|((with_reducible first|apply oP|apply oQ);exact rfl)|refine aa hX hC hP (hO) rfl rfl rfl (by simp only [go_sem,simprocAttr,hb1,hb2,gz,pz]) rfl ?_|refine aa hX hC hP (hI) rfl rfl rfl (by simp only [go_sem,simprocAttr,hb1,hb2,gz,pz]) rfl ?_|refine aa hX hC hP (hT) rfl rfl rfl (by simp only [go_sem,simprocAttr,hb1,hb2,gz,pz]) rfl ?_);try simp only [go_sem,simprocAttr,hb1,hb2,gz,pz])|((with_reducible refine oD ?_ ?_);kernel_rfl)|((with_reducible intro h);try simp only [go_sem,simprocAttr,hb1,hb2,gz,pz] at h)|omega|intro h)
  rfl
end Go.Ab
end
section
namespace Go.Ab
open Go.Proofs
attribute [local congr] ACall.congr gd.congr Nx.congr
set_option maxRecDepth 20000
set_option maxHeartbeats 16000000
theorem CT {g:Gr} {bs:List Int} {k:Nat} {v:Int} :(jz g bs k v).length≤k:=by
 unfold jz
 rw [List.length_map]
 exact Nat.le_trans (List.length_filter_le _ _) (by simp)
theorem Ej {g:Gr} {bs:List Int} {k:Nat} {l:List Int} {i:Nat} (hi:i<l.length):dm g bs k (l.take (i+1))=dm g bs k (l.take i)++(l.getD i 0::jz g bs k (l.getD i 0)):=by
 rw [List.take_add_one,List.getElem?_eq_getElem hi,Option.toList_some,uZ,List.getD_eq_getElem?_getD,List.getElem?_eq_getElem hi]
 simp [dm]
theorem xk {g:Gr} {bs:List Int} {k:Nat} :∀ {l:List Int},(dm g bs k l).length≤l.length*(k+1)
 | []=>by simp [dm]
 |v::l=>by
  have:=xk (g:=g) (bs:=bs) (k:=k) (l:=l)
  have h2:=CT (g:=g) (bs:=bs) (k:=k) (v:=v)
  rw [gM,List.length_cons,List.length_append,List.length_cons,Nat.add_mul]
  omega
theorem yI (g:Gr) (hl:g.es.length≤1000) (p:Pl) (hp:gv p) (hrun:bn g p) (yD:ni g=true) (bs:List Int) (Pp:fz g=bs) (hs1:g.n+bs.length≤64) (C2:g.es.length+bs.length≤128):
 Spec Tryz.prog 39 (Args [eG g,ePl p]) [] (.tup [eG (aO g bs),ePl (oo g p bs),eN 0]) []:=by
 have hr:(true=true)↔(bE g).1=0∧aT g p:=⟨fun _=>⟨hrun.1,hrun.2.1⟩,fun _=>rfl⟩
 have hO:=qJ g (by omega) p hp true hr
 rw [lE hr hrun] at hO
 have hO:Spec Tryz.prog 20 (Args [eG g,ePl p]) [] (eB true) []:=hO
 have hI:=oh g hl
 rw [yD] at hI
 have hm:=an hrun.1
 have hT:=vh g hm
 have c9:=lF (g:=g)
 rw [Pp] at hT c9
 have hn:=aE hm
 have dG:=hrun.2.1.1
 have rD:=aQ hrun.2.1
 have hb1:decide (64<g.n+(bs.length:Int))=false:=decide_eq_false (by omega)
 have hb2:decide (128<(g.es.length:Int)+(bs.length:Int))=false:=decide_eq_false (by omega)
 (refine Spec.hd (C:=T.cfg [50] []) (rs:= [.c 4 24, .c 5 34, .t 6]) (T.ah _ _) Tryz.func39 rfl rfl Tryz.ntmps39 Tryz.results39 (by simp [AObj.isNest]) (by simp [AObj.isNest]) (by kernel_rfl) T.mixed fun X hX hP hC aC bL=> ?_)
 repeat' (first|(show bS _ (.seq (.region 8 _ _) _) _ _;(refine cB hX 8 1 53 210 rfl rfl rfl (by first|exact .inl rfl|exact .inr rfl) (by decide) (by decide) ?_;simp only [List.set_cons_zero,List.set_cons_succ,go_sem,simprocAttr,hb1,hb2]);(refine gS hX 9 0 201 (.tip 3 1 []) rfl rfl rfl (by simp only [go_sem,simprocAttr,hb1,hb2]) (by decide) (by simp [go_sem,simprocAttr,hb1,hb2]) ⟨3,1,by decide, .inr rfl⟩ ?_;simp only [List.set_cons_zero,List.set_cons_succ,go_sem,simprocAttr,hb1,hb2]);(refine gS hX 9 1 200 (.tip 31 1 []) rfl rfl rfl (by simp only [go_sem,simprocAttr,hb1,hb2]) (by decide) (by simp [go_sem,simprocAttr,hb1,hb2]) ⟨31,1,by decide, .inr rfl⟩ ?_;simp only [List.set_cons_zero,List.set_cons_succ,go_sem,simprocAttr,hb1,hb2]))|refine Rn.p ?_|(with_reducible apply And.intro)|((first|(refine hK _ ?_;clear hK K)|with_reducible intro K hK|refine Rs.p ?_|((with_reducible first|apply oP|apply oQ);exact rfl)|refine aa hX hC hP (hO) rfl rfl rfl (by simp only [go_sem,simprocAttr,hb1,hb2]) rfl ?_|refine aa hX hC hP (hI) rfl rfl rfl (by simp only [go_sem,simprocAttr,hb1,hb2]) rfl ?_|refine aa hX hC hP (hT) rfl rfl rfl (by simp only [go_sem,simprocAttr,hb1,hb2]) rfl ?_);try simp only [go_sem,simprocAttr,hb1,hb2])|((with_reducible refine oD ?_ ?_);kernel_rfl)|((with_reducible intro h);try simp only [go_sem,simprocAttr,hb1,hb2] at h)|omega|intro h)
 refine ag (fun k:Nat=>k≤p.outs.length) (fun k=>⟨[(2, .ptr 2 0),(3, .ptr 3 0),(4, .ptr 4 0),(5, .ptr 5 0),(7, .d (sI bs)),(8, .ptr 8 0),(9, .ptr 9 0),(10,eN k)], [(2, .box [eN g.n, .d (sE g.es)]),(3, .box [.d (sI p.ord), .d (.sl 1 (vI p.outs))]),(4, .box [eN 0, .nil 73]),(5, .box [.nil 3, .nil 31]),(8, .box [eN (g.n+(bs.length:Int)), .ref 210]),(9, .box [.ref 201, .ref 200]),(210, .own 73 2 (g.es.map rE)),(201, .tip 3 1 []),(200, .tip 31 1 (vI (p.outs.take k)))]⟩) (fun k=>p.outs.length - k) 0 (by omega) ?_ ?_
 ·refine Le.of ?_ ?_<;>simp [go_sem,simprocAttr,vI]
 rintro k hk
 rcases Nat.lt_or_ge k p.outs.length with hlt|hge
 ·have hb:decide ((k:Int)<(p.outs.length:Int))=true:=decide_eq_true (by omega)
  have hrl:(p.outs.getD k []).length≤1000:=by
   have h1:=(hrun.2.1.2.2 k (by omega)).length_eq
   have h2:(aY g (k:Int)).length≤g.es.length:=fL
   omega
  have I8:=dS hlt
  have qo:(p.outs.take k).length=k:=by simp;omega
  have bN:vI (p.outs.take (k+1))=vI (p.outs.take k)++ [[sI (p.outs.getD k [])]]:=by
   rw [List.take_add_one,List.getElem?_eq_getElem hlt,Option.toList_some,BC,List.getD_eq_getElem?_getD,List.getElem?_eq_getElem hlt]
   rfl
  generalize p.outs.getD k []=l at hrl I8 bN
  repeat' (first|(show bS _ (.region 10 _ _) _ _;(refine cB hX 9 1 73 200 rfl rfl rfl (by first|exact .inl rfl|exact .inr rfl) (by decide) (by decide) ?_;simp only [List.set_cons_zero,List.set_cons_succ,go_sem,simprocAttr,hb,I8,qo]))|refine Rn.p ?_|(with_reducible apply And.intro)|((first|(refine hK _ ?_;clear hK K)|with_reducible intro K hK|refine Rs.p ?_|((with_reducible first|apply oP|apply oQ);exact rfl));try simp only [go_sem,simprocAttr,hb,I8,qo])|((with_reducible refine oD ?_ ?_);kernel_rfl)|((with_reducible intro h);try simp only [go_sem,simprocAttr,hb,I8,qo] at h)|omega|intro h)
  refine ⟨k+1,by omega, ?_,by omega⟩
  rw [bN]
  refine Le.of ?_ ?_<;>simp [go_sem,simprocAttr,hb,I8,qo]
 have hb:decide ((k:Int)<(p.outs.length:Int))=false:=decide_eq_false (by omega)
 obtain rfl:k=p.outs.length:=by omega
 rw [List.take_length]
 repeat' (first|refine Rn.p ?_|(with_reducible apply And.intro)|((first|(refine hK _ ?_;clear hK K)|with_reducible intro K hK|refine Rs.p ?_|((with_reducible first|apply oP|apply oQ);exact rfl));try simp only [go_sem,simprocAttr,hb])|((with_reducible refine oD ?_ ?_);kernel_rfl)|((with_reducible intro h);try simp only [go_sem,simprocAttr,hb] at h)|omega|intro h)
 clear hb
 refine ag (fun k:Nat=>k≤bs.length) (fun k=>⟨[(2, .ptr 2 0),(3, .ptr 3 0),(4, .ptr 4 0),(5, .ptr 5 0),(7, .d (sI bs)),(8, .ptr 8 0),(9, .ptr 9 0),(11,eN k)], [(2, .box [eN g.n, .d (sE g.es)]),(3, .box [.d (sI p.ord), .d (.sl 1 (vI p.outs))]),(4, .box [eN 0, .nil 73]),(5, .box [.nil 3, .nil 31]),(8, .box [eN (g.n+(bs.length:Int)), .ref 210]),(9, .box [.ref 201, .ref 200]),(210, .own 73 2 ((fR g (bs.take k)).map rE)),(201, .tip 3 1 []),(200, .tip 31 1 (vI (p.outs++eo g k)))]⟩) (fun k=>bs.length - k) 0 (by omega) ?_ ?_
 ·refine Le.of ?_ ?_<;>simp [go_sem,simprocAttr,xb,eo]
 rintro k hk
 rcases Nat.lt_or_ge k bs.length with hlt|hge
 ·have hb:decide ((k:Int)<(bs.length:Int))=true:=decide_eq_true (by omega)
  have hr:=c9.qt _ (aG (d:=0) hlt)
  obtain ⟨e,he⟩:∃e:Nat,bs.getD k 0=e:=⟨(bs.getD k 0).toNat,by omega⟩
  obtain ⟨e1,e2,e3⟩:=w9 c9 hlt he
  have hel:(fR g (bs.take k)).length=g.es.length+k:=by rw [vf,List.length_take];omega
  have Bx:(g.es.getD e (0,0)).2=hd g e:=rfl
  have oy:(eo g k).length=k:=by simp [eo]
  have MD:vI (p.outs++eo g (k+1))=vI (p.outs++eo g k)++ [[sI [((g.es.length+k:Nat):Int)]]]:=by rw [xg, ← List.append_assoc,BC];rfl
  have hvl:(vI (p.outs++eo g k)).length=p.outs.length+k:=by simp [vI,oy]
  have e5:(fR g (bs.take k)++ [(g.n+(k:Int),hd g e)]).getD e (0,0)=(tl g e,hd g e):=by
   rw [List.getD_eq_getElem?_getD,List.getElem?_append_left (by omega), ← List.getD_eq_getElem?_getD,e2]
  generalize Nd:fR g (bs.take (k+1))=E2 at e3
  generalize fR g (bs.take k)=E1 at hel e2 e3 e5
  generalize SC:eo g (k+1)=O2 at MD
  generalize eo g k=O1 at oy MD hvl
  repeat' (first|(show bS _ (.seq (.region 17 _ _) _) _ _;(refine cB hX 8 1 99 210 rfl rfl rfl (by first|exact .inl rfl|exact .inr rfl) (by decide) (by decide) ?_;simp only [List.set_cons_zero,List.set_cons_succ,go_sem,simprocAttr,hb,he,Bx,hel,hvl,List.length_append,List.length_cons,List.length_nil]))|(show bS _ (.region 14 _ _) _ _;(refine cB hX 9 1 119 200 rfl rfl rfl (by first|exact .inl rfl|exact .inr rfl) (by decide) (by decide) ?_;simp only [List.set_cons_zero,List.set_cons_succ,go_sem,simprocAttr,hb,he,Bx,hel,hvl,List.length_append,List.length_cons,List.length_nil]))|refine Rn.p ?_|(with_reducible apply And.intro)|((first|(refine hK _ ?_;clear hK K)|with_reducible intro K hK|refine Rs.p ?_|((with_reducible first|apply oP|apply oQ);exact rfl));try simp only [go_sem,simprocAttr,hb,he,Bx,hel,hvl,List.length_append,List.length_cons,List.length_nil])|((with_reducible refine oD ?_ ?_);kernel_rfl)|((with_reducible intro h);try simp only [go_sem,simprocAttr,hb,he,Bx,hel,hvl,List.length_append,List.length_cons,List.length_nil] at h)|omega|intro h)
  refine ⟨k+1,by omega, ?_,by omega⟩
  have hrw:(E1.map rE++ [[D.sc (.int .i64 (g.n+(k:Int))),D.sc (.int .i64 (hd g e))]]).getD e [D.sc (.int .i64 0),D.sc (.int .i64 0)]= [D.sc (.int .i64 (tl g e)),D.sc (.int .i64 (hd g e))]:=by
   have h1:=congrArg rE e5
   rw [List.getD_eq_getElem?_getD] at h1 ⊢
   rw [show E1.map rE++ [[D.sc (.int .i64 (g.n+(k:Int))),D.sc (.int .i64 (hd g e))]]=(E1++ [(g.n+(k:Int),hd g e)]).map rE by rw [List.map_append];rfl,List.getElem?_map]
   cases hq:(E1++ [(g.n+(k:Int),hd g e)])[e]? with
   |none=>rw [List.getElem?_eq_none_iff,List.length_append,hel] at hq;omega
   |some q=>rw [hq] at h1;exact h1
  have oL:(E1.map rE++ [[D.sc (.int .i64 (g.n+(k:Int))),D.sc (.int .i64 (hd g e))]]).set e [D.sc (.int .i64 (tl g e)),D.sc (.int .i64 (g.n+(k:Int)))]=E2.map rE:=by
   rw [e3,List.map_set,List.map_append];rfl
  rw [SC,MD,Nd]
  rw [List.getD_eq_getElem?_getD] at hrw
  refine Le.of ?_ ?_<;>simp [go_sem,simprocAttr,hb,he,Bx,hel,hvl,List.length_append,List.length_cons,List.length_nil,hrw,oL,rI]
 have hb:decide ((k:Int)<(bs.length:Int))=false:=decide_eq_false (by omega)
 obtain rfl:k=bs.length:=by omega
 rw [List.take_length]
 repeat' (first|refine Rn.p ?_|(with_reducible apply And.intro)|((first|(refine hK _ ?_;clear hK K)|with_reducible intro K hK|refine Rs.p ?_|((with_reducible first|apply oP|apply oQ);exact rfl));try simp only [go_sem,simprocAttr,hb])|((with_reducible refine oD ?_ ?_);kernel_rfl)|((with_reducible intro h);try simp only [go_sem,simprocAttr,hb] at h)|omega|intro h)
 clear hb
 have qb:oo g p bs=⟨dm g bs bs.length p.ord,p.outs++eo g bs.length⟩:=rfl
 have Qs:aO g bs=⟨g.n+bs.length,fR g bs⟩:=rfl
 have SD:(fR g bs).length=g.es.length+bs.length:=vf
 have KI:(eo g bs.length).length=bs.length:=by simp [eo]
 generalize fR g bs=E at Qs SD
 generalize SE:p.outs++eo g bs.length=O at qb
 have SF:O.length=p.outs.length+bs.length:=by rw [← SE,List.length_append,KI]
 refine ag (fun i:Nat=>i≤p.ord.length) (fun i=>⟨[(2, .ptr 2 0),(3, .ptr 3 0),(4, .ptr 4 0),(5, .ptr 5 0),(7, .d (sI bs)),(8, .ptr 8 0),(9, .ptr 9 0),(13,eN i)], [(2, .box [eN g.n, .d (sE g.es)]),(3, .box [.d (sI p.ord), .d (.sl 1 (vI p.outs))]),(4, .box [eN 0, .nil 73]),(5, .box [.nil 3, .nil 31]),(8, .box [eN (g.n+(bs.length:Int)), .ref 210]),(9, .box [.ref 201, .ref 200]),(210, .own 73 2 (E.map rE)),(201, .tip 3 1 ((dm g bs bs.length (p.ord.take i)).map rI)),(200, .tip 31 1 (vI O))]⟩) (fun i=>p.ord.length - i) 0 (by omega) ?_ ?_
 ·refine Le.of ?_ ?_<;>simp [go_sem,simprocAttr,dm]
 rintro i hi
 rcases Nat.lt_or_ge i p.ord.length with hil|Mh
 ·have hb:decide ((i:Int)<(p.ord.length:Int))=true:=decide_eq_true (by omega)
  have bN:=Ej (g:=g) (bs:=bs) (k:=bs.length) hil
  have hRl:=xk (g:=g) (bs:=bs) (k:=bs.length) (l:=p.ord.take i)
  have hmul:(p.ord.take i).length*(bs.length+1)≤64*129:=Nat.mul_le_mul (by rw [List.length_take];omega) (by omega)
  have Pq:=bC hrun.2.1 (k:=i) (by omega)
  have fO:p.ord.getD i 0=aH p i:=rfl
  rw [fO] at bN
  generalize Nh:dm g bs bs.length (p.ord.take (i+1))=R2 at bN
  generalize dm g bs bs.length (p.ord.take i)=R1 at bN hRl
  generalize hx:aH p i=x at fO bN Pq
  repeat' (first|(show bS _ (.seq (.region 23 _ _) _) _ _;(refine cB hX 9 0 136 201 rfl rfl rfl (by first|exact .inl rfl|exact .inr rfl) (by decide) (by decide) ?_;simp only [List.set_cons_zero,List.set_cons_succ,go_sem,simprocAttr,hb,fO]))|refine Rn.p ?_|(with_reducible apply And.intro)|((first|(refine hK _ ?_;clear hK K)|with_reducible intro K hK|refine Rs.p ?_|((with_reducible first|apply oP|apply oQ);exact rfl));try simp only [go_sem,simprocAttr,hb,fO])|((with_reducible refine oD ?_ ?_);kernel_rfl)|((with_reducible intro h);try simp only [go_sem,simprocAttr,hb,fO] at h)|omega|intro h)
  refine ag (fun k:Nat=>k≤bs.length) (fun k=>⟨[(2, .ptr 2 0),(3, .ptr 3 0),(4, .ptr 4 0),(5, .ptr 5 0),(7, .d (sI bs)),(8, .ptr 8 0),(9, .ptr 9 0),(13,eN i),(14,eN k)], [(2, .box [eN g.n, .d (sE g.es)]),(3, .box [.d (sI p.ord), .d (.sl 1 (vI p.outs))]),(4, .box [eN 0, .nil 73]),(5, .box [.nil 3, .nil 31]),(8, .box [eN (g.n+(bs.length:Int)), .ref 210]),(9, .box [.ref 201, .ref 200]),(210, .own 73 2 (E.map rE)),(201, .tip 3 1 ((R1++x::jz g bs k x).map rI)),(200, .tip 31 1 (vI O))]⟩) (fun k=>bs.length - k) 0 (by omega) ?_ ?_
  ·refine Le.of ?_ ?_<;>simp [go_sem,simprocAttr,jz,rI]
  rintro k hk
  rcases Nat.lt_or_ge k bs.length with b9|C1
  ·have vi:decide ((k:Int)<(bs.length:Int))=true:=decide_eq_true (by omega)
   have hr:=c9.qt _ (aG (d:=0) b9)
   obtain ⟨e,he⟩:∃e:Nat,bs.getD k 0=e:=⟨(bs.getD k 0).toNat,by omega⟩
   have hel:e<g.es.length:=by omega
   have oy:=uY (g:=g) (bs:=bs) (k:=k) x
   have htl:eR g (bs.getD k 0)=(g.es.getD e (0,0)).1:=by unfold eR;rw [he,Int.toNat_natCast]
   rw [htl] at oy
   have Kt:=CT (g:=g) (bs:=bs) (k:=k) (v:=x)
   generalize Qt:jz g bs (k+1) x=K2 at oy
   generalize jz g bs k x=K1 at oy Kt
   generalize ht:(g.es.getD e (0,0)).1=t at oy
   by_cases Nl:t=x
   ·have GK:decide (t=x)=true:=decide_eq_true Nl
    rw [if_pos Nl] at oy
    repeat' (first|(show bS _ (.region 25 _ _) _ _;(refine cB hX 9 0 166 201 rfl rfl rfl (by first|exact .inl rfl|exact .inr rfl) (by decide) (by decide) ?_;simp only [List.set_cons_zero,List.set_cons_succ,go_sem,simprocAttr,hb,vi,he,ht,fO,GK,List.length_append,List.length_cons]))|refine Rn.p ?_|(with_reducible apply And.intro)|((first|(refine hK _ ?_;clear hK K)|with_reducible intro K hK|refine Rs.p ?_|((with_reducible first|apply oP|apply oQ);exact rfl));try simp only [go_sem,simprocAttr,hb,vi,he,ht,fO,GK,List.length_append,List.length_cons])|((with_reducible refine oD ?_ ?_);kernel_rfl)|((with_reducible intro h);try simp only [go_sem,simprocAttr,hb,vi,he,ht,fO,GK,List.length_append,List.length_cons] at h)|omega|intro h)
    refine ⟨k+1,by omega, ?_,by omega⟩
    rw [Qt,oy]
    refine Le.of ?_ ?_<;>simp [go_sem,simprocAttr,hb,vi,he,ht,fO,GK,List.length_append,List.length_cons,rI]
   ·have GK:decide (t=x)=false:=decide_eq_false Nl
    rw [if_neg Nl,List.append_nil] at oy
    repeat' (first|refine Rn.p ?_|(with_reducible apply And.intro)|((first|(refine hK _ ?_;clear hK K)|with_reducible intro K hK|refine Rs.p ?_|((with_reducible first|apply oP|apply oQ);exact rfl));try simp only [go_sem,simprocAttr,hb,vi,he,ht,fO,GK])|((with_reducible refine oD ?_ ?_);kernel_rfl)|((with_reducible intro h);try simp only [go_sem,simprocAttr,hb,vi,he,ht,fO,GK] at h)|omega|intro h)
    refine ⟨k+1,by omega, ?_,by omega⟩
    rw [Qt,oy]
    refine Le.of ?_ ?_<;>simp [go_sem,simprocAttr,hb,vi,he,ht,fO,GK]
  have vi:decide ((k:Int)<(bs.length:Int))=false:=decide_eq_false (by omega)
  obtain rfl:k=bs.length:=by omega
  repeat' (first|refine Rn.p ?_|(with_reducible apply And.intro)|((first|(refine hK _ ?_;clear hK K)|with_reducible intro K hK|refine Rs.p ?_|((with_reducible first|apply oP|apply oQ);exact rfl));try simp only [go_sem,simprocAttr,hb,vi])|((with_reducible refine oD ?_ ?_);kernel_rfl)|((with_reducible intro h);try simp only [go_sem,simprocAttr,hb,vi] at h)|omega|intro h)
  refine ⟨i+1,by omega, ?_,by omega⟩
  rw [Nh,bN]
  refine Le.of ?_ ?_<;>simp [go_sem,simprocAttr,hb,vi]
 have hb:decide ((i:Int)<(p.ord.length:Int))=false:=decide_eq_false (by omega)
 obtain rfl:i=p.ord.length:=by omega
 rw [List.take_length,qb,Qs]
 repeat' (first|refine Rn.p ?_|(with_reducible apply And.intro)|((first|(refine hK _ ?_;clear hK K)|with_reducible intro K hK|refine Rs.p ?_|((with_reducible first|apply oP|apply oQ);exact rfl));try simp only [go_sem,simprocAttr,hb])|((with_reducible refine oD ?_ ?_);kernel_rfl)|((with_reducible intro h);try simp only [go_sem,simprocAttr,hb] at h)|omega|intro h)
 all_goals rfl
end Go.Ab
end
section
namespace Go.Ab
open Go.Proofs
attribute [local congr] ACall.congr gd.congr Nx.congr
set_option maxRecDepth 10000
abbrev Pt:=Int × Int
def eP (p:Pt):AV:= .agg [.d (.sc (.int .i64 p.1)), .d (.sc (.int .i64 p.2))]
def rP (p:Pt):List D:= [.sc (.int .i64 p.1), .sc (.int .i64 p.2)]
attribute [go_sem] eP
def vm (p:Pt):Prop:=(-262144≤p.1∧p.1≤262144)∧(-262144≤p.2∧p.2≤262144)
def Ax (a b:Int):Int:=if a<b then -1 else if b<a then 1 else 0
def CU (a b n:Int):Bool:=decide (min a b≤n)&&decide (n≤max a b)
def tm (a b c d:Pt):Int:=(b.1 - a.1)*(d.2 - c.2) - (b.2 - a.2)*(d.1 - c.1)
def sd (a b c:Pt):Int:=Ax (tm a b a c) 0
def IF (a b c:Pt):Bool:=decide (sd a b c=0)&&CU a.1 b.1 c.1&&CU a.2 b.2 c.2
end Go.Ab
end
section
namespace Go.Ab
open Go.Proofs
attribute [local congr] ACall.congr gd.congr Nx.congr
set_option maxRecDepth 10000
def SG (p:Pt):Bool:=decide (262144<max p.1 p.2)||decide (min p.1 p.2< -262144)
theorem getD_rP (ps:List Pt) (i:Nat):(ps.map rP).getD i [.sc (.int .i64 0), .sc (.int .i64 0)]=rP (ps.getD i (0,0)):=by
 simp only [List.getD_eq_getElem?_getD,List.getElem?_map]
 cases ps[i]? <;>rfl
theorem rP_eq (p:Pt):rP p= [.sc (.int .i64 p.1), .sc (.int .i64 p.2)]:=rfl
attribute [go_sem] getD_rP rP_eq Int.toNat_natCast
end Go.Ab
end
section
namespace Go.Ab
open Go.Proofs
attribute [local congr] ACall.congr gd.congr Nx.congr
set_option maxRecDepth 10000
instance (p:Pt):Decidable (vm p):=by unfold vm;infer_instance
def Qu (a b c:Pt):Int:=if vm a∧vm b∧vm c then sd a b c else 0
def SH (a b c:Pt):Bool:=decide (vm a∧vm b∧vm c)&&IF a b c
end Go.Ab
end
section
namespace Go.Ab
open Go.Proofs
attribute [local congr] ACall.congr gd.congr Nx.congr
set_option maxRecDepth 10000
def ru (a b c:Pt):Int:=a.1*b.2 - a.2*b.1+b.1*c.2 - b.2*c.1+c.1*a.2 - c.2*a.1
def qK (a b p:Pt):Int:=(p.1 - a.1)*(b.1 - a.1)+(p.2 - a.2)*(b.2 - a.2)
def MF (a b c:Pt):Int:=if vm a∧vm b∧vm c then Ax (ru a b c) 0 else 0
def GU (a b c:Pt):Bool:=decide (vm a∧vm b∧vm c)&&(decide (ru a b c=0)&&decide ((a.1 - c.1)*(b.1 - c.1)+(a.2 - c.2)*(b.2 - c.2)≤0))
end Go.Ab
end
section
namespace Go.Ab
open Go.Proofs
attribute [local congr] ACall.congr gd.congr Nx.congr
set_option maxRecDepth 10000
set_option maxHeartbeats 2000000
def TF:OT:=(.br 0 (.br 1 (.br 2 (.br 3 (.br 4 (.br 5 (.br 6 .nil .nil) .nil) .nil) (.br 4 (.br 3 (.br 5 (.br 6 .nil .nil) .nil) (.br 5 (.br 3 (.br 6 .nil .nil) .nil) .nil)) .nil)) (.br 4 (.br 2 (.br 3 (.br 5 (.br 6 .nil .nil) .nil) (.br 5 (.br 3 (.br 6 .nil .nil) .nil) .nil)) (.br 5 (.br 2 (.br 3 (.br 6 .nil .nil) .nil) .nil) .nil)) .nil)) .nil) (.br 1 (.br 0 (.br 2 (.br 3 (.br 4 (.br 5 (.br 6 .nil .nil) .nil) .nil) (.br 4 (.br 3 (.br 5 (.br 6 .nil .nil) .nil) (.br 5 (.br 3 (.br 6 .nil .nil) .nil) .nil)) .nil)) (.br 4 (.br 2 (.br 3 (.br 5 (.br 6 .nil .nil) .nil) (.br 5 (.br 3 (.br 6 .nil .nil) .nil) .nil)) (.br 5 (.br 2 (.br 3 (.br 6 .nil .nil) .nil) .nil) .nil)) .nil)) .nil) .nil))
def MG (a b c d:Pt):Int:=
 if vm a∧vm b∧vm c∧vm d then
  if a=b then (if GU c d a=true then 1 else 0)
  else if c=d then (if GU a b c=true then 1 else 0)
  else if Ax (ru a b c) 0=0∧Ax (ru a b d) 0=0 then
   let lo:=max (qK a b a) (min (qK a b c) (qK a b d))
   let hi:=min (qK a b b) (max (qK a b c) (qK a b d))
   if hi<lo then 0 else if lo=hi then 1 else 2
  else if Ax (ru a b c) 0*Ax (ru a b d) 0≤0∧Ax (ru c d a) 0*Ax (ru c d b) 0≤0 then 1 else 0
 else 0
end Go.Ab
end
section
namespace Go.Ab
open Go.Proofs
attribute [local congr] ACall.congr gd.congr Nx.congr
set_option maxRecDepth 10000
set_option maxHeartbeats 2000000
theorem mval_touch (es:List (List Int × Int)) (k:List Int):lM (fc es k) k=lM es k:=by
 unfold fc
 cases h:cw es k with
 |some i=>rfl
 |none=>
  have hn:=s7 h
  have:cw (es++ [(k,0)]) k=some es.length:=by
   unfold cw
   rw [List.findIdx?_eq_some_iff_getElem]
   refine ⟨by simp,by simp,fun j hj=> ?_⟩
   rw [List.getElem_append_left hj]
   have:=hn es[j] (List.getElem_mem hj)
   simpa using fun e=>this e.symm
  simp [lM,h,this]
def SI (es:List (List Int × Int)) (k:List Int):List (List Int × Int):=rz (fc es k) (jO es k) (lM es k+1)
def IG (p:Pt) (ks:List (List Int)):List (List Int):=if [p.1,p.2]∈ks then ks else ks++ [[p.1,p.2]]
def BE (n:Int) (es:List (List Int × Int)):Prop:=∀p∈es,0≤p.2∧p.2≤n
end Go.Ab
end
section
namespace Go.Ab
open Go.Proofs
attribute [local congr] ACall.congr gd.congr Nx.congr
set_option maxRecDepth 10000
set_option maxHeartbeats 4000000
attribute [go_sem] mval_touch
def K1 (a _b c d:Pt):List (List Int):=if IF c d a=true then IG a [] else []
def K2 (a b c d:Pt):List (List Int):=if IF c d b=true then IG b (K1 a b c d) else K1 a b c d
def K3 (a b c d:Pt):List (List Int):=if IF a b c=true then IG c (K2 a b c d) else K2 a b c d
def K4 (a b c d:Pt):List (List Int):=if IF a b d=true then IG d (K3 a b c d) else K3 a b c d
def Qv (a b c d:Pt):Int:=
 if vm a∧vm b∧vm c∧vm d then
  if 0<(K4 a b c d).length then min ((K4 a b c d).length:Int) 2
  else if sd a b c*sd a b d<0∧sd c d a*sd c d b<0 then 1 else 0
 else 0
def RS (A B C:List (List Int)) (p:Nat × List (List Int × Int)) (n:Int):Prop:=
 (p.1=0∧p.2.map (·.1)=A∧BE n p.2)∨(p.1=1∧p.2.map (·.1)=B∧BE (n+1) p.2)∨(p.1=2∧p.2.map (·.1)=C∧BE (n+2) p.2)
def bx (p:Pt):AObj:= .box [.d (.sc (.int .i64 p.1)), .d (.sc (.int .i64 p.2))]
attribute [go_sem] bx
def TG (a b c d:Pt) (i:Nat × List (List Int × Int)):ASt:=
 ⟨[(9, .mref 21),(4, .ptr 4 0),(5, .ptr 5 0),(6, .ptr 6 0),(7, .ptr 7 0),(24, .agg [eN a.1,eN a.2,eN b.1,eN b.2]),(25,eN i.1)],
   [(4,bx a),(5,bx b),(6,bx c),(7,bx d),(21, .mp 2 i.2)]⟩
def TH (a b c d:Pt) (i:Nat × List (List Int × Int)):ASt:=
 ⟨[(9, .mref 21),(4, .ptr 4 0),(5, .ptr 5 0),(6, .ptr 6 0),(7, .ptr 7 0),(41, .agg [eN c.1,eN c.2,eN d.1,eN d.2]),(42,eN i.1)],
   [(4,bx a),(5,bx b),(6,bx c),(7,bx d),(21, .mp 2 i.2)]⟩
end Go.Ab
end
section
namespace Go.Ab
open Go.Proofs
attribute [local congr] ACall.congr gd.congr Nx.congr
set_option maxRecDepth 10000
def key (p:Pt):List Int:= [p.1,p.2]
def TJ (a b c d p:Pt):Prop:=(IF c d a=true∧p=a)∨(IF c d b=true∧p=b)∨(IF a b c=true∧p=c)∨(IF a b d=true∧p=d)
def Qw (a b c d:Pt):Int:=if 0<(K4 a b c d).length then min ((K4 a b c d).length:Int) 2 else if sd a b c*sd a b d<0∧sd c d a*sd c d b<0 then 1 else 0
section
variable {a b:Pt}
end
end Go.Ab
end
section
namespace Go.Ab
open Go.Proofs
attribute [local congr] ACall.congr gd.congr Nx.congr
set_option maxRecDepth 10000
abbrev Pc:=Pt × Pt
def rQ (q:Pc):List D:= [.sc (.int .i64 q.1.1), .sc (.int .i64 q.1.2), .sc (.int .i64 q.2.1), .sc (.int .i64 q.2.2)]
def eQ (q:Pc):AV:= .agg [.d (.sc (.int .i64 q.1.1)), .d (.sc (.int .i64 q.1.2)), .d (.sc (.int .i64 q.2.1)), .d (.sc (.int .i64 q.2.2))]
def sQ (qs:List Pc):D:= .sl 4 (qs.map rQ)
def sP (ps:List Pt):D:= .sl 2 (ps.map rP)
def vP (ls:List (List Pt)):List (List D):=ls.map fun l=> [sP l]
def sLn (ls:List (List Pt)):D:= .sl 1 (vP ls)
def eLn (l:List Pt):AV:= .d (sP l)
theorem getD_rQ (ps:List Pc) (i:Nat):(ps.map rQ).getD i [.sc (.int .i64 0), .sc (.int .i64 0), .sc (.int .i64 0), .sc (.int .i64 0)]=rQ (ps.getD i ((0,0),(0,0))):=by
 simp only [List.getD_eq_getElem?_getD,List.getElem?_map]
 cases ps[i]? <;>rfl
theorem rQ_eq (q:Pc):rQ q= [.sc (.int .i64 q.1.1), .sc (.int .i64 q.1.2), .sc (.int .i64 q.2.1), .sc (.int .i64 q.2.2)]:=rfl
theorem vP_length (ls:List (List Pt)):(vP ls).length=ls.length:=by simp [vP]
theorem vP_getD (ls:List (List Pt)) (i:Nat):(vP ls).getD i [.sl 2 []]= [sP (ls.getD i [])]:=by
 simp only [vP,List.getD_eq_getElem?_getD,List.getElem?_map]
 cases ls[i]? <;>rfl
attribute [go_sem] getD_rQ rQ_eq eQ sQ sP sLn eLn vP_length vP_getD
end Go.Ab
end
section
namespace Go.Ab
open Go.Proofs
attribute [local congr] ACall.congr gd.congr Nx.congr
set_option maxRecDepth 10000
structure Dr where
 pts:List Pt
 ls:List (List Pt)
def eDr (d:Dr):AV:= .agg [.d (sP d.pts), .d (sLn d.ls)]
def lkO (g:Gr) (d:Dr):AObj:= .rob [eN g.n, .d (sE g.es), .d (sP d.pts), .d (sLn d.ls)]
attribute [go_sem] eDr lkO
def SJ (l:List Pt) (k:Nat):List Pc:=(List.range k).map fun i=>(l.getD i (0,0),l.getD (i+1) (0,0))
def Qx (l:List Pt):List Pc:=SJ l (l.length - 1)
def robPt (p:Pt):List (Nat × AObj):= [(10000, .rob [eN p.1,eN p.2])]
attribute [go_sem] robPt
def SK (l:List Pt) (p:Pt):Bool:=(Qx l).any fun q=>SH q.1 q.2 p
def Qy (l:List Pt):Bool:= !(Qx l).any fun q=>decide (q.2.2≤q.1.2)
structure MH (g:Gr) (d:Dr):Prop where
 may:aM g=true
 np:(d.pts.length:Int)=g.n
 nl:d.ls.length=g.es.length
 qt:∀l∈d.ls,2≤l.length∧l.length≤8
theorem MH.line {g:Gr} {d:Dr} (h:MH g d) {i:Nat} (hi:i<g.es.length):2≤(d.ls.getD i []).length∧(d.ls.getD i []).length≤8:=h.qt _ (aG (by rw [h.nl];exact hi))
def SL (g:Gr) (d:Dr) (i:Nat):Bool:=decide ((d.ls.getD i []).getD 0 (0,0)=d.pts.getD (g.es.getD i (0,0)).1.toNat (0,0))&&decide ((d.ls.getD i []).getD ((d.ls.getD i []).length - 1) (0,0)=d.pts.getD (g.es.getD i (0,0)).2.toNat (0,0))
def SM (l:List Pt) (x:Pt):Int:=bU (fun y=>decide (x=y)) l
def Pv (d:Dr) (x:Nat):Bool:= !decide (d.pts.getD x (0,0)∈d.pts.take x)
def MI (g:Gr) (d:Dr) (i k:Nat):Bool:=(List.range k).all fun x=>decide ((x:Int)=(g.es.getD i (0,0)).1)||decide ((x:Int)=(g.es.getD i (0,0)).2)|| !SK (d.ls.getD i []) (d.pts.getD x (0,0))
def Qz (g:Gr) (d:Dr) (i:Nat):Bool:=MI g d i d.pts.length
end Go.Ab
end
section
namespace Go.Ab
open Go.Proofs
attribute [local congr] ACall.congr gd.congr Nx.congr
set_option maxRecDepth 20000
set_option maxHeartbeats 8000000
theorem rO (g:Gr) (hl:g.es.length≤1000) (p:Pl) (hp:gv p) (b:Bool) (hr:b=true↔(bE g).1=0∧aT g p):
 Spec Tryz.prog 39 (Args [eG g,ePl p]) [] (.tup [eG (iJ b g p).1,ePl (iJ b g p).2.1,eN (iJ b g p).2.2]) []:=by
 by_cases h0:(bk b g p).2.1=0∧ni g=true
 rotate_left
 ·have hK:iJ b g p=(gz,pz,1):=if_neg h0
  rw [hK]
  exact yH g hl p hp b hr h0
 by_cases h1:64<g.n+(fz g).length∨128<g.es.length+(fz g).length
 ·have hK:iJ b g p=(gz,pz,10):=by unfold iJ;rw [if_pos h0,if_pos h1]
  rw [hK]
  exact vJ g hl p hp b hr h0.1 h0.2 h1
 have hK:iJ b g p=(aO g (fz g),oo g p (fz g),0):=by unfold iJ;rw [if_pos h0,if_neg h1]
 rw [hK]
 obtain ⟨hrun,_⟩:=eC hr h0.1
 exact yI g hl p hp hrun h0.2 (fz g) rfl (by omega) (by omega)
def Ek (xs ys:List Int) (v:Nat):Pt:=(xs.getD v 0,ys.getD v 0)
def GV (N:Int) (bs xs ys:List Int) (i:Nat):List Pt:=if (i:Int)∈bs then [Ek xs ys (N+(bs.idxOf (i:Int):Nat)).toNat] else []
def KO (g:Gr) (N:Int) (bs xs ys:List Int) (i:Nat):List Pt:=Ek xs ys (tl g i).toNat::(GV N bs xs ys i++ [Ek xs ys (hd g i).toNat])
def rR (xs ys:List Int) (k:Nat):List Pt:=(List.range k).map (Ek xs ys)
def vj (g:Gr) (N:Int) (bs xs ys:List Int) (k:Nat):List (List Pt):=(List.range k).map (KO g N bs xs ys)
def Pw (g:Gr) (N:Int) (bs xs ys:List Int):Dr:=⟨rR xs ys g.n.toNat,vj g N bs xs ys g.es.length⟩
theorem GW {xs ys:List Int} {k:Nat} :rR xs ys (k+1)=rR xs ys k++ [Ek xs ys k]:=by simp [rR,List.range_succ]
theorem CV {xs ys:List Int} {k:Nat} :(rR xs ys k).length=k:=by simp [rR]
theorem GX {g:Gr} {N:Int} {bs xs ys:List Int} {k:Nat} :vj g N bs xs ys (k+1)=vj g N bs xs ys k++ [KO g N bs xs ys k]:=by simp [vj,List.range_succ]
theorem II {g:Gr} {N:Int} {bs xs ys:List Int} {k:Nat} :(vj g N bs xs ys k).length=k:=by simp [vj]
def dz:Dr:=⟨[], []⟩
noncomputable def El (g:Gr) (p:Pl) (rev:Bool):List Int:=gY (aO (aq g p) (fz (aq g p))) (oo (aq g p) (bM g p) (fz (aq g p))) rev ((aq g p).n+(fz (aq g p)).length).toNat
noncomputable def IJ (b:Bool) (g:Gr) (p:Pl):Dr × Int:=
 if (nh b g p).2.2≠0 then (dz,(nh b g p).2.2) else if 64<(aq g p).n+(fz (aq g p)).length∨128<(aq g p).es.length+(fz (aq g p)).length then (dz,10) else (Pw g (aq g p).n (fz (aq g p)) (El g p false) (El g p true),0)
theorem Ay {g:Gr} {p:Pl} (h:bn g p):p.ord.length≤64∧p.outs.length≤64∧∀l∈p.outs,l.length≤128:=by
 have hn:=aE (an h.1)
 have h1:=aQ h.2.1
 have h2:=h.2.1.1
 refine ⟨by omega,by omega,fun l hl=> ?_⟩
 obtain ⟨k,hk,rfl⟩:=List.mem_iff_getElem.1 hl
 have h3:=(h.2.1.2.2 k (by omega)).length_eq
 rw [List.getD_eq_getElem?_getD,List.getElem?_eq_getElem hk,Option.getD_some] at h3
 have h4:(aY g (k:Int)).length≤g.es.length:=fL
 omega
theorem yJ {g:Gr} {p:Pl} (h:bn g p):gv p:=by
 obtain ⟨h1,h2,h3⟩:=Ay h
 exact ⟨by omega,by omega,fun l hl=>by have:=h3 l hl;omega⟩
theorem pU {g:Gr} {p:Pl} (h:bn g p):(true=true)↔(bE g).1=0∧aT g p:=⟨fun _=>⟨h.1,h.2.1⟩,fun _=>rfl⟩
structure Room (g:Gr) (p:Pl):Prop where
 ok:nE g p
 h1:(aq g p).n+(fz (aq g p)).length≤64
 h2:(aq g p).es.length+(fz (aq g p)).length≤128
theorem GY {g:Gr} {p:Pl} (h:Room g p):bn (aO (aq g p) (fz (aq g p))) (oo (aq g p) (bM g p) (fz (aq g p))):=CL (mA h.ok) lF (yy (mA h.ok) lF) h.h1 h.h2
theorem IK {g:Gr} {p:Pl} (h:Room g p):ni (aO (aq g p) (fz (aq g p)))=true:=Kn (mA h.ok) lF (yy (mA h.ok) lF) h.h1 h.h2 (Gx h.ok)
theorem CW {g:Gr} {p:Pl} {rev:Bool} :(El g p rev).length=((aq g p).n+(fz (aq g p)).length).toNat:=by unfold El;exact qy
theorem Az {g:Gr} {bs:List Int} (hb:bs.Nodup) {i:Int} :cw (lR g bs bs.length) [i]=if i∈bs then some (bs.idxOf i) else none:=by
 by_cases h:i∈bs
 ·rw [if_pos h]
  obtain ⟨h1,h2⟩:=uV h
  unfold cw
  rw [List.findIdx?_eq_some_iff_getElem]
  refine ⟨by simp [lR,h1], ?_,fun j hj=> ?_⟩
  ·simp only [lR,List.getElem_map,List.getElem_range,decide_eq_true_eq,h2]
  ·simp only [lR,List.getElem_map,List.getElem_range,decide_eq_true_eq]
   intro e
   have e:i=bs.getD j 0:=by simpa using e
   have:=gh hb (i:=j) (by omega)
   rw [← e] at this
   omega
 ·rw [if_neg h]
  unfold cw
  rw [List.findIdx?_eq_none_iff]
  intro q hq
  obtain ⟨j,hj,rfl⟩:=mD.1 hq
  rw [decide_eq_false_iff_not]
  intro e
  have e:i=bs.getD j 0:=by simpa using e
  rw [e] at h
  exact h (aG hj)
theorem IL {g:Gr} {bs:List Int} (hb:bs.Nodup) {i:Int} (h:i∈bs):lM (lR g bs bs.length) [i]=g.n+(bs.idxOf i:Nat):=by
 unfold lM
 rw [Az hb,if_pos h]
 have:=(uV h).1
 simp [lR,List.getElem?_range this]
end Go.Ab
end
section
namespace Go.Ab
open Go.Proofs
attribute [local congr] ACall.congr gd.congr Nx.congr
set_option maxRecDepth 20000
set_option maxHeartbeats 8000000
theorem IM (xs ys:List Int) (v:Nat) (h1:v<xs.length) (h2:v<ys.length) (hx:xs.length≤1000) (hy:ys.length≤1000):Spec Tryz.prog 77 (Args [eN v, .ptr 10001 0, .ptr 10002 0]) [(10001, .rob [.d (sI xs)]),(10002, .rob [.d (sI ys)])] (.agg [eN (xs.getD v 0),eN (ys.getD v 0)]) [(10001, .rob [.d (sI xs)]),(10002, .rob [.d (sI ys)])]:=by
 (refine Spec.hd (C:=T.cfg [] []) (rs:= [.c 4 71]) (T.ah _ _) Tryz.func77 rfl rfl Tryz.ntmps77 Tryz.results77 (by simp [AObj.isNest]) (by simp [AObj.isNest]) (by kernel_rfl) T.mixed fun X hX hP hC aC bL=> ?_)
 repeat' (first|refine Rn.p ?_|(with_reducible apply And.intro)|((first|(refine hK _ ?_;clear hK K)|with_reducible intro K hK|refine Rs.p ?_|((with_reducible first|apply oP|apply oQ);exact rfl));try simp only [go_sem,simprocAttr])|((with_reducible refine oD ?_ ?_);kernel_rfl)|((with_reducible intro h);try simp only [go_sem,simprocAttr] at h)|omega|intro h)
end Go.Ab
end
section
namespace Go.Ab
open Go.Proofs
attribute [local congr] ACall.congr gd.congr Nx.congr
set_option maxRecDepth 20000
set_option maxHeartbeats 16000000
theorem Em (g:Gr) (hl:g.es.length≤1000) (p:Pl) (hp:gv p) (hp1:p.ord.length≤1000) (hp2:p.outs.length≤1000) (O0:∀l∈p.outs,l.length≤1000) (b:Bool) (hr:b=true↔(bE g).1=0∧aT g p):
 Spec Tryz.prog 33 (Args [eG g,ePl p]) [] (.tup [eDr (IJ b g p).1,eN (IJ b g p).2]) []:=by
 have Nm:=yj g hl p hp hp1 hp2 O0 b hr
 by_cases h0:(nh b g p).2.2=0
 rotate_left
 ·have MJ:IJ b g p=(dz,(nh b g p).2.2):=if_pos h0
  have hb0:decide ((nh b g p).2.2=0)=false:=decide_eq_false h0
  rw [MJ]
  (refine Spec.hd (C:=T.cfg [] []) (rs:= [.c 4 28, .t 5]) (T.ah _ _) Tryz.func33 rfl rfl Tryz.ntmps33 Tryz.results33 (by simp [AObj.isNest]) (by simp [AObj.isNest]) (by kernel_rfl) T.mixed fun X hX hP hC aC bL=> ?_)
  repeat' (first|refine Rn.p ?_|(with_reducible apply And.intro)|((first|(refine hK _ ?_;clear hK K)|with_reducible intro K hK|refine Rs.p ?_|((with_reducible first|apply oP|apply oQ);exact rfl)|refine aa hX hC hP (Nm) rfl rfl rfl (by simp only [go_sem,simprocAttr,hb0,dz]) rfl ?_);try simp only [go_sem,simprocAttr,hb0,dz])|((with_reducible refine oD ?_ ?_);kernel_rfl)|((with_reducible intro h);try simp only [go_sem,simprocAttr,hb0,dz] at h)|omega|intro h)
  all_goals rfl
 obtain ⟨hO,hE⟩:=ID hr h0
 rw [hE] at Nm
 have KP:=mA hO
 have QA:=Gx hO
 have SN:(bk true (aq g p) (bM g p)).2.1=0:=by rw [lE (pU KP) KP]
 by_cases h1:64<(aq g p).n+(fz (aq g p)).length∨128<(aq g p).es.length+(fz (aq g p)).length
 ·have MJ:IJ b g p=(dz,10):=by unfold IJ;rw [if_neg (by rw [h0];simp),if_pos h1]
  have hN:=vg (aq g p) (by have:=hO.es;omega) (bM g p) (yJ KP) true (pU KP) SN QA h1
  rw [MJ]
  (refine Spec.hd (C:=T.cfg [] []) (rs:= [.c 4 28, .t 5]) (T.ah _ _) Tryz.func33 rfl rfl Tryz.ntmps33 Tryz.results33 (by simp [AObj.isNest]) (by simp [AObj.isNest]) (by kernel_rfl) T.mixed fun X hX hP hC aC bL=> ?_)
  repeat' (first|refine Rn.p ?_|(with_reducible apply And.intro)|((first|(refine hK _ ?_;clear hK K)|with_reducible intro K hK|refine Rs.p ?_|((with_reducible first|apply oP|apply oQ);exact rfl)|refine aa hX hC hP (Nm) rfl rfl rfl (by simp only [go_sem,simprocAttr,dz]) rfl ?_|refine aa hX hC hP (hN) rfl rfl rfl (by simp only [go_sem,simprocAttr,dz]) rfl ?_);try simp only [go_sem,simprocAttr,dz])|((with_reducible refine oD ?_ ?_);kernel_rfl)|((with_reducible intro h);try simp only [go_sem,simprocAttr,dz] at h)|omega|intro h)
  all_goals rfl
 have MJ:IJ b g p=(Pw g (aq g p).n (fz (aq g p)) (El g p false) (El g p true),0):=by unfold IJ;rw [if_neg (by rw [h0];simp),if_neg h1]
 have QB:Room g p:=⟨hO,by omega,by omega⟩
 rw [MJ]
 have hN:=xh (aq g p) (by have:=hO.es;omega) (bM g p) (yJ KP) KP QA (fz (aq g p)) rfl (by omega) (by omega)
 have KQ:=GY QB
 have hk:=BO (aO (aq g p) (fz (aq g p))) (by rw [gi];omega) (oo (aq g p) (bM g p) (fz (aq g p))) (yJ KQ) true (pU KQ)
 have vr:Kr true (aO (aq g p) (fz (aq g p))) (oo (aq g p) (bM g p) (fz (aq g p)))=(El g p false,El g p true,0):=if_pos ⟨by rw [lE (pU KQ) KQ],IK QB⟩
 rw [vr] at hk
 simp only at hk
 have hm:=an hO.run.1
 have hn:=aE hm
 have G9:=kI (g:=g) (p:=p)
 have lx:(El g p false).length=((aq g p).n+(fz (aq g p)).length).toNat:=CW
 have ly:(El g p true).length=((aq g p).n+(fz (aq g p)).length).toNat:=CW
 have c9:=lF (g:=aq g p)
 have hfind:=fun i=>Az (g:=aq g p) c9.nd (i:=i)
 have hval:=fun i hi=>IL (g:=aq g p) c9.nd (i:=i) hi
 have OX:∀i∈fz (aq g p),(fz (aq g p)).idxOf i<(fz (aq g p)).length:=fun i hi=>(uV hi).1
 generalize El g p false=xs at*
 generalize El g p true=ys at*
 generalize fz (aq g p)=bs at*
 have eM:aO (aq g p) bs=⟨(aq g p).n+bs.length,fR (aq g p) bs⟩:=rfl
 have MY:oo (aq g p) (bM g p) bs=⟨dm (aq g p) bs bs.length (bM g p).ord,(bM g p).outs++eo (aq g p) bs.length⟩:=rfl
 rw [eM,MY] at hk
 have TL:(aq g p).n≤64:=hO.n
 generalize lR (aq g p) bs bs.length=ak at*
 generalize fR (aq g p) bs=E at*
 generalize dm (aq g p) bs bs.length (bM g p).ord=RO at*
 generalize (bM g p).outs++eo (aq g p) bs.length=RL at*
 generalize bM g p=AP at*
 obtain ⟨AN,AA⟩:∃AN:Nat,(aq g p).n=AN:=⟨(aq g p).n.toNat,by omega⟩
 generalize TM:aq g p=A at*
 have pZ:∀v:Nat,v<AN+bs.length→Spec Tryz.prog 77 (Args [eN v, .ptr 10001 0, .ptr 10002 0]) [(10001, .rob [.d (sI xs)]),(10002, .rob [.d (sI ys)])] (.agg [eN (xs.getD v 0),eN (ys.getD v 0)]) [(10001, .rob [.d (sI xs)]),(10002, .rob [.d (sI ys)])]:=fun v hv=>IM xs ys v (by omega) (by omega) (by omega) (by omega)
 (refine Spec.hd (C:=T.cfg [] []) (rs:= [.c 4 28, .t 5]) (T.ah _ _) Tryz.func33 rfl rfl Tryz.ntmps33 Tryz.results33 (by simp [AObj.isNest]) (by simp [AObj.isNest]) (by kernel_rfl) T.mixed fun X hX hP hC aC bL=> ?_)
 repeat' (first|(show bS _ (.seq (.region 7 _ _) _) _ _;(refine cA hX 301 rfl (.inl rfl) ?_;simp only [go_sem,simprocAttr,iI,AA]);(refine cA hX 302 rfl (.inl rfl) ?_;simp only [go_sem,simprocAttr,iI,AA]);(refine cA hX 303 rfl (.inl rfl) ?_;simp only [go_sem,simprocAttr,iI,AA]))|(show bS _ (.seq (.region 10 _ _) _) _ _;(refine gS hX 14 0 401 (.tip 71 2 []) rfl rfl rfl (by simp only [go_sem,simprocAttr,iI,AA]) (by decide) (by simp [go_sem,simprocAttr,iI,AA]) ⟨71,2,by decide, .inr rfl⟩ ?_;simp only [List.set_cons_zero,List.set_cons_succ,go_sem,simprocAttr,iI,AA]);(refine gS hX 14 1 402 (.tip 25 1 []) rfl rfl rfl (by simp only [go_sem,simprocAttr,iI,AA]) (by decide) (by simp [go_sem,simprocAttr,iI,AA]) ⟨25,1,by decide, .inr rfl⟩ ?_;simp only [List.set_cons_zero,List.set_cons_succ,go_sem,simprocAttr,iI,AA]))|refine Rn.p ?_|(with_reducible apply And.intro)|((first|(refine hK _ ?_;clear hK K)|with_reducible intro K hK|refine Rs.p ?_|((with_reducible first|apply oP|apply oQ);exact rfl)|refine aa hX hC hP (Nm) rfl rfl rfl (by simp only [go_sem,simprocAttr,iI,AA]) rfl ?_|(refine aj hX hC hP [(10000,300),(10001,301),(10002,302),(10003,303),(10004,304)] (hN) rfl rfl rfl ?_ ?_ ?_ ?_ ?_ ?_ ?_ ?_ ?_ ?_ ?_ ?_ ?_ ?_;(focus (simp only [go_sem,simprocAttr,iI,AA];done));(iterate 12 (focus (simp [go_sem,simprocAttr,iI,AA];done)));try simp only [List.map_cons,List.map_nil])|(refine cM hX hC hP (hk) rfl rfl rfl ?_ ?_ rfl ?_;iterate 2 (focus (simp only [go_sem,simprocAttr,iI,AA];done))));try simp only [go_sem,simprocAttr,iI,AA])|((with_reducible refine oD ?_ ?_);kernel_rfl)|((with_reducible intro h);try simp only [go_sem,simprocAttr,iI,AA] at h)|omega|intro h)
 refine ag (fun k:Nat=>k≤g.n.toNat) (fun k=>⟨[(2, .ptr 2 0),(4, .ptr 4 0),(5,eN 0),(9, .ptr 300 0),(13, .fn 77 [] [.ptr 10 0, .ptr 11 0]),(14, .ptr 14 0),(58,eN g.n),(59,eN k)], [(2, .box [eN g.n, .d (sE g.es)]),(4, .box [.nil 71, .nil 25]),(10, .box [.d (sI xs)]),(11, .box [.d (sI ys)]),(14, .box [.ref 401, .ref 402]),(300, .box [eN ((AN:Int)+(bs.length:Int)), .d (sE E), .d (sI RO), .d (.sl 1 (vI RL)), .mref 304]),(304, .mp 0 ak),(401, .tip 71 2 ((rR xs ys k).map rP)),(402, .tip 25 1 [])]⟩) (fun k=>g.n.toNat - k) 0 (by omega) ?_ ?_
 ·refine Le.of ?_ ?_<;>simp [go_sem,simprocAttr,rR,AA]
 rintro k hk
 rcases Nat.lt_or_ge k g.n.toNat with hlt|hge
 ·have hb:decide ((k:Int)<g.n)=true:=decide_eq_true (by omega)
  have hc:=pZ k (by omega)
  have bN:=GW (xs:=xs) (ys:=ys) (k:=k)
  have dG:=CV (xs:=xs) (ys:=ys) (k:=k)
  generalize SO:rR xs ys (k+1)=P2 at bN
  generalize rR xs ys k=P1 at bN dG
  repeat' (first|(show bS _ (.region 14 _ _) _ _;(refine cB hX 14 0 68 401 rfl rfl rfl (by first|exact .inl rfl|exact .inr rfl) (by decide) (by decide) ?_;simp only [List.set_cons_zero,List.set_cons_succ,go_sem,simprocAttr,hb,dG]))|refine Rn.p ?_|(with_reducible apply And.intro)|((first|(refine hK _ ?_;clear hK K)|with_reducible intro K hK|refine Rs.p ?_|((with_reducible first|apply oP|apply oQ);exact rfl)|(refine aI hX hC hP [(10001,10),(10002,11)] (hc) rfl rfl rfl ?_ ?_ ?_ ?_ ?_ ?_ rfl rfl ?_ ?_;(focus (simp only [go_sem,simprocAttr,hb,dG];done));(iterate 6 (focus (simp [go_sem,simprocAttr,hb,dG];done)));try simp only [List.map_cons,List.map_nil]));try simp only [go_sem,simprocAttr,hb,dG])|((with_reducible refine oD ?_ ?_);kernel_rfl)|((with_reducible intro h);try simp only [go_sem,simprocAttr,hb,dG] at h)|omega|intro h)
  refine ⟨k+1,by omega, ?_,by omega⟩
  rw [SO,bN]
  refine Le.of ?_ ?_<;>simp [go_sem,simprocAttr,hb,dG,Ek,rP]
 have hb:decide ((k:Int)<g.n)=false:=decide_eq_false (by omega)
 obtain rfl:k=g.n.toNat:=by omega
 repeat' (first|refine Rn.p ?_|(with_reducible apply And.intro)|((first|(refine hK _ ?_;clear hK K)|with_reducible intro K hK|refine Rs.p ?_|((with_reducible first|apply oP|apply oQ);exact rfl));try simp only [go_sem,simprocAttr,hb])|((with_reducible refine oD ?_ ?_);kernel_rfl)|((with_reducible intro h);try simp only [go_sem,simprocAttr,hb] at h)|omega|intro h)
 have SP:Pw g (AN:Int) bs xs ys=⟨rR xs ys g.n.toNat,vj g (AN:Int) bs xs ys g.es.length⟩:=rfl
 have dG:=CV (xs:=xs) (ys:=ys) (k:=g.n.toNat)
 rw [SP]
 generalize rR xs ys g.n.toNat=PT at dG
 refine ag (fun i:Nat=>i≤g.es.length) (fun i=>⟨[(2, .ptr 2 0),(4, .ptr 4 0),(5,eN 0),(9, .ptr 300 0),(13, .fn 77 [] [.ptr 10 0, .ptr 11 0]),(14, .ptr 14 0),(72, .d (sE g.es)),(73,eN g.es.length),(74,eN i)], [(2, .box [eN g.n, .d (sE g.es)]),(4, .box [.nil 71, .nil 25]),(10, .box [.d (sI xs)]),(11, .box [.d (sI ys)]),(14, .box [.ref 401, .ref 402]),(300, .box [eN ((AN:Int)+(bs.length:Int)), .d (sE E), .d (sI RO), .d (.sl 1 (vI RL)), .mref 304]),(304, .mp 0 ak),(401, .tip 71 2 (PT.map rP)),(402, .tip 25 1 (vP (vj g (AN:Int) bs xs ys i)))]⟩) (fun i=>g.es.length - i) 0 (by omega) ?_ ?_
 ·refine Le.of ?_ ?_<;>simp [go_sem,simprocAttr,vj,vP]
 rintro i hi
 rcases Nat.lt_or_ge i g.es.length with hil|Mh
 ·have hb:decide ((i:Int)<(g.es.length:Int))=true:=decide_eq_true (by omega)
  have t1:=bu hm hil
  have t2:=bQ hm hil
  obtain ⟨u,hu⟩:∃u:Nat,(g.es.getD i (0,0)).1=u:=⟨(g.es.getD i (0,0)).1.toNat,by have:=t1.1;unfold tl at this;omega⟩
  obtain ⟨w,hw⟩:∃w:Nat,(g.es.getD i (0,0)).2=w:=⟨(g.es.getD i (0,0)).2.toNat,by have:=t2.1;unfold hd at this;omega⟩
  have QC:tl g i=u:=hu
  have QD:hd g i=w:=hw
  have hc1:=pZ u (by omega)
  have Cm:=pZ w (by omega)
  have bN:=GX (g:=g) (N:=(AN:Int)) (bs:=bs) (xs:=xs) (ys:=ys) (k:=i)
  have iB:=II (g:=g) (N:=(AN:Int)) (bs:=bs) (xs:=xs) (ys:=ys) (k:=i)
  have QE:∀l1 l2,vP (l1++ [l2])=vP l1++ [[sP l2]]:=fun l1 l2=>by simp [vP]
  have vK:=hfind (i:Int)
  generalize QF:vj g (AN:Int) bs xs ys (i+1)=L2 at bN
  generalize vj g (AN:Int) bs xs ys i=L1 at bN iB
  by_cases hin:(i:Int)∈bs
  ·rw [if_pos hin] at vK
   have En:=hval (i:Int) hin
   have hq:=OX (i:Int) hin
   have sq:KO g (AN:Int) bs xs ys i= [Ek xs ys u,Ek xs ys (AN+bs.idxOf (i:Int)),Ek xs ys w]:=by
    unfold KO GV
    rw [if_pos hin,QC,QD,Int.toNat_natCast,Int.toNat_natCast,show ((AN:Int)+(bs.idxOf (i:Int):Nat)).toNat=AN+bs.idxOf (i:Int) by omega]
    rfl
   generalize bs.idxOf (i:Int)=q at vK En hq sq
   rw [AA,show (AN:Int)+(q:Int)=((AN+q:Nat):Int) by omega] at En
   have HW:=pZ (AN+q) (by omega)
   generalize AN+q=qq at En sq HW
   repeat' (first|(show bS _ (.region 23 _ _) _ _;(refine cB hX 14 1 110 402 rfl rfl rfl (by first|exact .inl rfl|exact .inr rfl) (by decide) (by decide) ?_;simp only [List.set_cons_zero,List.set_cons_succ,go_sem,simprocAttr,hb,hu,hw,vK,En,vP_length,iB,Option.isSome_some]))|refine Rn.p ?_|(with_reducible apply And.intro)|((first|(refine hK _ ?_;clear hK K)|with_reducible intro K hK|refine Rs.p ?_|((with_reducible first|apply oP|apply oQ);exact rfl)|(refine aI hX hC hP [(10001,10),(10002,11)] (hc1) rfl rfl rfl ?_ ?_ ?_ ?_ ?_ ?_ rfl rfl ?_ ?_;(focus (simp only [go_sem,simprocAttr,hb,hu,hw,vK,En,vP_length,iB,Option.isSome_some];done));(iterate 6 (focus (simp [go_sem,simprocAttr,hb,hu,hw,vK,En,vP_length,iB,Option.isSome_some];done)));try simp only [List.map_cons,List.map_nil])|(refine aI hX hC hP [(10001,10),(10002,11)] (Cm) rfl rfl rfl ?_ ?_ ?_ ?_ ?_ ?_ rfl rfl ?_ ?_;(focus (simp only [go_sem,simprocAttr,hb,hu,hw,vK,En,vP_length,iB,Option.isSome_some];done));(iterate 6 (focus (simp [go_sem,simprocAttr,hb,hu,hw,vK,En,vP_length,iB,Option.isSome_some];done)));try simp only [List.map_cons,List.map_nil])|(refine aI hX hC hP [(10001,10),(10002,11)] (HW) rfl rfl rfl ?_ ?_ ?_ ?_ ?_ ?_ rfl rfl ?_ ?_;(focus (simp only [go_sem,simprocAttr,hb,hu,hw,vK,En,vP_length,iB,Option.isSome_some];done));(iterate 6 (focus (simp [go_sem,simprocAttr,hb,hu,hw,vK,En,vP_length,iB,Option.isSome_some];done)));try simp only [List.map_cons,List.map_nil]));try simp only [go_sem,simprocAttr,hb,hu,hw,vK,En,vP_length,iB,Option.isSome_some])|((with_reducible refine oD ?_ ?_);kernel_rfl)|((with_reducible intro h);try simp only [go_sem,simprocAttr,hb,hu,hw,vK,En,vP_length,iB,Option.isSome_some] at h)|omega|intro h)
   refine ⟨i+1,by omega, ?_,by omega⟩
   rw [QF,bN,sq,QE]
   refine Le.of ?_ ?_<;>simp [go_sem,simprocAttr,hb,hu,hw,vK,En,vP_length,iB,Option.isSome_some,Ek,rP,sP]
  ·rw [if_neg hin] at vK
   have sq:KO g (AN:Int) bs xs ys i= [Ek xs ys u,Ek xs ys w]:=by
    unfold KO GV
    rw [if_neg hin,QC,QD,Int.toNat_natCast,Int.toNat_natCast]
    rfl
   repeat' (first|(show bS _ (.region 23 _ _) _ _;(refine cB hX 14 1 110 402 rfl rfl rfl (by first|exact .inl rfl|exact .inr rfl) (by decide) (by decide) ?_;simp only [List.set_cons_zero,List.set_cons_succ,go_sem,simprocAttr,hb,hu,hw,vK,vP_length,iB,Option.isSome_none]))|refine Rn.p ?_|(with_reducible apply And.intro)|((first|(refine hK _ ?_;clear hK K)|with_reducible intro K hK|refine Rs.p ?_|((with_reducible first|apply oP|apply oQ);exact rfl)|(refine aI hX hC hP [(10001,10),(10002,11)] (hc1) rfl rfl rfl ?_ ?_ ?_ ?_ ?_ ?_ rfl rfl ?_ ?_;(focus (simp only [go_sem,simprocAttr,hb,hu,hw,vK,vP_length,iB,Option.isSome_none];done));(iterate 6 (focus (simp [go_sem,simprocAttr,hb,hu,hw,vK,vP_length,iB,Option.isSome_none];done)));try simp only [List.map_cons,List.map_nil])|(refine aI hX hC hP [(10001,10),(10002,11)] (Cm) rfl rfl rfl ?_ ?_ ?_ ?_ ?_ ?_ rfl rfl ?_ ?_;(focus (simp only [go_sem,simprocAttr,hb,hu,hw,vK,vP_length,iB,Option.isSome_none];done));(iterate 6 (focus (simp [go_sem,simprocAttr,hb,hu,hw,vK,vP_length,iB,Option.isSome_none];done)));try simp only [List.map_cons,List.map_nil]));try simp only [go_sem,simprocAttr,hb,hu,hw,vK,vP_length,iB,Option.isSome_none])|((with_reducible refine oD ?_ ?_);kernel_rfl)|((with_reducible intro h);try simp only [go_sem,simprocAttr,hb,hu,hw,vK,vP_length,iB,Option.isSome_none] at h)|omega|intro h)
   refine ⟨i+1,by omega, ?_,by omega⟩
   rw [QF,bN,sq,QE]
   refine Le.of ?_ ?_<;>simp [go_sem,simprocAttr,hb,hu,hw,vK,vP_length,iB,Option.isSome_none,Ek,rP,sP]
 have hb:decide ((i:Int)<(g.es.length:Int))=false:=decide_eq_false (by omega)
 obtain rfl:i=g.es.length:=by omega
 repeat' (first|refine Rn.p ?_|(with_reducible apply And.intro)|((first|(refine hK _ ?_;clear hK K)|with_reducible intro K hK|refine Rs.p ?_|((with_reducible first|apply oP|apply oQ);exact rfl));try simp only [go_sem,simprocAttr,hb])|((with_reducible refine oD ?_ ?_);kernel_rfl)|((with_reducible intro h);try simp only [go_sem,simprocAttr,hb] at h)|omega|intro h)
end Go.Ab
end
section
namespace Go.Ab
open Go.Proofs
set_option maxRecDepth 10000
set_option linter.unusedSectionVars false
section
variable {g:Gr} {bs:List Int} (hm:aM g=true) (hb:Aq g bs)
include hm hb
end
end Go.Ab
end
section
namespace Go.Ab
open Go.Proofs
attribute [local congr] ACall.congr gd.congr Nx.congr
set_option maxRecDepth 20000
set_option maxHeartbeats 8000000
theorem AB (d:Dr) (h1:d.pts.length≤9223372036854775807) (h2:d.ls.length≤9223372036854775807) (h3:∀l∈d.ls,l.length≤9223372036854775807):Spec Tryz.prog 35 (Args [eDr d,eDr d]) [] (eB true) []:=by
 (refine Spec.hd (C:=T.cfg [] []) (rs:= [.t 4]) (T.ah _ _) Tryz.func35 rfl rfl Tryz.ntmps35 Tryz.results35 (by simp [AObj.isNest]) (by simp [AObj.isNest]) (by kernel_rfl) T.mixed fun X hX hP hC aC bL=> ?_)
 repeat' (first|refine Rn.p ?_|(with_reducible apply And.intro)|((first|(refine hK _ ?_;clear hK K)|with_reducible intro K hK|refine Rs.p ?_|((with_reducible first|apply oP|apply oQ);exact rfl));try simp only [go_sem,simprocAttr,decide_true])|((with_reducible refine oD ?_ ?_);kernel_rfl)|((with_reducible intro h);try simp only [go_sem,simprocAttr,decide_true] at h)|omega|intro h)
 refine ag (fun k:Nat=>k≤d.pts.length) (fun k=>⟨[(2, .ptr 2 0),(3, .ptr 3 0),(4,eB false),(5,eN k)], [(2, .box [.d (sP d.pts), .d (sLn d.ls)]),(3, .box [.d (sP d.pts), .d (sLn d.ls)])]⟩) (fun k=>d.pts.length - k) 0 (by omega) ?_ ?_
 ·refine Le.of ?_ ?_<;>simp [go_sem,simprocAttr,decide_true]
 rintro k hk
 rcases Nat.lt_or_ge k d.pts.length with hlt|hge
 ·have hb:decide ((k:Int)<(d.pts.length:Int))=true:=decide_eq_true (by omega)
  repeat' (first|refine Rn.p ?_|(with_reducible apply And.intro)|((first|(refine hK _ ?_;clear hK K)|with_reducible intro K hK|refine Rs.p ?_|((with_reducible first|apply oP|apply oQ);exact rfl));try simp only [go_sem,simprocAttr,decide_true,hb])|((with_reducible refine oD ?_ ?_);kernel_rfl)|((with_reducible intro h);try simp only [go_sem,simprocAttr,decide_true,hb] at h)|omega|intro h)
  refine ⟨k+1,by omega, ?_,by omega⟩
  refine Le.of ?_ ?_<;>simp [go_sem,simprocAttr,decide_true,hb]
 have hb:decide ((k:Int)<(d.pts.length:Int))=false:=decide_eq_false (by omega)
 repeat' (first|refine Rn.p ?_|(with_reducible apply And.intro)|((first|(refine hK _ ?_;clear hK K)|with_reducible intro K hK|refine Rs.p ?_|((with_reducible first|apply oP|apply oQ);exact rfl));try simp only [go_sem,simprocAttr,decide_true,hb])|((with_reducible refine oD ?_ ?_);kernel_rfl)|((with_reducible intro h);try simp only [go_sem,simprocAttr,decide_true,hb] at h)|omega|intro h)
 refine ag (fun i:Nat=>i≤d.ls.length) (fun i=>⟨[(2, .ptr 2 0),(3, .ptr 3 0),(4,eB false),(6,eN i)], [(2, .box [.d (sP d.pts), .d (sLn d.ls)]),(3, .box [.d (sP d.pts), .d (sLn d.ls)])]⟩) (fun i=>d.ls.length - i) 0 (by omega) ?_ ?_
 ·refine Le.of ?_ ?_<;>simp [go_sem,simprocAttr,decide_true,hb]
 rintro i hi
 rcases Nat.lt_or_ge i d.ls.length with hil|Mh
 ·have hb2:decide ((i:Int)<(d.ls.length:Int))=true:=decide_eq_true (by omega)
  have I8:=vP_getD d.ls i
  have SQ:=h3 _ (aG (d:= []) hil)
  generalize hl:d.ls.getD i []=l at I8 SQ
  repeat' (first|refine Rn.p ?_|(with_reducible apply And.intro)|((first|(refine hK _ ?_;clear hK K)|with_reducible intro K hK|refine Rs.p ?_|((with_reducible first|apply oP|apply oQ);exact rfl));try simp only [go_sem,simprocAttr,decide_true,hb2,hl,vP_length])|((with_reducible refine oD ?_ ?_);kernel_rfl)|((with_reducible intro h);try simp only [go_sem,simprocAttr,decide_true,hb2,hl,vP_length] at h)|omega|intro h)
  refine ag (fun j:Nat=>j≤l.length) (fun j=>⟨[(2, .ptr 2 0),(3, .ptr 3 0),(4,eB false),(6,eN i),(7,eN j)], [(2, .box [.d (sP d.pts), .d (sLn d.ls)]),(3, .box [.d (sP d.pts), .d (sLn d.ls)])]⟩) (fun j=>l.length - j) 0 (by omega) ?_ ?_
  ·refine Le.of ?_ ?_<;>simp [go_sem,simprocAttr,decide_true,hb2,hl,vP_length]
  rintro j hj
  rcases Nat.lt_or_ge j l.length with hjl|OK
  ·have hb3:decide ((j:Int)<(l.length:Int))=true:=decide_eq_true (by omega)
   repeat' (first|refine Rn.p ?_|(with_reducible apply And.intro)|((first|(refine hK _ ?_;clear hK K)|with_reducible intro K hK|refine Rs.p ?_|((with_reducible first|apply oP|apply oQ);exact rfl));try simp only [go_sem,simprocAttr,decide_true,hb2,hl,vP_length,hb3])|((with_reducible refine oD ?_ ?_);kernel_rfl)|((with_reducible intro h);try simp only [go_sem,simprocAttr,decide_true,hb2,hl,vP_length,hb3] at h)|omega|intro h)
   refine ⟨j+1,by omega, ?_,by omega⟩
   refine Le.of ?_ ?_<;>simp [go_sem,simprocAttr,decide_true,hb2,hl,vP_length,hb3]
  have hb3:decide ((j:Int)<(l.length:Int))=false:=decide_eq_false (by omega)
  repeat' (first|refine Rn.p ?_|(with_reducible apply And.intro)|((first|(refine hK _ ?_;clear hK K)|with_reducible intro K hK|refine Rs.p ?_|((with_reducible first|apply oP|apply oQ);exact rfl));try simp only [go_sem,simprocAttr,decide_true,hb2,hl,vP_length,hb3])|((with_reducible refine oD ?_ ?_);kernel_rfl)|((with_reducible intro h);try simp only [go_sem,simprocAttr,decide_true,hb2,hl,vP_length,hb3] at h)|omega|intro h)
  refine ⟨i+1,by omega, ?_,by omega⟩
  refine Le.of ?_ ?_<;>simp [go_sem,simprocAttr,decide_true,hb2,hl,vP_length,hb3]
 have hb2:decide ((i:Int)<(d.ls.length:Int))=false:=decide_eq_false (by omega)
 repeat' (first|refine Rn.p ?_|(with_reducible apply And.intro)|((first|(refine hK _ ?_;clear hK K)|with_reducible intro K hK|refine Rs.p ?_|((with_reducible first|apply oP|apply oQ);exact rfl));try simp only [go_sem,simprocAttr,decide_true,hb2])|((with_reducible refine oD ?_ ?_);kernel_rfl)|((with_reducible intro h);try simp only [go_sem,simprocAttr,decide_true,hb2] at h)|omega|intro h)
def AD:Gr:=⟨3, [(0,1),(1,2),(0,2)]⟩
def Hf:Pl:=⟨[0,1,2], [[0,2], [1], []]⟩
def d21:Dr:=⟨[(0,0),(1,2),(3,3)], [[(0,0),(1,2)], [(1,2),(3,3)], [(0,0),(2,1),(3,3)]]⟩
theorem JN:(true=true)↔(bE AD).1=0∧aT AD Hf:=⟨fun _=>⟨by decide,⟨rfl,by decide,by decide⟩⟩,fun _=>rfl⟩
theorem Px:fz AD= [2]:=by
 have hm:aM AD=true:=by decide
 have h0:Ec AD 0=false:=by rw [← pT hm (by decide)];decide
 have h1:Ec AD 1=false:=by rw [← pT hm (by decide)];decide
 have h2:Ec AD 2=true:=by rw [← pT hm (by decide)];decide
 unfold fz
 rw [if_pos hm]
 show yC AD 3= [2]
 rw [mC,if_pos h2,mC,if_neg (by rw [h1];decide),mC,if_neg (by rw [h0];decide)]
 rfl
theorem Py:IJ true AD Hf=(d21,0):=by
 have a1:nh true AD Hf=(AD,Hf,0):=rfl
 have a2:aq AD Hf=AD:=rfl
 have a3:bM AD Hf=Hf:=rfl
 unfold IJ El
 rw [a1,a2,a3,Px,if_neg (by simp),if_neg (by decide)]
 rfl
end Go.Ab
end
section
namespace Go.Ab
open Go.Proofs
set_option maxRecDepth 10000
set_option linter.unusedSectionVars false
def ky (t:It):Bool × Int × Int:=(decide (0≤t.1),t.2)
structure Alike (G G':Gr) (P P':Pl):Prop where
 n:G'.n=G.n
 need:∀x,aW G' x=aW G x
 out:∀x,(cq P' x).map (eH G')=(cq P x).map (eH G)
 o1:∀x,∀e∈cq P x,0≤e
 o2:∀x,∀e∈cq P' x,0≤e
structure TN (f f':Fr):Prop where
 row:f'.row.map ky=f.row.map ky
 pl:f'.pl=f.pl
section
variable {G G':Gr} {P P':Pl} (hA:Alike G G' P P')
include hA
end
section
variable {G G':Gr} {P P':Pl} (hA:Alike G G' P P') (hm:aM G=true) (hm':aM G'=true)
include hA hm hm'
end
section
variable {G G':Gr} {P P':Pl} (hA:Alike G G' P P') (h:bn G P) (h':bn G' P')
include hA h h'
end
end Go.Ab
end
section
namespace Go.Ab
open Go.Proofs
set_option maxRecDepth 10000
set_option linter.unusedSectionVars false
section
variable {g:Gr} {p:Pl} (h:nE g p)
include h
end
end Go.Ab
end
section
namespace Go.Ab
open Go.Proofs
attribute [local congr] ACall.congr gd.congr Nx.congr
set_option maxRecDepth 10000
set_option maxHeartbeats 8000000
def TO (rev:Bool) (row:List It) (i:Nat):Int:=((jG rev row).getD i (0,0,0)).2.2
def QG (g:Gr) (f:Fr) (rev:Bool):Int:=match (jG rev f.row).find? (fun t=>au g f t.2.2) with
 |some t=>t.2.2
 |none=>match (List.range g.n.toNat).find? (fun x:Nat=>au g f (x:Int)) with
  |some x=>(x:Int)
  |none=> -1
end Go.Ab
end
section
namespace Go.Ab
open Go.Proofs
attribute [local congr] ACall.congr gd.congr Nx.congr
set_option maxRecDepth 20000
set_option maxHeartbeats 16000000
end Go.Ab
end
section
namespace Go.Ab
set_option maxRecDepth 10000
set_option linter.unusedSectionVars false
variable {P:PS}
structure PS.Hi (P:PS) (R:Int→Int) (f0 f1:Int) (hi:Int→Int):Prop where
 mid:∀ {x u a b v},P.ins x=u++a::b::v→hi (R a)=x
 h0:hi f0=P.Me
 h1:hi f1=P.Me
def PS.TP (P:PS) (a:Int):Prop:=∃x u b v,P.outs x=u++a::b::v
section
variable (h:P.Ok) {L R:Int→Int} {f0 f1:Int} {low:Int→Int} (F:P.j0 L R f0 f1 low)
include h F
theorem PS.Hi.Et {hi:Int→Int} (H:P.Hi R f0 f1 hi):P.Et.Hi L f1 f0 hi:=
 {mid:=fun {x u a b v} e=>by
   have e:=iP (show (P.ins x).reverse=_ from e)
   rw [← F.Bh e];exact H.mid e
  h0:=H.h1
  h1:=H.h0}
variable {L' R':Int→Int} {SR SS:Int} {low':Int→Int} (F':P.j0 L' R' SR SS low')
include F'
end
section
variable (h:P.Ok) {L R:Int→Int} {f0 f1:Int} {low:Int→Int} (F:P.j0 L R f0 f1 low)
include h F
variable {hi:Int→Int} (H:P.Hi R f0 f1 hi)
include H
end
def Pz (t h:Int→Int) (l:List Int) (x:Int):Int:=match l.find? (fun i=>decide (t i=x)) with
 |some i=>h i
 |none=>x
def PA (t h:Int→Int) (l:List Int) (x:Int):Nat→Int
 |0=>x
 |k+1=>Pz t h l (PA t h l x k)
section
variable (h:P.Ok) {L R:Int→Int} {f0 f1:Int} {low:Int→Int} (F:P.j0 L R f0 f1 low) {hi:Int→Int} (H:P.Hi R f0 f1 hi)
include h F H
end
end Go.Ab
end
section
namespace Go.Ab
open Go.Proofs
set_option maxRecDepth 10000
set_option linter.unusedSectionVars false
section
variable (g:Gr) (p:Pl)
def cK:Nat→Nat
 |0=>1
 |k+1=>cK k+((cq p (aH p k)).length - 1)
def Nn (e:Int):Nat:=(cq p (eR g e)).findIdx (fun i=>decide (i=e))
def AE (x:Int):Int:=(nj g p x).headD 0
def MK (x:Int):Int:=(nj g p x).getLastD 0
def LK:Nat→Int→Int
 |0,_=>0
 |k+1,e=>if eR g e=aH p k then (if Nn g p e=0 then (if k=0 then 0 else LK k (AE g p (aH p k))) else (cK p k:Int)+Nn g p e - 1) else LK k e
def RK (r:Int):Nat→Int→Int
 |0,_=>0
 |k+1,e=>if eR g e=aH p k then (if Nn g p e+1<(cq p (aH p k)).length then (cK p k:Int)+Nn g p e else (if k=0 then r else RK r k (MK g p (aH p k)))) else RK r k e
def Ku:Nat→List Int
 |0=> [aH p 0]
 |k+1=>Ku k++List.replicate ((cq p (aH p k)).length - 1) (aH p k)
end
section
variable {g:Gr} {p:Pl}
variable (h:bn g p)
include h
def WK (g:Gr) (p:Pl) (k:Nat):List Int:=(fT (fK g p k).row).map (·.1)
end
end Go.Ab
end
section
namespace Go.Ab
open Go.Proofs
attribute [local congr] ACall.congr gd.congr Nx.congr
set_option maxRecDepth 10000
set_option maxHeartbeats 8000000
def CX (A o:List Int) (f:Nat→Int):Nat→List Int
 |0=>A
 |j+1=>(CX A o f j).set (o.getD j 0).toNat (f j)
def QH (A o:List Int) (left:Int) (c:Nat) (j:Nat):List Int:=CX A o (fun j=>if j=0 then left else (c:Int)+j - 1) j
def QI (A o:List Int) (right:Int) (c:Nat) (j:Nat):List Int:=CX A o (fun j=>if j+1<o.length then (c:Int)+j else right) j
def Jg (c k:Nat):List Int:=(List.range k).map fun i:Nat=>((c+i:Nat):Int)
def TQ (left:Int) (c d j:Nat):Int:=if min j (d - 1)=0 then left else (c:Int)+(min j (d - 1):Nat) - 1
def TR (ed gp:D) (A B lo hi:List Int):List (Nat × AObj):= [(10000, .box [.d ed, .d gp, .ref 10001, .ref 10002, .ref 10003, .ref 10004]),(10001, .own 3 1 (A.map rI)),(10002, .own 3 1 (B.map rI)),(10003, .tip 3 1 (lo.map rI)),(10004, .own 3 1 (hi.map rI))]
def TS (ed gp:D) (A B lo hi:List Int):List (Nat × AObj):= [(10000, .box [.d ed, .d gp, .ref 10001, .ref 10002, .ref 10005, .ref 10006]),(10001, .own 3 1 (A.map rI)),(10002, .own 3 1 (B.map rI)),(10005, .tip 3 1 (lo.map rI)),(10006, .own 3 1 (hi.map rI))]
end Go.Ab
end
section
namespace Go.Ab
open Go.Proofs
attribute [local congr] ACall.congr gd.congr Nx.congr
set_option maxRecDepth 10000
set_option maxHeartbeats 8000000
def ML (A fs:List Int) (x:Int) (j:Nat):List Int:=CX A fs (fun _=>x) j
end Go.Ab
end
section
namespace Go.Ab
open Go.Proofs
set_option maxRecDepth 10000
set_option linter.unusedSectionVars false
def arr (f:Int→Int) (m:Nat):List Int:=(List.range m).map fun i:Nat=>f (i:Int)
section
variable {g:Gr} {p:Pl} (h:bn g p)
include h
end
section
variable (g:Gr) (p:Pl)
def BS:Nat→List Int
 |0=>cq p (aH p 0)
 |j+1=>if cq p (aH p (j+1))= [] then BS j else (BS j).take (eV (BS j) (AE g p (aH p (j+1)))).toNat++cq p (aH p (j+1))++(BS j).drop ((eV (BS j) (AE g p (aH p (j+1)))).toNat+(nj g p (aH p (j+1))).length)
def MM:Nat→List Int
 |0=> [0]++Jg 1 ((cq p (aH p 0)).length - 1)++ [-1]
 |j+1=>(MM j).take ((eV (BS g p j) (AE g p (aH p (j+1)))).toNat+1)++Jg (cK p (j+1)) ((cq p (aH p (j+1))).length - 1)++(MM j).drop ((eV (BS g p j) (AE g p (aH p (j+1)))).toNat+(nj g p (aH p (j+1))).length)
def MN (k:Nat):List Int:=((nj g p (aH p k)).dropLast).map (RK g p (-1) k)
def PB:Nat→List Int
 |0=> [aH p (g.n.toNat - 1)]
 |k+1=>ML (PB k) (MN g p k) (aH p k) (MN g p k).length++List.replicate ((cq p (aH p k)).length - 1) 0
end
section
variable {g:Gr} {p:Pl}
variable (h:bn g p)
include h
end
end Go.Ab
end
section
namespace Go.Ab
open Go.Proofs
attribute [local congr] ACall.congr gd.congr Nx.congr
set_option maxRecDepth 60000
set_option maxHeartbeats 8000000
structure Fc where
 L:List Int
 R:List Int
 lo:List Int
 hi:List Int
def PC (g:Gr) (p:Pl) (f:Int):Int:=if f= -1 then (cK p g.n.toNat:Int) else f
def SU (g:Gr) (p:Pl):Fc:=⟨arr (LK g p g.n.toNat) g.es.length,(arr (RK g p (-1) g.n.toNat) g.es.length).map (PC g p),Ku p g.n.toNat++ [aH p 0],PB g p g.n.toNat++ [aH p (g.n.toNat - 1)]⟩
def SV:Fc:=⟨[], [], [], []⟩
def TU (b:Bool) (g:Gr) (p:Pl):Fc × Int:=if ((bk b g p).2.1=0∧ni g=true)∧0<g.es.length then (SU g p,0) else (SV,1)
def TV (f:Fc):AV:= .agg [.d (sI f.L), .d (sI f.R), .d (sI f.lo), .d (sI f.hi)]
def SW (l:List Int) (f:Int→Int) (j:Nat):List Int:=(l.take j).map f++l.drop j
end Go.Ab
end
section
namespace Go.Ab
open Go.Proofs
set_option maxRecDepth 10000
set_option linter.unusedSectionVars false
section
variable (g:Gr) (p:Pl)
def cN:Nat:=cK p g.n.toNat
def Lf (e:Int):Int:=LK g p g.n.toNat e
def Rf (e:Int):Int:=RK g p (cN g p) g.n.toNat e
def SX:List Int:=Ku p g.n.toNat++ [aH p 0]
def SY:List Int:=PB g p g.n.toNat++ [aH p (g.n.toNat - 1)]
def TW (f:Int):Int:=(SX g p).getD f.toNat 0
def TX (f:Int):Int:=(SY g p).getD f.toNat 0
end
section
variable {g:Gr} {p:Pl}
variable (h:bn g p) (hI:ni g=true)
include h hI
end
end Go.Ab
end
section
namespace Go.Ab
open Go.Proofs
set_option maxRecDepth 10000
set_option linter.unusedSectionVars false
def SZ (s:Nat) (x:Int):Bool:=decide (0≤x)&&decide (x<64)&&s.testBit x.toNat
section
variable {P:PS} (h:P.Ok) {L R:Int→Int} {f0 f1:Int} {low:Int→Int} (F:P.j0 L R f0 f1 low)
def S0 (P:PS) (R:Int→Int) (f:Int):Nat→Nat
 |0=>0
 |j+1=>if R (P.sh j)=f then j+1 else S0 P R f j
include h F
end
section
variable (g:Gr) (p:Pl)
def TY:Gr:=⟨(cN g p:Int)+1,(List.range g.es.length).map fun i:Nat=>(Lf g p i,Rf g p i)⟩
end
section
variable {g:Gr} {p:Pl}
variable (h:bn g p) (hI:ni g=true)
include h hI
end
end Go.Ab
end
section
namespace Go.Ab
open Go.Proofs
attribute [local congr] ACall.congr gd.congr Nx.congr
set_option maxRecDepth 20000
set_option maxHeartbeats 8000000
end Go.Ab
end
section
namespace Go.Ab
open Go.Proofs
attribute [local congr] ACall.congr gd.congr Nx.congr
set_option maxRecDepth 20000
set_option maxHeartbeats 8000000
def TZ (f:Fc) (k:Nat):List Edge:=(List.range k).map fun i:Nat=>(f.L.getD i 0,f.R.getD i 0)
def S1 (b:Bool) (g:Gr) (p:Pl):Bool:= !uK g p&&ni g&&decide ((bk b g p).2.1=0)&&decide (0<(g.es.length:Int))&&decide ((g.es.length:Int)≤60)
def T0:Gr:=⟨4, [(0,1),(1,3),(0,2),(2,3)]⟩
def T1:Pl:=⟨[0,1,2,3], [[0,2], [1], [3], []]⟩
end Go.Ab
end
section
namespace Go.Ab
open Go.Proofs
attribute [local congr] ACall.congr gd.congr Nx.congr
set_option maxRecDepth 20000
set_option maxHeartbeats 8000000
theorem nG:Spec Tryz.prog 32 (Args []) [] (eB true) []:=by
 have PD:=Em AD (by decide) Hf ⟨by decide,by decide,by decide⟩ (by decide) (by decide) (by decide) true JN
 rw [Py] at PD
 simp only at PD
 have S2:=AB d21 (by decide) (by decide) (by decide)
 have e1:AD.es.map rE= [[.sc (.int .i64 0), .sc (.int .i64 1)], [.sc (.int .i64 1), .sc (.int .i64 2)], [.sc (.int .i64 0), .sc (.int .i64 2)]]:=rfl
 have e2:Hf.ord.map rI= [[.sc (.int .i64 0)], [.sc (.int .i64 1)], [.sc (.int .i64 2)]]:=rfl
 have e3:vI Hf.outs= [[.sl 1 [[.sc (.int .i64 0)], [.sc (.int .i64 2)]]], [.sl 1 [[.sc (.int .i64 1)]]], [.sl 1 []]]:=rfl
 have e4:AD.n=3:=rfl
 have e5:d21.pts.map rP= [[.sc (.int .i64 0), .sc (.int .i64 0)], [.sc (.int .i64 1), .sc (.int .i64 2)], [.sc (.int .i64 3), .sc (.int .i64 3)]]:=rfl
 have e6:vP d21.ls= [[.sl 2 [[.sc (.int .i64 0), .sc (.int .i64 0)], [.sc (.int .i64 1), .sc (.int .i64 2)]]], [.sl 2 [[.sc (.int .i64 1), .sc (.int .i64 2)], [.sc (.int .i64 3), .sc (.int .i64 3)]]], [.sl 2 [[.sc (.int .i64 0), .sc (.int .i64 0)], [.sc (.int .i64 2), .sc (.int .i64 1)], [.sc (.int .i64 3), .sc (.int .i64 3)]]]]:=rfl
 (refine Spec.hd (C:=T.cfg [] []) (rs:= [.t 0]) (T.ah _ _) Tryz.func32 rfl rfl Tryz.ntmps32 Tryz.results32 (by simp [AObj.isNest]) (by simp [AObj.isNest]) (by kernel_rfl) T.mixed fun X hX hP hC aC bL=> ?_)
 repeat' (first|refine Rn.p ?_|(with_reducible apply And.intro)|((first|(refine hK _ ?_;clear hK K)|with_reducible intro K hK|refine Rs.p ?_|((with_reducible first|apply oP|apply oQ);exact rfl)|(refine cM hX hC hP (PD) rfl rfl rfl ?_ ?_ rfl ?_;iterate 2 (focus (simp only [go_sem,simprocAttr,e1,e2,e3,e4,e5,e6,List.map_cons,List.map_nil,rI,decide_true];done)))|(refine cM hX hC hP (S2) rfl rfl rfl ?_ ?_ rfl ?_;iterate 2 (focus (simp only [go_sem,simprocAttr,e1,e2,e3,e4,e5,e6,List.map_cons,List.map_nil,rI,decide_true];done))));try simp only [go_sem,simprocAttr,e1,e2,e3,e4,e5,e6,List.map_cons,List.map_nil,rI,decide_true])|((with_reducible refine oD ?_ ?_);kernel_rfl)|((with_reducible intro h);try simp only [go_sem,simprocAttr,e1,e2,e3,e4,e5,e6,List.map_cons,List.map_nil,rI,decide_true] at h)|omega|intro h)
theorem GZ {b:Bool} {g:Gr} {p:Pl} (hr:b=true↔(bE g).1=0∧aT g p):(iJ b g p).1.es.length≤128∧z7 (iJ b g p).2.1:=by
 unfold iJ
 split
 ·rename_i h0
  split
  ·exact ⟨by simp [gz],⟨by simp [pz],by simp [pz],by simp [pz]⟩⟩
  ·rename_i h1
   obtain ⟨hrun,_⟩:=eC hr h0.1
   have KQ:=CL hrun lF (yy hrun lF) (by omega) (by omega)
   obtain ⟨s1,s2,s3⟩:=Ay KQ
   exact ⟨by rw [gi];omega,⟨by simp only;omega,by simp only;omega,fun l hl=>by have:=s3 l hl;omega⟩⟩
 ·exact ⟨by simp [gz],⟨by simp [pz],by simp [pz],by simp [pz]⟩⟩
theorem qL (g:Gr) (p:Pl) (hl:g.es.length≤9223372036854775807) (hp:z7 p):Spec Tryz.prog 10 (Args [eG g,ePl p]) [] (eB true) []:=by
 have hG:=yl g p hl hp
 (refine Spec.hd (C:=T.cfg [] []) (rs:= [.t 4]) (T.ah _ _) Tryz.func10 rfl rfl Tryz.ntmps10 Tryz.results10 (by simp [AObj.isNest]) (by simp [AObj.isNest]) (by kernel_rfl) T.mixed fun X hX hP hC aC bL=> ?_)
 cases hB:uK g p with
 |true=>
  rw [hB] at hG
  repeat' (first|refine Rn.p ?_|(with_reducible apply And.intro)|((first|(refine hK _ ?_;clear hK K)|with_reducible intro K hK|refine Rs.p ?_|((with_reducible first|apply oP|apply oQ);exact rfl)|refine aa hX hC hP (nG) rfl rfl rfl (by simp only [go_sem,simprocAttr]) rfl ?_|refine aa hX hC hP (hG) rfl rfl rfl (by simp only [go_sem,simprocAttr]) rfl ?_);try simp only [go_sem,simprocAttr])|((with_reducible refine oD ?_ ?_);kernel_rfl)|((with_reducible intro h);try simp only [go_sem,simprocAttr] at h)|omega|intro h)
 |false=>
 rw [hB] at hG
 obtain ⟨b1,b2,b3,b4⟩:=CB hB
 obtain ⟨b,hr⟩:=Sw g p
 have S3:=yG g (by omega) p (z6 hB) b hr
 have S4:=rO g (by omega) p (z6 hB) b hr
 obtain ⟨l1,l2⟩:=GZ (b:=b) (g:=g) (p:=p) hr
 have hS:=DS (iJ b g p).1 (iJ b g p).1 (by omega)
 have S5:=vD _ l2
 rw [decide_eq_true rfl,decide_eq_true rfl] at hS
 have hS:Spec Tryz.prog 40 (Args [eG (iJ b g p).1,eG (iJ b g p).1]) [] (eB true) []:=hS
 generalize iJ b g p=R at*
 have G9:decide (R.2.2=R.2.2)=true:=decide_eq_true rfl
 repeat' (first|refine Rn.p ?_|(with_reducible apply And.intro)|((first|(refine hK _ ?_;clear hK K)|with_reducible intro K hK|refine Rs.p ?_|((with_reducible first|apply oP|apply oQ);exact rfl)|refine aa hX hC hP (nG) rfl rfl rfl (by simp only [go_sem,simprocAttr,G9]) rfl ?_|refine aa hX hC hP (hG) rfl rfl rfl (by simp only [go_sem,simprocAttr,G9]) rfl ?_|refine aa hX hC hP (S3) rfl rfl rfl (by simp only [go_sem,simprocAttr,G9]) rfl ?_|refine aa hX hC hP (S4) rfl rfl rfl (by simp only [go_sem,simprocAttr,G9]) rfl ?_|refine aa hX hC hP (hS) rfl rfl rfl (by simp only [go_sem,simprocAttr,G9]) rfl ?_|refine aa hX hC hP (S5) rfl rfl rfl (by simp only [go_sem,simprocAttr,G9]) rfl ?_);try simp only [go_sem,simprocAttr,G9])|((with_reducible refine oD ?_ ?_);kernel_rfl)|((with_reducible intro h);try simp only [go_sem,simprocAttr,G9] at h)|omega|intro h)
end Go.Ab
end
