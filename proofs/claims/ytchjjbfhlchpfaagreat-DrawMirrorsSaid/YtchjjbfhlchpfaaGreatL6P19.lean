/- A part of the proof. -/
import Derived.Test.YtchjjbfhlchpfaaGreatL6P18
set_option linter.unusedSimpArgs false
set_option linter.unusedVariables false
section
namespace Go.Ab
open Go.Proofs
attribute [local congr] ACall.congr gd.congr Nx.congr
set_option maxRecDepth 20000
set_option maxHeartbeats 8000000
set_option linter.unusedSectionVars false
def mo (g:Gr) (bs:List Int) (k:Nat):List (List Int × Int):=(List.range k).map fun j:Nat=>([bs.getD j 0],g.n+(j:Int))
theorem EY {g:Gr} {bs:List Int} {k:Nat} :mo g bs (k+1)=mo g bs k++ [([bs.getD k 0],g.n+(k:Int))]:=by simp [mo,List.range_succ]
theorem mT {g:Gr} {bs:List Int} {k:Nat} {p:List Int × Int} :p∈mo g bs k↔∃j:Nat,j<k∧p=([bs.getD j 0],g.n+(j:Int)):=by
 simp only [mo,List.mem_map,List.mem_range]
 constructor
 ·rintro ⟨j,h,rfl⟩;exact ⟨j,h,rfl⟩
 ·rintro ⟨j,h,rfl⟩;exact ⟨j,h,rfl⟩
theorem EZ {g:Gr} {k:Nat} :iO g (k+1)=iO g k++ [[((g.es.length+k:Nat):Int)]]:=by simp [iO,List.range_succ]
theorem HF {g:Gr} {bs:List Int} :(iw g bs).length=g.es.length+bs.length:=by simp [iw]
section
variable {g:Gr} {p:Pl} {bs:List Int} (h:aR g p) (hb:sn g bs) (hs1:g.n+bs.length≤64) (xT:g.es.length+bs.length≤128)
include h hb hs1 xT
theorem A0:∀ {k:Nat},k≤bs.length→(eY g bs k p.ord).length=g.n.toNat+k
 |0,_=>by rw [xC,aS h.2.1];rfl
 |k+1,hk=>by
  have hm:=an h.1
  have oK:∀u∈p.ord,u<g.n:=fun u hu=>by
   have:=h.2.1.2.1.mem_iff.1 hu
   simp only [eC,List.mem_map,List.mem_range] at this
   obtain ⟨k,hk,e⟩:=this
   have e:(k:Int)=u:=e
   omega
  have vO:=hb.qB _ (aE (d:=0) hk)
  have IX:fe g (bs.getD k 0)∈p.ord:=by
   have htr:=bg hm (i:=(bs.getD k 0).toNat) (by omega)
   obtain ⟨l,hl,e⟩:=gQ h.2.1 htr.1 htr.2
   show tl g (bs.getD k 0).toNat∈p.ord
   rw [← e,aD,List.getD_eq_getElem?_getD,List.getElem?_eq_getElem (by rw [aS h.2.1];exact hl)]
   exact List.getElem_mem _
  obtain ⟨A,B,o1,o2,_,_⟩:=xD (k:=k) (cP h.2.1) oK IX
  have ih:=A0 (k:=k) (by omega)
  rw [o1] at ih
  rw [o2]
  simp only [List.length_append,List.length_cons] at ih ⊢
  omega
theorem HG {k:Nat} (hk:k<bs.length):Spec Tryz.prog 118 (Args [.ptr 10000 0,eN (bs.getD k 0)]) (jJ (g.n+(k:Int)) (iw g (bs.take k)) (eY g bs k p.ord) (p.outs++iO g k) (mo g bs k)) (.tup [])
 (HA (g.n+((k+1:Nat):Int)) (iw g (bs.take (k+1))) (eY g bs (k+1) p.ord) (p.outs++iO g (k+1)) (mo g bs (k+1))):=by
 have hm:=an h.1
 have hn:=aH hm
 have dM:=h.2.1.1
 have bY:=cP h.2.1
 have vO:=hb.qB _ (aE (d:=0) hk)
 obtain ⟨e,he⟩:∃e:Nat,bs.getD k 0=(e:Int):=⟨(bs.getD k 0).toNat,by omega⟩
 obtain ⟨e1,e2,e3⟩:=EJ hb hk he
 have Tn:(bs.take k).length=k:=by simp;omega
 have To:(bs.take (k+1)).length=k+1:=by simp;omega
 have hel:(iw g (bs.take k)).length=g.es.length+k:=by rw [HF,Tn]
 have ht:fe g (bs.getD k 0)=tl g e:=by rw [he];rfl
 have oK:∀u∈p.ord,u<g.n:=fun u hu=>by
  have:=h.2.1.2.1.mem_iff.1 hu
  simp only [eC,List.mem_map,List.mem_range] at this
  obtain ⟨k,hk,e⟩:=this
  have e:(k:Int)=u:=e
  omega
 have IX:fe g (bs.getD k 0)∈p.ord:=by
  rw [ht]
  have htr:=bg hm e1
  obtain ⟨l,hl,e⟩:=gQ h.2.1 htr.1 htr.2
  rw [← e,aD,List.getD_eq_getElem?_getD,List.getElem?_eq_getElem (by rw [aS h.2.1];exact hl)]
  exact List.getElem_mem _
 obtain ⟨A,B,o1,o2,o3,o4⟩:=xD (k:=k) bY oK IX
 rw [ht] at o1 o2 o3
 have qj:∀i,i<g.es.length→((iw g (bs.take (k+1))).getD i (0,0)).1=tl g i:=fun i hi=>by
  have:=(cG (g:=g) (bs:=bs.take (k+1)) (e:=(i:Int)) (by omega) (by omega)).1
  exact this
 have Nz:(eY g bs k p.ord).length<1000:=by
  rw [A0 h hb hs1 xT (by omega)];omega
 have Tp:(iO g k).length=k:=by simp [iO]
 have hinj:∀j,j<bs.length→bs.getD j 0=bs.getD k 0→j=k:=fun j hj hjk=>by
  have a:=gn hb.nd hj
  have b:=gn hb.nd hk
  rw [hjk] at a
  omega
 have key:=EN (g.n+(k:Int)) (iw g (bs.take k)) (p.outs++iO g k) (mo g bs k) e A (oO g bs k (tl g e)) B (tl g e) (by omega) (by omega) (by omega) (by rw [List.length_append,dM,Tp];omega) (by rw [← o1];exact Nz)
  (fun q hq=> ?_) (fun q hq=> ?_) (by rw [e2]) o3 (fun u hu=> ?_) (fun u r hB=> ?_)
 ·rw [e2,show ((tl g e,hd g e):Edge).2=hd g e from rfl, ← e3, ← o1, ← o2,hel] at key
  rw [he,EZ,EY,he, ← List.append_assoc,show g.n+((k+1:Nat):Int)=g.n+(k:Int)+1 by omega]
  exact key
 ·obtain ⟨j,hj,rfl⟩:=mT.1 hq
  have:=hb.qB _ (aE (d:=0) (show j<bs.length by omega))
  simp only [List.getD_cons_zero]
  omega
 ·obtain ⟨j,hj,rfl⟩:=mT.1 hq
  intro e'
  simp only [List.cons.injEq,and_true] at e'
  have:=hinj j (by omega) (by rw [he];exact e'.symm)
  omega
 ·obtain ⟨j,j1,j2,rfl⟩:=gU.1 hu
  rw [e2,show ((tl g e,hd g e):Edge).2=hd g e from rfl, ← e3]
  have zD:=hb.qB _ (aE (d:=0) (show j<bs.length by omega))
  unfold vu
  rw [List.any_eq_true]
  refine ⟨([bs.getD j 0],g.n+(j:Int)),List.mem_append_left _ (mT.2 ⟨j,j1,rfl⟩), ?_⟩
  simp only [fh,List.getD_cons_zero,Bool.and_eq_true,decide_eq_true_eq]
  refine ⟨⟨trivial,fun e'=> ?_⟩, ?_⟩
  ·have:=hinj j (by omega) (by rw [he];omega)
   omega
  ·rw [qj _ (by omega),qj _ e1]
   exact j2
 ·rw [e2,show ((tl g e,hd g e):Edge).2=hd g e from rfl, ← e3]
  have hu:=o4 u r hB
  unfold vu
  rw [List.any_eq_false]
  intro q hq
  have HX:g.n≤q.2:=by
   rcases List.mem_append.1 hq with hq|hq
   ·obtain ⟨j,hj,rfl⟩:=mT.1 hq
    show g.n≤g.n+(j:Int)
    omega
   ·rw [List.mem_singleton] at hq
    subst hq
    show g.n≤g.n+(k:Int)
    omega
  simp only [fh,Bool.and_eq_true,decide_eq_true_eq]
  rintro ⟨⟨h1,_⟩,_⟩
  omega
end
end Go.Ab
end
section
namespace Go.Ab
open Go.Proofs
attribute [local congr] ACall.congr gd.congr Nx.congr
set_option maxRecDepth 10000
set_option maxHeartbeats 8000000
theorem lT {b:Bool} {g:Gr} {p:Pl} (hr:b=true↔(bR g).1=0∧aX g p) (h:aR g p):bH b g p=((eV g p g.n.toNat,aY g p),(0,0)):=by
 obtain rfl:b=true:=hr.2 ⟨h.1,h.2.1⟩
 unfold bH
 rw [if_neg (by simp),fG.2 h.2.2]
 rfl
theorem Dl {b:Bool} {g:Gr} {p:Pl} (hr:b=true↔(bR g).1=0∧aX g p) (h:(lR b g p).2.2=0):iF g p∧lR b g p=(ag g p,bC g p,0):=by
 unfold lR at h ⊢
 split at h
 ·cases h
 rename_i h0
 split at h
 ·cases h
 rename_i h1
 rw [if_neg h0,if_neg h1]
 exact ⟨⟨(kR hr (by simpa using h0)).1,by omega,by omega⟩,rfl⟩
theorem Tq (g:Gr) (p:Pl):∃b:Bool,(b=true↔(bR g).1=0∧aX g p):=by
 by_cases h:(bR g).1=0∧aX g p
 ·exact ⟨true,by simp [h]⟩
 ·exact ⟨false,by simp [h]⟩
end Go.Ab
end
section
namespace Go.Ab
open Go.Proofs
attribute [local congr] ACall.congr gd.congr Nx.congr
set_option maxRecDepth 20000
set_option maxHeartbeats 8000000
theorem yX (ps:List Edge) (hl:ps.length≤1000000):
 Spec Tryz.prog 97 (Args [.d (sE ps)]) [] (.ref 10000) [(10000, .own 73 2 (ps.map rE))]:=by
 (refine Spec.uf (C:=T.cfg [5,7] []) (rs:= [.t 2]) [(10000,7)] (T.aj _ _) Tryz.func97 rfl rfl Tryz.ntmps97 Tryz.results97 (by simp [AObj.isNest]) (by simp [AObj.isNest]) (by first|(simp [look];done)|(simp [asN];done)|(intro l hl;simp only [asN];repeat (rw [if_neg (fun e=>by subst e;simp [look] at hl)]))) (by first|(simp [look];done)|(simp [asN];done)|(intro l hl;simp only [asN];repeat (rw [if_neg (fun e=>by subst e;simp [look] at hl)]))) (by kernel_rfl) T.mixed fun X hX hP hC aJ b7=> ?_)
 repeat' (first|(show bW _ .ret _ _;(try simp only [go_sem,simprocAttr]);refine dX hX 2 7 (.own 73 2 []) ?_ ?_ (by decide) ⟨73,2,by decide, .inl rfl⟩ ?_;(iterate 2 (focus (simp only [go_sem,simprocAttr];done)));simp only [go_sem,simprocAttr])|refine Rn.p ?_|(with_reducible apply And.intro)|((first|(refine hK _ ?_;clear hK K)|with_reducible intro K hK|refine Rs.p ?_|((with_reducible first|apply oP|apply oQ);exact rfl));try simp only [go_sem,simprocAttr])|((with_reducible refine oD ?_ ?_);kernel_rfl)|((with_reducible intro h);try simp only [go_sem,simprocAttr] at h)|omega|intro h)
 exact h.symm
theorem qR {g:Gr} :sn g (dU g):=by
 unfold dU
 split
 ·refine ⟨?_,fun i hi=> ?_⟩
  ·unfold y5
   exact List.Pairwise.map _ (fun a b hab=>by omega) (List.nodup_range.filter _)
  ·simp only [y5,List.mem_map,List.mem_filter,List.mem_range] at hi
   obtain ⟨j,⟨h1,_⟩,rfl⟩:=hi
   omega
 ·exact ⟨List.nodup_nil,by simp⟩
theorem Cm (g:Gr) (hl:g.es.length≤1000) (p:Pl) (hp:l6 p) (b:Bool) (hr:b=true↔(bR g).1=0∧aX g p) (h0:(bH b g p).2.1=0) (J3:xp g=true) (hbig:64<g.n+(dU g).length∨128<g.es.length+(dU g).length):
 Spec Tryz.prog 76 (Args [eG g,ePl p]) [] (.tup [.d (.sc (.pointer none)),eN 10]) []:=by
 have hO:=gR g hl p hp b hr
 have hI:=oM g hl
 have hT:=Dk g (by omega)
 obtain ⟨hrun,hR⟩:=kR hr h0
 rw [hR] at hO
 simp only at hO
 rw [J3] at hI
 have hn:=aH (an hrun.1)
 have Ef:(dU g).length≤1000:=by
  unfold dU
  split
  ·have:=Dj (g:=g) (k:=g.es.length);omega
  ·simp
 generalize dU g=bs at hT hbig Ef
 by_cases hA:64<g.n+(bs.length:Int)
 ·have hb1:decide (64<g.n+(bs.length:Int))=true:=decide_eq_true hA
  (refine Spec.hd (C:=T.cfg [] []) (rs:= [.t 4, .t 5]) (T.aj _ _) Tryz.func76 rfl rfl Tryz.ntmps76 Tryz.results76 (by simp [AObj.isNest]) (by simp [AObj.isNest]) (by kernel_rfl) T.mixed fun X hX hP hC aJ b7=> ?_)
  repeat' (first|refine Rn.p ?_|(with_reducible apply And.intro)|((first|(refine hK _ ?_;clear hK K)|with_reducible intro K hK|refine Rs.p ?_|((with_reducible first|apply oP|apply oQ);exact rfl)|refine aa hX hC hP (hO) rfl rfl rfl (by simp only [go_sem,simprocAttr,hb1]) rfl ?_|refine aa hX hC hP (hI) rfl rfl rfl (by simp only [go_sem,simprocAttr,hb1]) rfl ?_|refine aa hX hC hP (hT) rfl rfl rfl (by simp only [go_sem,simprocAttr,hb1]) rfl ?_);try simp only [go_sem,simprocAttr,hb1])|((with_reducible refine oD ?_ ?_);kernel_rfl)|((with_reducible intro h);try simp only [go_sem,simprocAttr,hb1] at h)|omega|intro h)
 ·have hb1:decide (64<g.n+(bs.length:Int))=false:=decide_eq_false hA
  have hb2:decide (128<(g.es.length:Int)+(bs.length:Int))=true:=decide_eq_true (by omega)
  (refine Spec.hd (C:=T.cfg [] []) (rs:= [.t 4, .t 5]) (T.aj _ _) Tryz.func76 rfl rfl Tryz.ntmps76 Tryz.results76 (by simp [AObj.isNest]) (by simp [AObj.isNest]) (by kernel_rfl) T.mixed fun X hX hP hC aJ b7=> ?_)
  repeat' (first|refine Rn.p ?_|(with_reducible apply And.intro)|((first|(refine hK _ ?_;clear hK K)|with_reducible intro K hK|refine Rs.p ?_|((with_reducible first|apply oP|apply oQ);exact rfl)|refine aa hX hC hP (hO) rfl rfl rfl (by simp only [go_sem,simprocAttr,hb1,hb2]) rfl ?_|refine aa hX hC hP (hI) rfl rfl rfl (by simp only [go_sem,simprocAttr,hb1,hb2]) rfl ?_|refine aa hX hC hP (hT) rfl rfl rfl (by simp only [go_sem,simprocAttr,hb1,hb2]) rfl ?_);try simp only [go_sem,simprocAttr,hb1,hb2])|((with_reducible refine oD ?_ ?_);kernel_rfl)|((with_reducible intro h);try simp only [go_sem,simprocAttr,hb1,hb2] at h)|omega|intro h)
theorem E1 (g:Gr) (hl:g.es.length≤1000) (p:Pl) (hp:l6 p) (hrun:aR g p) (J3:xp g=true) (bs:List Int) (Tr:dU g=bs) (hs1:g.n+bs.length≤64) (xT:g.es.length+bs.length≤128):
 Spec Tryz.prog 76 (Args [eG g,ePl p]) [] (.tup [.ptr 10000 0,eN 0]) (jJ (g.n+bs.length) (iw g bs) (eY g bs bs.length p.ord) (p.outs++iO g bs.length) (mo g bs bs.length)):=by
 have hO:=gR g hl p hp true ⟨fun _=>⟨hrun.1,hrun.2.1⟩,fun _=>rfl⟩
 rw [lT ⟨fun _=>⟨hrun.1,hrun.2.1⟩,fun _=>rfl⟩ hrun] at hO
 simp only at hO
 have hI:=oM g hl
 rw [J3] at hI
 have hT:=Dk g (by omega)
 have gv:=qR (g:=g)
 rw [Tr] at hT gv
 have hn:=aH (an hrun.1)
 have dM:=hrun.2.1.1
 have sG:=aS hrun.2.1
 have hb1:decide (64<g.n+(bs.length:Int))=false:=decide_eq_false (by omega)
 have hb2:decide (128<(g.es.length:Int)+(bs.length:Int))=false:=decide_eq_false (by omega)
 have Ts:=yX g.es (by omega)
 have Tt:=qf p.ord (by omega)
 have Tu:∀k,k<p.outs.length→Spec Tryz.prog 71 (Args [.d (sI (p.outs.getD k []))]) [] (.d (sI (p.outs.getD k []))) []:=fun k hk=>gZ _ (by
  have h1:=(hrun.2.1.2.2 k (by omega)).length_eq
  have h2:(aZ g (k:Int)).length≤g.es.length:=gJ
  omega)
 unfold jJ
 (refine Spec.uf (C:=T.cfg [51,55,76,75,200] []) (rs:= [.t 4, .t 5]) [(10000,59),(10001,51),(10002,55),(10003,200),(10004,57)] (T.aj _ _) Tryz.func76 rfl rfl Tryz.ntmps76 Tryz.results76 (by simp [AObj.isNest]) (by simp [AObj.isNest]) (by first|(simp [look];done)|(simp [asN];done)|(intro l hl;simp only [asN];repeat (rw [if_neg (fun e=>by subst e;simp [look] at hl)]))) (by first|(simp [look];done)|(simp [asN];done)|(intro l hl;simp only [asN];repeat (rw [if_neg (fun e=>by subst e;simp [look] at hl)]))) (by kernel_rfl) T.mixed fun X hX hP hC aJ b7=> ?_)
 repeat' (first|(show bW _ (.seq (.region 8 _ _) _) _ _;(refine ga hX 59 3 200 (.own 31 1 []) rfl rfl rfl (by simp only [go_sem,simprocAttr,hb1,hb2]) (by decide) (by simp [go_sem,simprocAttr,hb1,hb2]) ⟨31,1,by decide, .inl rfl⟩ ?_;simp only [List.set_cons_zero,List.set_cons_succ,go_sem,simprocAttr,hb1,hb2]))|refine Rn.p ?_|(with_reducible apply And.intro)|((first|(refine hK _ ?_;clear hK K)|with_reducible intro K hK|refine Rs.p ?_|((with_reducible first|apply oP|apply oQ);exact rfl)|refine aa hX hC hP (hO) rfl rfl rfl (by simp only [go_sem,simprocAttr,hb1,hb2]) rfl ?_|refine aa hX hC hP (hI) rfl rfl rfl (by simp only [go_sem,simprocAttr,hb1,hb2]) rfl ?_|refine aa hX hC hP (hT) rfl rfl rfl (by simp only [go_sem,simprocAttr,hb1,hb2]) rfl ?_|(refine au hX hC hP [(10000,51)] (Ts) rfl rfl rfl ?_ ?_ ?_ ?_ ?_ ?_ ?_ ?_ ?_ ?_ ?_ ?_ ?_ ?_;(focus (simp only [go_sem,simprocAttr,hb1,hb2];done));(iterate 12 (focus (simp [go_sem,simprocAttr,hb1,hb2];done)));try simp only [List.map_cons,List.map_nil])|(refine au hX hC hP [(10000,55)] (Tt) rfl rfl rfl ?_ ?_ ?_ ?_ ?_ ?_ ?_ ?_ ?_ ?_ ?_ ?_ ?_ ?_;(focus (simp only [go_sem,simprocAttr,hb1,hb2];done));(iterate 12 (focus (simp [go_sem,simprocAttr,hb1,hb2];done)));try simp only [List.map_cons,List.map_nil]));try simp only [go_sem,simprocAttr,hb1,hb2])|((with_reducible refine oD ?_ ?_);kernel_rfl)|((with_reducible intro h);try simp only [go_sem,simprocAttr,hb1,hb2] at h)|omega|intro h)
 refine ah (fun k:Nat=>k≤p.outs.length) (fun k=>⟨[(4, .d (.sc (.pointer none))),(5,eN 0),(9, .d (sI bs)),(10, .ptr 59 0),(61, .d (.sl 1 (vI p.outs))),(62,eN p.outs.length),(63,eN k)], [(59, .box [eN g.n, .ref 51, .ref 55, .ref 200, .mref 57]),(51, .own 73 2 (g.es.map rE)),(55, .own 3 1 (p.ord.map rI)),(200, .own 31 1 (vI (p.outs.take k))),(57, .mp 0 [])]⟩) (fun k=>p.outs.length - k) 0 (by omega) ?_ ?_
 ·refine Le.of ?_ ?_<;>simp [go_sem,simprocAttr,vI]
 rintro k hk
 rcases Nat.lt_or_ge k p.outs.length with hlt|hge
 ·have hb:decide ((k:Int)<(p.outs.length:Int))=true:=decide_eq_true (by omega)
  have hc:=Tu k hlt
  have mO:(p.outs.take k).length=k:=by simp;omega
  have hv:vI (p.outs.take k)++ [[D.sl 1 ((p.outs.getD k []).map rI)]]=vI (p.outs.take (k+1)):=by
   rw [List.take_add_one,List.getElem?_eq_getElem hlt,Option.toList_some,Lm,List.getD_eq_getElem?_getD,List.getElem?_eq_getElem hlt]
   rfl
  repeat' (first|(show bW _ (.region 12 _ _) _ _;(refine c7 hX 59 3 76 200 rfl rfl rfl (by first|exact .inl rfl|exact .inr rfl) (by decide) (by decide) ?_;simp only [List.set_cons_zero,List.set_cons_succ,go_sem,simprocAttr,hb,hv,eo hlt,mO,sI]))|refine Rn.p ?_|(with_reducible apply And.intro)|((first|(refine hK _ ?_;clear hK K)|with_reducible intro K hK|refine Rs.p ?_|((with_reducible first|apply oP|apply oQ);exact rfl)|refine aa hX hC hP (hc) rfl rfl rfl (by simp only [go_sem,simprocAttr,hb,hv,eo hlt,mO,sI]) rfl ?_);try simp only [go_sem,simprocAttr,hb,hv,eo hlt,mO,sI])|((with_reducible refine oD ?_ ?_);kernel_rfl)|((with_reducible intro h);try simp only [go_sem,simprocAttr,hb,hv,eo hlt,mO,sI] at h)|omega|intro h)
  refine ⟨k+1,by omega, ?_,by omega⟩
  refine Le.of ?_ ?_<;>simp [go_sem,simprocAttr,hb,hv,eo hlt,mO,sI]
 ·have hb:decide ((k:Int)<(p.outs.length:Int))=false:=decide_eq_false (by omega)
  obtain rfl:k=p.outs.length:=by omega
  rw [List.take_length]
  repeat' (first|refine Rn.p ?_|(with_reducible apply And.intro)|((first|(refine hK _ ?_;clear hK K)|with_reducible intro K hK|refine Rs.p ?_|((with_reducible first|apply oP|apply oQ);exact rfl));try simp only [go_sem,simprocAttr,hb])|((with_reducible refine oD ?_ ?_);kernel_rfl)|((with_reducible intro h);try simp only [go_sem,simprocAttr,hb] at h)|omega|intro h)
  refine ah (fun k:Nat=>k≤bs.length) (fun k=>⟨[(4, .d (.sc (.pointer none))),(5,eN 0),(10, .ptr 59 0),(81, .d (sI bs)),(82,eN bs.length),(83,eN k)], [(59, .box [eN (g.n+(k:Int)), .ref 51, .ref 55, .ref 200, .mref 57]),(51, .own 73 2 ((iw g (bs.take k)).map rE)),(55, .own 3 1 ((eY g bs k p.ord).map rI)),(200, .own 31 1 (vI (p.outs++iO g k))),(57, .mp 0 (mo g bs k))]⟩) (fun k=>bs.length - k) 0 (by omega) ?_ ?_
  ·refine Le.of ?_ ?_<;>simp [go_sem,simprocAttr,EL,xC,iO,mo]
  rintro k hk
  rcases Nat.lt_or_ge k bs.length with hlt|hge
  ·have hb3:decide ((k:Int)<(bs.length:Int))=true:=decide_eq_true (by omega)
   have hL:=HG hrun gv hs1 xT hlt
   repeat' (first|(show bW _ (.region 17 _ _) _ _;(refine c7 hX 59 1 301 51 rfl rfl rfl (by first|exact .inl rfl|exact .inr rfl) (by decide) (by decide) ?_;simp only [List.set_cons_zero,List.set_cons_succ,go_sem,simprocAttr,hb3,jJ,HA]);(refine c7 hX 59 2 302 55 rfl rfl rfl (by first|exact .inl rfl|exact .inr rfl) (by decide) (by decide) ?_;simp only [List.set_cons_zero,List.set_cons_succ,go_sem,simprocAttr,hb3,jJ,HA]);(refine c7 hX 59 3 303 200 rfl rfl rfl (by first|exact .inl rfl|exact .inr rfl) (by decide) (by decide) ?_;simp only [List.set_cons_zero,List.set_cons_succ,go_sem,simprocAttr,hb3,jJ,HA]))|refine Rn.p ?_|(with_reducible apply And.intro)|((first|(refine hK _ ?_;clear hK K)|with_reducible intro K hK|refine Rs.p ?_|((with_reducible first|apply oP|apply oQ);exact rfl)|(refine au hX hC hP [(10000,59),(10001,51),(10002,55),(10003,200),(10004,57),(10011,301),(10012,302),(10013,303)] (hL) rfl rfl rfl ?_ ?_ ?_ ?_ ?_ ?_ ?_ ?_ ?_ ?_ ?_ ?_ ?_ ?_;(focus (simp only [go_sem,simprocAttr,hb3,jJ,HA];done));(iterate 12 (focus (simp [go_sem,simprocAttr,hb3,jJ,HA];done)));try simp only [List.map_cons,List.map_nil]));try simp only [go_sem,simprocAttr,hb3,jJ,HA])|((with_reducible refine oD ?_ ?_);kernel_rfl)|((with_reducible intro h);try simp only [go_sem,simprocAttr,hb3,jJ,HA] at h)|omega|intro h)
   refine ⟨k+1,by omega, ?_,by omega⟩
   refine Le.of ?_ ?_<;>simp [go_sem,simprocAttr,hb3,jJ,HA]
  ·have hb3:decide ((k:Int)<(bs.length:Int))=false:=decide_eq_false (by omega)
   obtain rfl:k=bs.length:=by omega
   rw [List.take_length]
   repeat' (first|refine Rn.p ?_|(with_reducible apply And.intro)|((first|(refine hK _ ?_;clear hK K)|with_reducible intro K hK|refine Rs.p ?_|((with_reducible first|apply oP|apply oQ);exact rfl));try simp only [go_sem,simprocAttr,hb3])|((with_reducible refine oD ?_ ?_);kernel_rfl)|((with_reducible intro h);try simp only [go_sem,simprocAttr,hb3] at h)|omega|intro h)
end Go.Ab
end
section
namespace Go.Ab
open Go.Proofs
attribute [local congr] ACall.congr gd.congr Nx.congr
set_option maxRecDepth 20000
set_option maxHeartbeats 8000000
noncomputable def Tv (b:Bool) (g:Gr) (p:Pl):Gr × Pl × Int:=
 if (bH b g p).2.1=0∧xp g=true then (if 64<g.n+(dU g).length∨128<g.es.length+(dU g).length then (gz,pz,10) else (aO g (dU g),sx g p (dU g),0)) else (gz,pz,1)
end Go.Ab
end
section
namespace Go.Ab
open Go.Proofs
set_option maxRecDepth 10000
def xG (g:Gr) (both:Bool) (c:Nat→Bool) (a:List Bool):Nat→List Bool
 |0=>a
 |k+1=>if c k&&((xG g both c a k).getD (tl g k).toNat false||both&&(xG g both c a k).getD (hd g k).toNat false) then
   ((xG g both c a k).set (hd g k).toNat true).set (tl g k).toNat (((xG g both c a k).set (hd g k).toNat true).getD (tl g k).toNat false||both) else xG g both c a k
def ya (g:Gr) (both:Bool) (c:Nat→Bool) (a:List Bool):Nat→List Bool
 |0=>a
 |r+1=>xG g both c (ya g both c a r) g.es.length
theorem k4 {l:List Bool} {i j:Nat} {a:Bool} (hi:i<l.length):(l.set i a).getD j false=if j=i then a else l.getD j false:=by
 rw [List.getD_eq_getElem?_getD,List.getElem?_set]
 by_cases h:i=j
 ·subst h;simp [hi]
 ·rw [if_neg h,if_neg (fun e=>h e.symm),List.getD_eq_getElem?_getD]
theorem s8 {g:Gr} {both:Bool} {c:Nat→Bool} {a:List Bool} :∀ {k:Nat},(xG g both c a k).length=a.length
 |0=>rfl
 |k+1=>by
  rw [xG]
  split
  ·rw [List.length_set,List.length_set];exact s8
  ·exact s8
theorem gV {g:Gr} {both:Bool} {c:Nat→Bool} {a:List Bool} :∀ {r:Nat},(ya g both c a r).length=a.length
 |0=>rfl
 |r+1=>by rw [ya,s8];exact gV
section
variable {g:Gr} (hm:aM g=true) {both:Bool} {c:Nat→Bool}
include hm
theorem Dm {k:Nat} (hk:k<g.es.length):(tl g k).toNat<g.n.toNat∧(hd g k).toNat<g.n.toNat:=by
 have h1:=bg hm hk
 have h2:=bF hm hk
 omega
theorem mU {a:List Bool} (ha:a.length=g.n.toNat) {k:Nat} (hk:k<g.es.length) {y:Nat} :(xG g both c a (k+1)).getD y false=true↔
 (xG g both c a k).getD y false=true∨c k=true∧((xG g both c a k).getD (tl g k).toNat false=true∧(y=(hd g k).toNat)∨both=true∧(xG g both c a k).getD (hd g k).toNat false=true∧y=(tl g k).toNat):=by
 obtain ⟨ht,hh⟩:=Dm hm hk
 have hl:(xG g both c a k).length=g.n.toNat:=by rw [s8,ha]
 rw [xG]
 generalize xG g both c a k=b at hl
 cases hc:c k with
 |false=>simp
 |true=>
  simp only [Bool.true_and]
  by_cases hq:(b.getD (tl g k).toNat false||both&&b.getD (hd g k).toNat false)=true
  ·rw [if_pos hq,k4 (by rw [List.length_set,hl];exact ht),k4 (by rw [hl];exact hh),k4 (by rw [hl];exact hh)]
   by_cases e1:y=(tl g k).toNat
   ·subst e1
    rw [if_pos rfl]
    by_cases e2:(tl g k).toNat=(hd g k).toNat
    ·rw [if_pos e2]
     simp only [Bool.true_or,true_iff]
     cases hb:b.getD (tl g k).toNat false with
     |true=>exact .inl rfl
     |false=>
      rw [hb] at hq
      rw [← e2,hb] at hq
      simp at hq
    ·rw [if_neg e2]
     cases hb:b.getD (tl g k).toNat false with
     |true=>simp
     |false=>
      rw [hb] at hq
      simp only [Bool.false_or,Bool.and_eq_true] at hq
      exact ⟨fun _=> .inr ⟨by simp, .inr ⟨hq.1,hq.2,rfl⟩⟩,fun _=>by rw [hq.1];rfl⟩
   ·rw [if_neg e1]
    by_cases e2:y=(hd g k).toNat
    ·subst e2
     rw [if_pos rfl]
     simp only [true_iff]
     cases hb:b.getD (tl g k).toNat false with
     |true=>exact .inr ⟨by simp, .inl ⟨by simp,by simp⟩⟩
     |false=>
      rw [hb] at hq
      simp only [Bool.false_or,Bool.and_eq_true] at hq
      exact .inl hq.2
    ·rw [if_neg e2]
     constructor
     ·intro h;exact .inl h
     ·rintro (h|⟨_,⟨_,h⟩|⟨_,_,h⟩⟩)
      ·exact h
      ·exact absurd h e2
      ·exact absurd h e1
  ·rw [if_neg hq]
   simp only [Bool.or_eq_true,Bool.and_eq_true,not_or,not_and] at hq
   constructor
   ·intro h;exact .inl h
   ·rintro (h|⟨_,⟨h,_⟩|⟨h1,h2,_⟩⟩)
    ·exact h
    ·exact absurd h hq.1
    ·exact absurd h2 (hq.2 h1)
theorem jD {a:List Bool} (ha:a.length=g.n.toNat) {y:Nat} (hy:a.getD y false=true):∀ {k:Nat},k≤g.es.length→(xG g both c a k).getD y false=true
 |0,_=>hy
 |k+1,hk=>(mU hm ha hk).2 (.inl (jD ha hy (by omega)))
theorem Dn {a:List Bool} (ha:a.length=g.n.toNat) {x:Nat} (hs:∀y,a.getD y false=true→nV g both c x y):∀ {k:Nat},k≤g.es.length→∀y,(xG g both c a k).getD y false=true→nV g both c x y
 |0,_,y,h=>hs y h
 |k+1,hk,y,h=>by
  have ih:=Dn ha hs (k:=k) (by omega)
  rcases (mU hm ha hk).1 h with h|⟨hc,⟨h1,rfl⟩|⟨h0,h1,rfl⟩⟩
  ·exact ih y h
  ·exact .fwd hk hc (ih _ h1)
  ·exact .Ia hk hc h0 (ih _ h1)
theorem Jt {a:List Bool} (ha:a.length=g.n.toNat) (hf:∀y,(xG g both c a g.es.length).getD y false=true→a.getD y false=true) {x y:Nat} (hx:a.getD x false=true) (h:nV g both c x y):a.getD y false=true:=by
 have up:∀ {j k:Nat},j≤k→k≤g.es.length→∀y,(xG g both c a j).getD y false=true→(xG g both c a k).getD y false=true:=by
  intro j k hjk
  induction hjk with
  |refl=>intro _ y h;exact h
  |step _ ih=>intro hk y h;exact (mU hm ha hk).2 (.inl (ih (by omega) y h))
 induction h with
 |refl=>exact hx
 | @fwd k hk hc _ ih=>exact hf _ (up (show k+1≤g.es.length from hk) (Nat.le_refl _) _ ((mU hm ha hk).2 (.inr ⟨hc, .inl ⟨jD hm ha ih (by omega),rfl⟩⟩)))
 | @Ia k hk hc Qq _ ih=>exact hf _ (up (show k+1≤g.es.length from hk) (Nat.le_refl _) _ ((mU hm ha hk).2 (.inr ⟨hc, .inr ⟨Qq,jD hm ha ih (by omega),rfl⟩⟩)))
theorem Dp {a:List Bool} (ha:a.length=g.n.toNat) {x:Nat} (hs:∀y,a.getD y false=true→nV g both c x y):∀r y,(ya g both c a r).getD y false=true→nV g both c x y
 |0,y,h=>hs y h
 |r+1,y,h=>Dn hm (by rw [gV];exact ha) (Dp ha hs r) (Nat.le_refl _) y h
def qg (a:List Bool):Nat:=a.countP id
omit hm in
theorem HH:∀ {a b:List Bool},a.length=b.length→(∀y,a.getD y false=true→b.getD y false=true)→(∃y,b.getD y false=true∧a.getD y false=false)→qg a<qg b∧True
 | [], [],_,_,⟨y,h,_⟩=>by simp at h
 |p::a,q::b,hl,h,⟨y,h1,h2⟩=>by
  have le:∀ {a b:List Bool},a.length=b.length→(∀y,a.getD y false=true→b.getD y false=true)→qg a≤qg b:=by
   intro a
   induction a with
   |nil=>intro b _ _;exact Nat.zero_le _
   |cons p a ih=>
    intro b hl h
    cases b with
    |nil=>simp at hl
    |cons q b=>
     have:=ih (b:=b) (by simpa using hl) fun y=>by simpa using h (y+1)
     have h0:=h 0
     simp only [List.getD_cons_zero] at h0
     unfold qg at this ⊢
     rw [List.countP_cons,List.countP_cons]
     cases p with
     |false=>simp;omega
     |true=>simp [h0 rfl];omega
  have hl':a.length=b.length:=by simpa using hl
  have h':∀y,a.getD y false=true→b.getD y false=true:=fun y=>by simpa using h (y+1)
  refine ⟨?_,trivial⟩
  have hle:=le hl' h'
  unfold qg at hle ⊢
  rw [List.countP_cons,List.countP_cons]
  cases y with
  |zero=>
   simp only [List.getD_cons_zero] at h1 h2
   subst h1 h2
   simp;omega
  |succ y=>
   have ih:=(HH hl' h' ⟨y,by simpa using h1,by simpa using h2⟩).1
   unfold qg at ih
   have h0:=h 0
   simp only [List.getD_cons_zero] at h0
   cases p with
   |false=>simp;omega
   |true=>simp [h0 rfl];omega
omit hm in
theorem Lr (a:List Bool):qg a≤a.length:=List.countP_le_length
theorem HI {a:List Bool} (ha:a.length=g.n.toNat) (r:Nat):(∀y,(ya g both c a (r+1)).getD y false=true→(ya g both c a r).getD y false=true)∨qg (ya g both c a r)<qg (ya g both c a (r+1)):=by
 by_cases h:∀y,(ya g both c a (r+1)).getD y false=true→(ya g both c a r).getD y false=true
 ·exact .inl h
 ·refine .inr (HH (gV.trans (gV (r:=r+1)).symm) (fun y hy=>jD hm (by rw [gV];exact ha) hy (Nat.le_refl _)) ?_).1
  simp only [Classical.not_forall] at h
  obtain ⟨y,h1,h2⟩:=h
  exact ⟨y,h1,by simpa using h2⟩
theorem HJ {a:List Bool} (ha:a.length=g.n.toNat) {x:Nat} (hx:a.getD x false=true) (hs:∀y,a.getD y false=true→nV g both c x y) (hc1:0<qg a) (y:Nat):(ya g both c a g.n.toNat).getD y false=true↔nV g both c x y:=by
 refine ⟨Dp hm ha hs _ y,fun h=> ?_⟩
 have Tw:∀r,(ya g both c a r).getD x false=true:=fun r=>by
  induction r with
  |zero=>exact hx
  |succ r ih=>exact jD hm (by rw [gV];exact ha) ih (Nat.le_refl _)
 have key:∀r,(∀y,nV g both c x y→(ya g both c a r).getD y false=true)∨r<qg (ya g both c a r):=by
  intro r
  induction r with
  |zero=>exact .inr hc1
  |succ r ih=>
   rcases ih with ih|ih
   ·exact .inl fun y hy=>jD hm (by rw [gV];exact ha) (ih y hy) (Nat.le_refl _)
   ·rcases HI hm ha r with h|h
    ·exact .inl fun y hy=>jD hm (by rw [gV];exact ha) (Jt hm (by rw [gV];exact ha) h (Tw r) hy) (Nat.le_refl _)
    ·exact .inr (by omega)
 rcases key g.n.toNat with h1|h1
 ·exact h1 y h
 ·have:=Lr (ya g both c a g.n.toNat)
  rw [gV,ha] at this
  omega
end
end Go.Ab
end
section
namespace Go.Ab
open Go.Proofs
attribute [local congr] ACall.congr gd.congr Nx.congr
set_option maxRecDepth 20000
set_option maxHeartbeats 8000000
def oT (n x:Nat):List Bool:=(List.replicate n false).set x true
theorem Cn {n x:Nat} :(oT n x).length=n:=by simp [oT]
theorem nV.congr {g:Gr} {both:Bool} {c c':Nat→Bool} (h:∀k,k<g.es.length→c k=c' k) {x y:Nat} (hr:nV g both c x y):nV g both c' x y:=by
 induction hr with
 |refl=>exact .refl
 | @fwd i a b _ ih=>exact .fwd a (by rw [← h i a];exact b) ih
 | @Ia i a b d _ ih=>exact .Ia a (by rw [← h i a];exact b) d ih
theorem xH {n x y:Nat} (hx:x<n):(oT n x).getD y false=true↔y=x:=by
 unfold oT
 rw [k4 (by simpa using hx)]
 by_cases h:y=x
 ·rw [if_pos h];simp [h]
 ·rw [if_neg h]
  simp only [h,iff_false,Bool.not_eq_true]
  rw [List.getD_eq_getElem?_getD,List.getElem?_replicate]
  split<;>rfl
theorem Co {n x:Nat} (hx:x<n):0<qg (oT n x):=by
 unfold qg
 rw [List.countP_pos_iff]
 refine ⟨true, ?_,rfl⟩
 unfold oT
 rw [List.mem_iff_getElem?]
 exact ⟨x,by rw [List.getElem?_set_self (by simpa using hx)]⟩
def Ls (m i:Nat):List Bool:=(kG m m).set i false
theorem Dq {m i k:Nat} (hi:i<m) (hk:k<m):(Ls m i).getD k false=oS i k:=by
 unfold Ls oS
 rw [k4 (by rw [trueK_length];exact hi)]
 by_cases h:k=i
 ·subst h;simp
 ·rw [if_neg h,kG,List.getD_eq_getElem?_getD,List.getElem?_map,List.getElem?_range hk]
  simp [hk];omega
theorem vD {g:Gr} (hm:aM g=true) {i:Nat} (hi:i<g.es.length):(ya g false (fun k=>(Ls g.es.length i).getD k false) (oT g.n.toNat (tl g i).toNat) g.n.toNat).getD (hd g i).toNat false=Bn g i:=by
 obtain ⟨ht,hh⟩:=Dm hm hi
 rw [Bool.eq_iff_iff,HJ hm Cn ((xH ht).2 rfl) (fun y hy=>by rw [(xH ht).1 hy];exact .refl) (Co ht),Bn,yV ht,yW]
 constructor
 ·intro h
  exact ⟨hh,h.congr fun k hk=>Dq hi hk⟩
 ·rintro ⟨_,h⟩
  exact h.congr fun k hk=>(Dq hi hk).symm
end Go.Ab
end
section
namespace Go.Ab
open Go.Proofs
attribute [local congr] ACall.congr gd.congr Nx.congr
set_option maxRecDepth 20000
set_option maxHeartbeats 8000000
end Go.Ab
end
section
namespace Go.Ab
open Go.Proofs
attribute [local congr] ACall.congr gd.congr Nx.congr
set_option maxRecDepth 10000
set_option maxHeartbeats 16000000
theorem E3 (g:Gr) (hl:g.es.length≤9223372036854775807) (p:Pl) (hp:l6 p) (b:Bool) (hr:b=true↔(bR g).1=0∧aX g p):Spec Tryz.prog 20 (Args [eG g,ePl p]) [] (eB (decide ((bH b g p).2.1=0))) []:=by
 have hO:=As g hl p hp b hr
 generalize bH b g p=R at hO
 (refine Spec.hd (C:=T.cfg [] []) (rs:= [.t 4]) (T.aj _ _) Tryz.func20 rfl rfl Tryz.ntmps20 Tryz.results20 (by simp [AObj.isNest]) (by simp [AObj.isNest]) (by kernel_rfl) T.mixed fun X hX hP hC aJ b7=> ?_)
 repeat' (first|refine Rn.p ?_|(with_reducible apply And.intro)|((first|(refine hK _ ?_;clear hK K)|with_reducible intro K hK|refine Rs.p ?_|((with_reducible first|apply oP|apply oQ);exact rfl)|refine aa hX hC hP (hO) rfl rfl rfl (by simp only [go_sem,simprocAttr]) rfl ?_);try simp only [go_sem,simprocAttr])|((with_reducible refine oD ?_ ?_);kernel_rfl)|((with_reducible intro h);try simp only [go_sem,simprocAttr] at h)|omega|intro h)
end Go.Ab
end
section
namespace Go.Ab
open Go.Proofs
attribute [local congr] ACall.congr gd.congr Nx.congr
set_option maxRecDepth 20000
set_option maxHeartbeats 8000000
end Go.Ab
end
section
namespace Go.Ab
open Go.Proofs
attribute [local congr] ACall.congr gd.congr Nx.congr
set_option maxRecDepth 20000
set_option maxHeartbeats 16000000
end Go.Ab
end
section
namespace Go.Ab
open Go.Proofs
attribute [local congr] ACall.congr gd.congr Nx.congr
set_option maxRecDepth 10000
abbrev Pt:=Int × Int
def eP (p:Pt):AV:= .agg [.d (.sc (.int .i64 p.1)), .d (.sc (.int .i64 p.2))]
def rP (p:Pt):List D:= [.sc (.int .i64 p.1), .sc (.int .i64 p.2)]
attribute [go_sem] eP
def vQ (p:Pt):Prop:=(-262144≤p.1∧p.1≤262144)∧(-262144≤p.2∧p.2≤262144)
def A1 (a b:Int):Int:=if a<b then -1 else if b<a then 1 else 0
def Ds (a b n:Int):Bool:=decide (min a b≤n)&&decide (n≤max a b)
def tm (a b c d:Pt):Int:=(b.1 - a.1)*(d.2 - c.2) - (b.2 - a.2)*(d.1 - c.1)
def sd (a b c:Pt):Int:=A1 (tm a b a c) 0
def Ju (a b c:Pt):Bool:=decide (sd a b c=0)&&Ds a.1 b.1 c.1&&Ds a.2 b.2 c.2
end Go.Ab
end
section
namespace Go.Ab
open Go.Proofs
attribute [local congr] ACall.congr gd.congr Nx.congr
set_option maxRecDepth 10000
def Tx (p:Pt):Bool:=decide (262144<max p.1 p.2)||decide (min p.1 p.2< -262144)
theorem getD_rP (ps:List Pt) (i:Nat):(ps.map rP).getD i [.sc (.int .i64 0), .sc (.int .i64 0)]=rP (ps.getD i (0,0)):=by
 simp only [List.getD_eq_getElem?_getD,List.getElem?_map]
 cases ps[i]? <;>rfl
theorem rP_eq (p:Pt):rP p= [.sc (.int .i64 p.1), .sc (.int .i64 p.2)]:=rfl
attribute [go_sem] getD_rP rP_eq Int.toNat_natCast
end Go.Ab
end
section
namespace Go.Ab
open Go.Proofs
attribute [local congr] ACall.congr gd.congr Nx.congr
set_option maxRecDepth 10000
instance (p:Pt):Decidable (vQ p):=by unfold vQ;infer_instance
def Rt (a b c:Pt):Int:=if vQ a∧vQ b∧vQ c then sd a b c else 0
def Ty (a b c:Pt):Bool:=decide (vQ a∧vQ b∧vQ c)&&Ju a b c
end Go.Ab
end
section
namespace Go.Ab
open Go.Proofs
attribute [local congr] ACall.congr gd.congr Nx.congr
set_option maxRecDepth 10000
def rS (a b c:Pt):Int:=a.1*b.2 - a.2*b.1+b.1*c.2 - b.2*c.1+c.1*a.2 - c.2*a.1
def qS (a b p:Pt):Int:=(p.1 - a.1)*(b.1 - a.1)+(p.2 - a.2)*(b.2 - a.2)
def NA (a b c:Pt):Int:=if vQ a∧vQ b∧vQ c then A1 (rS a b c) 0 else 0
def HK (a b c:Pt):Bool:=decide (vQ a∧vQ b∧vQ c)&&(decide (rS a b c=0)&&decide ((a.1 - c.1)*(b.1 - c.1)+(a.2 - c.2)*(b.2 - c.2)≤0))
end Go.Ab
end
section
namespace Go.Ab
open Go.Proofs
attribute [local congr] ACall.congr gd.congr Nx.congr
set_option maxRecDepth 10000
set_option maxHeartbeats 2000000
def Uw:OT:=(.br 0 (.br 1 (.br 2 (.br 3 (.br 4 (.br 5 (.br 6 .nil .nil) .nil) .nil) (.br 4 (.br 3 (.br 5 (.br 6 .nil .nil) .nil) (.br 5 (.br 3 (.br 6 .nil .nil) .nil) .nil)) .nil)) (.br 4 (.br 2 (.br 3 (.br 5 (.br 6 .nil .nil) .nil) (.br 5 (.br 3 (.br 6 .nil .nil) .nil) .nil)) (.br 5 (.br 2 (.br 3 (.br 6 .nil .nil) .nil) .nil) .nil)) .nil)) .nil) (.br 1 (.br 0 (.br 2 (.br 3 (.br 4 (.br 5 (.br 6 .nil .nil) .nil) .nil) (.br 4 (.br 3 (.br 5 (.br 6 .nil .nil) .nil) (.br 5 (.br 3 (.br 6 .nil .nil) .nil) .nil)) .nil)) (.br 4 (.br 2 (.br 3 (.br 5 (.br 6 .nil .nil) .nil) (.br 5 (.br 3 (.br 6 .nil .nil) .nil) .nil)) (.br 5 (.br 2 (.br 3 (.br 6 .nil .nil) .nil) .nil) .nil)) .nil)) .nil) .nil))
def NB (a b c d:Pt):Int:=
 if vQ a∧vQ b∧vQ c∧vQ d then
  if a=b then (if HK c d a=true then 1 else 0)
  else if c=d then (if HK a b c=true then 1 else 0)
  else if A1 (rS a b c) 0=0∧A1 (rS a b d) 0=0 then
   let lo:=max (qS a b a) (min (qS a b c) (qS a b d))
   let hi:=min (qS a b b) (max (qS a b c) (qS a b d))
   if hi<lo then 0 else if lo=hi then 1 else 2
  else if A1 (rS a b c) 0*A1 (rS a b d) 0≤0∧A1 (rS c d a) 0*A1 (rS c d b) 0≤0 then 1 else 0
 else 0
end Go.Ab
end
section
namespace Go.Ab
open Go.Proofs
attribute [local congr] ACall.congr gd.congr Nx.congr
set_option maxRecDepth 10000
set_option maxHeartbeats 2000000
theorem mval_touch (es:List (List Int × Int)) (k:List Int):l8 (fA es k) k=l8 es k:=by
 unfold fA
 cases h:cy es k with
 |some i=>rfl
 |none=>
  have hn:=tK h
  have:cy (es++ [(k,0)]) k=some es.length:=by
   unfold cy
   rw [List.findIdx?_eq_some_iff_getElem]
   refine ⟨by simp,by simp,fun j hj=> ?_⟩
   rw [List.getElem_append_left hj]
   have:=hn es[j] (List.getElem_mem hj)
   simpa using fun e=>this e.symm
  simp [l8,h,this]
def Tz (es:List (List Int × Int)) (k:List Int):List (List Int × Int):=rY (fA es k) (jX es k) (l8 es k+1)
def Jv (p:Pt) (ks:List (List Int)):List (List Int):=if [p.1,p.2]∈ks then ks else ks++ [[p.1,p.2]]
def BE (n:Int) (es:List (List Int × Int)):Prop:=∀p∈es,0≤p.2∧p.2≤n
end Go.Ab
end
section
namespace Go.Ab
open Go.Proofs
attribute [local congr] ACall.congr gd.congr Nx.congr
set_option maxRecDepth 10000
set_option maxHeartbeats 4000000
attribute [go_sem] mval_touch
def K1 (a _b c d:Pt):List (List Int):=if Ju c d a=true then Jv a [] else []
def K2 (a b c d:Pt):List (List Int):=if Ju c d b=true then Jv b (K1 a b c d) else K1 a b c d
def K3 (a b c d:Pt):List (List Int):=if Ju a b c=true then Jv c (K2 a b c d) else K2 a b c d
def K4 (a b c d:Pt):List (List Int):=if Ju a b d=true then Jv d (K3 a b c d) else K3 a b c d
def Ru (a b c d:Pt):Int:=
 if vQ a∧vQ b∧vQ c∧vQ d then
  if 0<(K4 a b c d).length then min ((K4 a b c d).length:Int) 2
  else if sd a b c*sd a b d<0∧sd c d a*sd c d b<0 then 1 else 0
 else 0
def RS (A B C:List (List Int)) (p:Nat × List (List Int × Int)) (n:Int):Prop:=
 (p.1=0∧p.2.map (·.1)=A∧BE n p.2)∨(p.1=1∧p.2.map (·.1)=B∧BE (n+1) p.2)∨(p.1=2∧p.2.map (·.1)=C∧BE (n+2) p.2)
def bx (p:Pt):AObj:= .box [.d (.sc (.int .i64 p.1)), .d (.sc (.int .i64 p.2))]
attribute [go_sem] bx
def Ux (a b c d:Pt) (i:Nat × List (List Int × Int)):ASt:=
 ⟨[(9, .mref 21),(4, .ptr 4 0),(5, .ptr 5 0),(6, .ptr 6 0),(7, .ptr 7 0),(24, .agg [eN a.1,eN a.2,eN b.1,eN b.2]),(25,eN i.1)],
   [(4,bx a),(5,bx b),(6,bx c),(7,bx d),(21, .mp 2 i.2)]⟩
def Uy (a b c d:Pt) (i:Nat × List (List Int × Int)):ASt:=
 ⟨[(9, .mref 21),(4, .ptr 4 0),(5, .ptr 5 0),(6, .ptr 6 0),(7, .ptr 7 0),(41, .agg [eN c.1,eN c.2,eN d.1,eN d.2]),(42,eN i.1)],
   [(4,bx a),(5,bx b),(6,bx c),(7,bx d),(21, .mp 2 i.2)]⟩
end Go.Ab
end
section
namespace Go.Ab
open Go.Proofs
attribute [local congr] ACall.congr gd.congr Nx.congr
set_option maxRecDepth 10000
def key (p:Pt):List Int:= [p.1,p.2]
def Uz (a b c d p:Pt):Prop:=(Ju c d a=true∧p=a)∨(Ju c d b=true∧p=b)∨(Ju a b c=true∧p=c)∨(Ju a b d=true∧p=d)
def Rv (a b c d:Pt):Int:=if 0<(K4 a b c d).length then min ((K4 a b c d).length:Int) 2 else if sd a b c*sd a b d<0∧sd c d a*sd c d b<0 then 1 else 0
section
variable {a b:Pt}
end
end Go.Ab
end
section
namespace Go.Ab
open Go.Proofs
attribute [local congr] ACall.congr gd.congr Nx.congr
set_option maxRecDepth 10000
abbrev Pc:=Pt × Pt
def rQ (q:Pc):List D:= [.sc (.int .i64 q.1.1), .sc (.int .i64 q.1.2), .sc (.int .i64 q.2.1), .sc (.int .i64 q.2.2)]
def eQ (q:Pc):AV:= .agg [.d (.sc (.int .i64 q.1.1)), .d (.sc (.int .i64 q.1.2)), .d (.sc (.int .i64 q.2.1)), .d (.sc (.int .i64 q.2.2))]
def sQ (qs:List Pc):D:= .sl 4 (qs.map rQ)
def sP (ps:List Pt):D:= .sl 2 (ps.map rP)
def vP (ls:List (List Pt)):List (List D):=ls.map fun l=> [sP l]
def sLn (ls:List (List Pt)):D:= .sl 1 (vP ls)
def eLn (l:List Pt):AV:= .d (sP l)
theorem getD_rQ (ps:List Pc) (i:Nat):(ps.map rQ).getD i [.sc (.int .i64 0), .sc (.int .i64 0), .sc (.int .i64 0), .sc (.int .i64 0)]=rQ (ps.getD i ((0,0),(0,0))):=by
 simp only [List.getD_eq_getElem?_getD,List.getElem?_map]
 cases ps[i]? <;>rfl
theorem rQ_eq (q:Pc):rQ q= [.sc (.int .i64 q.1.1), .sc (.int .i64 q.1.2), .sc (.int .i64 q.2.1), .sc (.int .i64 q.2.2)]:=rfl
theorem vP_length (ls:List (List Pt)):(vP ls).length=ls.length:=by simp [vP]
theorem vP_getD (ls:List (List Pt)) (i:Nat):(vP ls).getD i [.sl 2 []]= [sP (ls.getD i [])]:=by
 simp only [vP,List.getD_eq_getElem?_getD,List.getElem?_map]
 cases ls[i]? <;>rfl
attribute [go_sem] getD_rQ rQ_eq eQ sQ sP sLn eLn vP_length vP_getD
end Go.Ab
end
section
namespace Go.Ab
open Go.Proofs
attribute [local congr] ACall.congr gd.congr Nx.congr
set_option maxRecDepth 10000
structure Dr where
 pts:List Pt
 ls:List (List Pt)
def eDr (d:Dr):AV:= .agg [.d (sP d.pts), .d (sLn d.ls)]
def lkO (g:Gr) (d:Dr):AObj:= .rob [eN g.n, .d (sE g.es), .d (sP d.pts), .d (sLn d.ls)]
attribute [go_sem] eDr lkO
def TA (l:List Pt) (k:Nat):List Pc:=(List.range k).map fun i=>(l.getD i (0,0),l.getD (i+1) (0,0))
def Rw (l:List Pt):List Pc:=TA l (l.length - 1)
def robPt (p:Pt):List (Nat × AObj):= [(10000, .rob [eN p.1,eN p.2])]
attribute [go_sem] robPt
def TB (l:List Pt) (p:Pt):Bool:=(Rw l).any fun q=>Ty q.1 q.2 p
def Rx (l:List Pt):Bool:= !(Rw l).any fun q=>decide (q.2.2≤q.1.2)
structure NC (g:Gr) (d:Dr):Prop where
 may:aM g=true
 np:(d.pts.length:Int)=g.n
 nl:d.ls.length=g.es.length
 qB:∀l∈d.ls,2≤l.length∧l.length≤8
theorem NC.line {g:Gr} {d:Dr} (h:NC g d) {i:Nat} (hi:i<g.es.length):2≤(d.ls.getD i []).length∧(d.ls.getD i []).length≤8:=h.qB _ (aE (by rw [h.nl];exact hi))
def TC (g:Gr) (d:Dr) (i:Nat):Bool:=decide ((d.ls.getD i []).getD 0 (0,0)=d.pts.getD (g.es.getD i (0,0)).1.toNat (0,0))&&decide ((d.ls.getD i []).getD ((d.ls.getD i []).length - 1) (0,0)=d.pts.getD (g.es.getD i (0,0)).2.toNat (0,0))
def TD (l:List Pt) (x:Pt):Int:=bX (fun y=>decide (x=y)) l
def Qt (d:Dr) (x:Nat):Bool:= !decide (d.pts.getD x (0,0)∈d.pts.take x)
def ND (g:Gr) (d:Dr) (i k:Nat):Bool:=(List.range k).all fun x=>decide ((x:Int)=(g.es.getD i (0,0)).1)||decide ((x:Int)=(g.es.getD i (0,0)).2)|| !TB (d.ls.getD i []) (d.pts.getD x (0,0))
def Ry (g:Gr) (d:Dr) (i:Nat):Bool:=ND g d i d.pts.length
end Go.Ab
end
section
namespace Go.Ab
open Go.Proofs
attribute [local congr] ACall.congr gd.congr Nx.congr
set_option maxRecDepth 20000
set_option maxHeartbeats 8000000
def E4 (xs ys:List Int) (v:Nat):Pt:=(xs.getD v 0,ys.getD v 0)
def A2 (N:Int) (bs xs ys:List Int) (i:Nat):List Pt:=if (i:Int)∈bs then [E4 xs ys (N+(bs.idxOf (i:Int):Nat)).toNat] else []
def Ib (g:Gr) (N:Int) (bs xs ys:List Int) (i:Nat):List Pt:=E4 xs ys (tl g i).toNat::(A2 N bs xs ys i++ [E4 xs ys (hd g i).toNat])
def oU (xs ys:List Int) (k:Nat):List Pt:=(List.range k).map (E4 xs ys)
def mq (g:Gr) (N:Int) (bs xs ys:List Int) (k:Nat):List (List Pt):=(List.range k).map (Ib g N bs xs ys)
def J4 (g:Gr) (N:Int) (bs xs ys:List Int):Dr:=⟨oU xs ys g.n.toNat,mq g N bs xs ys g.es.length⟩
theorem HL {xs ys:List Int} {k:Nat} :oU xs ys (k+1)=oU xs ys k++ [E4 xs ys k]:=by simp [oU,List.range_succ]
theorem s9 {xs ys:List Int} {k:Nat} :(oU xs ys k).length=k:=by simp [oU]
theorem HM {g:Gr} {N:Int} {bs xs ys:List Int} {k:Nat} :mq g N bs xs ys (k+1)=mq g N bs xs ys k++ [Ib g N bs xs ys k]:=by simp [mq,List.range_succ]
theorem yY {g:Gr} {N:Int} {bs xs ys:List Int} {k:Nat} :(mq g N bs xs ys k).length=k:=by simp [mq]
def dz:Dr:=⟨[], []⟩
noncomputable def ql (g:Gr) (p:Pl) (rev:Bool):List Int:=dS (aO (ag g p) (dU (ag g p))) (sx (ag g p) (bC g p) (dU (ag g p))) rev ((ag g p).n+(dU (ag g p)).length).toNat
noncomputable def mV (b:Bool) (g:Gr) (p:Pl):Dr × Int:=
 if (lR b g p).2.2≠0 then (dz,(lR b g p).2.2) else if 64<(ag g p).n+(dU (ag g p)).length∨128<(ag g p).es.length+(dU (ag g p)).length then (dz,10) else (J4 g (ag g p).n (dU (ag g p)) (ql g p false) (ql g p true),0)
theorem A3 {g:Gr} {p:Pl} (h:aR g p):p.ord.length≤64∧p.outs.length≤64∧∀l∈p.outs,l.length≤128:=by
 have hn:=aH (an h.1)
 have h1:=aS h.2.1
 have h2:=h.2.1.1
 refine ⟨by omega,by omega,fun l hl=> ?_⟩
 obtain ⟨k,hk,rfl⟩:=List.mem_iff_getElem.1 hl
 have h3:=(h.2.1.2.2 k (by omega)).length_eq
 rw [List.getD_eq_getElem?_getD,List.getElem?_eq_getElem hk,Option.getD_some] at h3
 have h4:(aZ g (k:Int)).length≤g.es.length:=gJ
 omega
theorem ta {g:Gr} {p:Pl} (h:aR g p):l6 p:=by
 obtain ⟨h1,h2,h3⟩:=A3 h
 exact ⟨by omega,by omega,fun l hl=>by have:=h3 l hl;omega⟩
theorem gu {g:Gr} {p:Pl} (h:aR g p):(true=true)↔(bR g).1=0∧aX g p:=⟨fun _=>⟨h.1,h.2.1⟩,fun _=>rfl⟩
structure Room (g:Gr) (p:Pl):Prop where
 ok:iF g p
 h1:(ag g p).n+(dU (ag g p)).length≤64
 h2:(ag g p).es.length+(dU (ag g p)).length≤128
theorem HN {g:Gr} {p:Pl} (h:Room g p):aR (aO (ag g p) (dU (ag g p))) (sx (ag g p) (bC g p) (dU (ag g p))):=qd (fu h.ok) qR (nJ (fu h.ok) qR) h.h1 h.h2
theorem Jw {g:Gr} {p:Pl} (h:Room g p):xp (aO (ag g p) (dU (ag g p)))=true:=Ll (fu h.ok) qR (nJ (fu h.ok) qR) h.h1 h.h2 (Hq h.ok)
theorem A4 {b:Bool} {g:Gr} {p:Pl} (hr:b=true↔(bR g).1=0∧aX g p) (h:(mV b g p).2=0):Room g p∧mV b g p=(J4 g (ag g p).n (dU (ag g p)) (ql g p false) (ql g p true),0):=by
 unfold mV at h ⊢
 split at h
 ·rename_i hc;exact absurd h hc
 rename_i h0
 split at h
 ·cases h
 rename_i h1
 rw [if_neg h0,if_neg h1]
 have h0:(lR b g p).2.2=0:=by simpa using h0
 exact ⟨⟨(Dl hr h0).1,by omega,by omega⟩,rfl⟩
theorem Dt {g:Gr} {p:Pl} {rev:Bool} :(ql g p rev).length=((ag g p).n+(dU (ag g p)).length).toNat:=by unfold ql;exact qG
theorem A5 {g:Gr} {bs:List Int} (hb:bs.Nodup) {i:Int} :cy (mo g bs bs.length) [i]=if i∈bs then some (bs.idxOf i) else none:=by
 by_cases h:i∈bs
 ·rw [if_pos h]
  obtain ⟨h1,h2⟩:=vm h
  unfold cy
  rw [List.findIdx?_eq_some_iff_getElem]
  refine ⟨by simp [mo,h1], ?_,fun j hj=> ?_⟩
  ·simp only [mo,List.getElem_map,List.getElem_range,decide_eq_true_eq,h2]
  ·simp only [mo,List.getElem_map,List.getElem_range,decide_eq_true_eq]
   intro e
   have e:i=bs.getD j 0:=by simpa using e
   have:=gn hb (i:=j) (by omega)
   rw [← e] at this
   omega
 ·rw [if_neg h]
  unfold cy
  rw [List.findIdx?_eq_none_iff]
  intro q hq
  obtain ⟨j,hj,rfl⟩:=mT.1 hq
  rw [decide_eq_false_iff_not]
  intro e
  have e:i=bs.getD j 0:=by simpa using e
  rw [e] at h
  exact h (aE hj)
theorem Jy {g:Gr} {bs:List Int} (hb:bs.Nodup) {i:Int} (h:i∈bs):l8 (mo g bs bs.length) [i]=g.n+(bs.idxOf i:Nat):=by
 unfold l8
 rw [A5 hb,if_pos h]
 have:=(vm h).1
 simp [mo,List.getElem?_range this]
end Go.Ab
end
section
namespace Go.Ab
open Go.Proofs
attribute [local congr] ACall.congr gd.congr Nx.congr
set_option maxRecDepth 20000
set_option maxHeartbeats 8000000
theorem Jz (xs ys:List Int) (v:Nat) (h1:v<xs.length) (h2:v<ys.length) (hx:xs.length≤1000) (hy:ys.length≤1000):Spec Tryz.prog 77 (Args [eN v, .ptr 10001 0, .ptr 10002 0]) [(10001, .rob [.d (sI xs)]),(10002, .rob [.d (sI ys)])] (.agg [eN (xs.getD v 0),eN (ys.getD v 0)]) [(10001, .rob [.d (sI xs)]),(10002, .rob [.d (sI ys)])]:=by
 (refine Spec.hd (C:=T.cfg [] []) (rs:= [.c 4 71]) (T.aj _ _) Tryz.func77 rfl rfl Tryz.ntmps77 Tryz.results77 (by simp [AObj.isNest]) (by simp [AObj.isNest]) (by kernel_rfl) T.mixed fun X hX hP hC aJ b7=> ?_)
 repeat' (first|refine Rn.p ?_|(with_reducible apply And.intro)|((first|(refine hK _ ?_;clear hK K)|with_reducible intro K hK|refine Rs.p ?_|((with_reducible first|apply oP|apply oQ);exact rfl));try simp only [go_sem,simprocAttr])|((with_reducible refine oD ?_ ?_);kernel_rfl)|((with_reducible intro h);try simp only [go_sem,simprocAttr] at h)|omega|intro h)
end Go.Ab
end
section
namespace Go.Ab
open Go.Proofs
attribute [local congr] ACall.congr gd.congr Nx.congr
set_option maxRecDepth 20000
set_option maxHeartbeats 16000000
theorem qT (g:Gr) (hl:g.es.length≤1000) (p:Pl) (hp:l6 p) (hp1:p.ord.length≤1000) (hp2:p.outs.length≤1000) (Qb:∀l∈p.outs,l.length≤1000) (b:Bool) (hr:b=true↔(bR g).1=0∧aX g p):
 Spec Tryz.prog 33 (Args [eG g,ePl p]) [] (.tup [eDr (mV b g p).1,eN (mV b g p).2]) []:=by
 have Og:=yM g hl p hp hp1 hp2 Qb b hr
 by_cases h0:(lR b g p).2.2=0
 rotate_left
 ·have NF:mV b g p=(dz,(lR b g p).2.2):=if_pos h0
  have hb0:decide ((lR b g p).2.2=0)=false:=decide_eq_false h0
  rw [NF]
  (refine Spec.hd (C:=T.cfg [] []) (rs:= [.c 4 28, .t 5]) (T.aj _ _) Tryz.func33 rfl rfl Tryz.ntmps33 Tryz.results33 (by simp [AObj.isNest]) (by simp [AObj.isNest]) (by kernel_rfl) T.mixed fun X hX hP hC aJ b7=> ?_)
  repeat' (first|refine Rn.p ?_|(with_reducible apply And.intro)|((first|(refine hK _ ?_;clear hK K)|with_reducible intro K hK|refine Rs.p ?_|((with_reducible first|apply oP|apply oQ);exact rfl)|refine aa hX hC hP (Og) rfl rfl rfl (by simp only [go_sem,simprocAttr,hb0,dz]) rfl ?_);try simp only [go_sem,simprocAttr,hb0,dz])|((with_reducible refine oD ?_ ?_);kernel_rfl)|((with_reducible intro h);try simp only [go_sem,simprocAttr,hb0,dz] at h)|omega|intro h)
  all_goals rfl
 obtain ⟨hO,hE⟩:=Dl hr h0
 rw [hE] at Og
 have LW:=fu hO
 have Rz:=Hq hO
 have TE:(bH true (ag g p) (bC g p)).2.1=0:=by rw [lT (gu LW) LW]
 by_cases h1:64<(ag g p).n+(dU (ag g p)).length∨128<(ag g p).es.length+(dU (ag g p)).length
 ·have NF:mV b g p=(dz,10):=by unfold mV;rw [if_neg (by rw [h0];simp),if_pos h1]
  have hN:=Cm (ag g p) (by have:=hO.es;omega) (bC g p) (ta LW) true (gu LW) TE Rz h1
  rw [NF]
  (refine Spec.hd (C:=T.cfg [] []) (rs:= [.c 4 28, .t 5]) (T.aj _ _) Tryz.func33 rfl rfl Tryz.ntmps33 Tryz.results33 (by simp [AObj.isNest]) (by simp [AObj.isNest]) (by kernel_rfl) T.mixed fun X hX hP hC aJ b7=> ?_)
  repeat' (first|refine Rn.p ?_|(with_reducible apply And.intro)|((first|(refine hK _ ?_;clear hK K)|with_reducible intro K hK|refine Rs.p ?_|((with_reducible first|apply oP|apply oQ);exact rfl)|refine aa hX hC hP (Og) rfl rfl rfl (by simp only [go_sem,simprocAttr,dz]) rfl ?_|refine aa hX hC hP (hN) rfl rfl rfl (by simp only [go_sem,simprocAttr,dz]) rfl ?_);try simp only [go_sem,simprocAttr,dz])|((with_reducible refine oD ?_ ?_);kernel_rfl)|((with_reducible intro h);try simp only [go_sem,simprocAttr,dz] at h)|omega|intro h)
  all_goals rfl
 have NF:mV b g p=(J4 g (ag g p).n (dU (ag g p)) (ql g p false) (ql g p true),0):=by unfold mV;rw [if_neg (by rw [h0];simp),if_neg h1]
 have RA:Room g p:=⟨hO,by omega,by omega⟩
 rw [NF]
 have hN:=E1 (ag g p) (by have:=hO.es;omega) (bC g p) (ta LW) LW Rz (dU (ag g p)) rfl (by omega) (by omega)
 have Oh:=HN RA
 have hk:=Cj (aO (ag g p) (dU (ag g p))) (by rw [gT];omega) (sx (ag g p) (bC g p) (dU (ag g p))) (ta Oh) true (gu Oh)
 have vV:Lq true (aO (ag g p) (dU (ag g p))) (sx (ag g p) (bC g p) (dU (ag g p)))=(ql g p false,ql g p true,0):=if_pos ⟨by rw [lT (gu Oh) Oh],Jw RA⟩
 rw [vV] at hk
 simp only at hk
 have hm:=an hO.run.1
 have hn:=aH hm
 have Q5:=jA (g:=g) (p:=p)
 have lx:(ql g p false).length=((ag g p).n+(dU (ag g p)).length).toNat:=Dt
 have ly:(ql g p true).length=((ag g p).n+(dU (ag g p)).length).toNat:=Dt
 have gv:=qR (g:=ag g p)
 have hfind:=fun i=>A5 (g:=ag g p) gv.nd (i:=i)
 have hval:=fun i hi=>Jy (g:=ag g p) gv.nd (i:=i) hi
 have P8:∀i∈dU (ag g p),(dU (ag g p)).idxOf i<(dU (ag g p)).length:=fun i hi=>(vm hi).1
 generalize ql g p false=xs at*
 generalize ql g p true=ys at*
 generalize dU (ag g p)=bs at*
 have eZ:aO (ag g p) bs=⟨(ag g p).n+bs.length,iw (ag g p) bs⟩:=rfl
 have NV:sx (ag g p) (bC g p) bs=⟨eY (ag g p) bs bs.length (bC g p).ord,(bC g p).outs++iO (ag g p) bs.length⟩:=rfl
 rw [eZ,NV] at hk
 have UA:(ag g p).n≤64:=hO.n
 generalize mo (ag g p) bs bs.length=aq at*
 generalize iw (ag g p) bs=E at*
 generalize eY (ag g p) bs bs.length (bC g p).ord=RO at*
 generalize (bC g p).outs++iO (ag g p) bs.length=RL at*
 generalize bC g p=AP at*
 obtain ⟨AN,A6⟩:∃AN:Nat,(ag g p).n=AN:=⟨(ag g p).n.toNat,by omega⟩
 generalize UB:ag g p=A at*
 have qj:∀v:Nat,v<AN+bs.length→Spec Tryz.prog 77 (Args [eN v, .ptr 10001 0, .ptr 10002 0]) [(10001, .rob [.d (sI xs)]),(10002, .rob [.d (sI ys)])] (.agg [eN (xs.getD v 0),eN (ys.getD v 0)]) [(10001, .rob [.d (sI xs)]),(10002, .rob [.d (sI ys)])]:=fun v hv=>Jz xs ys v (by omega) (by omega) (by omega) (by omega)
 (refine Spec.hd (C:=T.cfg [] []) (rs:= [.c 4 28, .t 5]) (T.aj _ _) Tryz.func33 rfl rfl Tryz.ntmps33 Tryz.results33 (by simp [AObj.isNest]) (by simp [AObj.isNest]) (by kernel_rfl) T.mixed fun X hX hP hC aJ b7=> ?_)
 repeat' (first|(show bW _ (.seq (.region 7 _ _) _) _ _;(refine cn hX 301 rfl (.inl rfl) ?_;simp only [go_sem,simprocAttr,jJ,A6]);(refine cn hX 302 rfl (.inl rfl) ?_;simp only [go_sem,simprocAttr,jJ,A6]);(refine cn hX 303 rfl (.inl rfl) ?_;simp only [go_sem,simprocAttr,jJ,A6]))|(show bW _ (.seq (.region 10 _ _) _) _ _;(refine ga hX 14 0 401 (.tip 71 2 []) rfl rfl rfl (by simp only [go_sem,simprocAttr,jJ,A6]) (by decide) (by simp [go_sem,simprocAttr,jJ,A6]) ⟨71,2,by decide, .inr rfl⟩ ?_;simp only [List.set_cons_zero,List.set_cons_succ,go_sem,simprocAttr,jJ,A6]);(refine ga hX 14 1 402 (.tip 25 1 []) rfl rfl rfl (by simp only [go_sem,simprocAttr,jJ,A6]) (by decide) (by simp [go_sem,simprocAttr,jJ,A6]) ⟨25,1,by decide, .inr rfl⟩ ?_;simp only [List.set_cons_zero,List.set_cons_succ,go_sem,simprocAttr,jJ,A6]))|refine Rn.p ?_|(with_reducible apply And.intro)|((first|(refine hK _ ?_;clear hK K)|with_reducible intro K hK|refine Rs.p ?_|((with_reducible first|apply oP|apply oQ);exact rfl)|refine aa hX hC hP (Og) rfl rfl rfl (by simp only [go_sem,simprocAttr,jJ,A6]) rfl ?_|(refine au hX hC hP [(10000,300),(10001,301),(10002,302),(10003,303),(10004,304)] (hN) rfl rfl rfl ?_ ?_ ?_ ?_ ?_ ?_ ?_ ?_ ?_ ?_ ?_ ?_ ?_ ?_;(focus (simp only [go_sem,simprocAttr,jJ,A6];done));(iterate 12 (focus (simp [go_sem,simprocAttr,jJ,A6];done)));try simp only [List.map_cons,List.map_nil])|(refine cE hX hC hP (hk) rfl rfl rfl ?_ ?_ rfl ?_;iterate 2 (focus (simp only [go_sem,simprocAttr,jJ,A6];done))));try simp only [go_sem,simprocAttr,jJ,A6])|((with_reducible refine oD ?_ ?_);kernel_rfl)|((with_reducible intro h);try simp only [go_sem,simprocAttr,jJ,A6] at h)|omega|intro h)
 refine ah (fun k:Nat=>k≤g.n.toNat) (fun k=>⟨[(2, .ptr 2 0),(4, .ptr 4 0),(5,eN 0),(9, .ptr 300 0),(13, .fn 77 [] [.ptr 10 0, .ptr 11 0]),(14, .ptr 14 0),(58,eN g.n),(59,eN k)], [(2, .box [eN g.n, .d (sE g.es)]),(4, .box [.nil 71, .nil 25]),(10, .box [.d (sI xs)]),(11, .box [.d (sI ys)]),(14, .box [.ref 401, .ref 402]),(300, .box [eN ((AN:Int)+(bs.length:Int)), .d (sE E), .d (sI RO), .d (.sl 1 (vI RL)), .mref 304]),(304, .mp 0 aq),(401, .tip 71 2 ((oU xs ys k).map rP)),(402, .tip 25 1 [])]⟩) (fun k=>g.n.toNat - k) 0 (by omega) ?_ ?_
 ·refine Le.of ?_ ?_<;>simp [go_sem,simprocAttr,oU,A6]
 rintro k hk
 rcases Nat.lt_or_ge k g.n.toNat with hlt|hge
 ·have hb:decide ((k:Int)<g.n)=true:=decide_eq_true (by omega)
  have hc:=qj k (by omega)
  have b9:=HL (xs:=xs) (ys:=ys) (k:=k)
  have dM:=s9 (xs:=xs) (ys:=ys) (k:=k)
  generalize NG:oU xs ys (k+1)=P2 at b9
  generalize oU xs ys k=P1 at b9 dM
  repeat' (first|(show bW _ (.region 14 _ _) _ _;(refine c7 hX 14 0 68 401 rfl rfl rfl (by first|exact .inl rfl|exact .inr rfl) (by decide) (by decide) ?_;simp only [List.set_cons_zero,List.set_cons_succ,go_sem,simprocAttr,hb,dM]))|refine Rn.p ?_|(with_reducible apply And.intro)|((first|(refine hK _ ?_;clear hK K)|with_reducible intro K hK|refine Rs.p ?_|((with_reducible first|apply oP|apply oQ);exact rfl)|(refine aI hX hC hP [(10001,10),(10002,11)] (hc) rfl rfl rfl ?_ ?_ ?_ ?_ ?_ ?_ rfl rfl ?_ ?_;(focus (simp only [go_sem,simprocAttr,hb,dM];done));(iterate 6 (focus (simp [go_sem,simprocAttr,hb,dM];done)));try simp only [List.map_cons,List.map_nil]));try simp only [go_sem,simprocAttr,hb,dM])|((with_reducible refine oD ?_ ?_);kernel_rfl)|((with_reducible intro h);try simp only [go_sem,simprocAttr,hb,dM] at h)|omega|intro h)
  refine ⟨k+1,by omega, ?_,by omega⟩
  rw [NG,b9]
  refine Le.of ?_ ?_<;>simp [go_sem,simprocAttr,hb,dM,E4,rP]
 have hb:decide ((k:Int)<g.n)=false:=decide_eq_false (by omega)
 obtain rfl:k=g.n.toNat:=by omega
 repeat' (first|refine Rn.p ?_|(with_reducible apply And.intro)|((first|(refine hK _ ?_;clear hK K)|with_reducible intro K hK|refine Rs.p ?_|((with_reducible first|apply oP|apply oQ);exact rfl));try simp only [go_sem,simprocAttr,hb])|((with_reducible refine oD ?_ ?_);kernel_rfl)|((with_reducible intro h);try simp only [go_sem,simprocAttr,hb] at h)|omega|intro h)
 have TF:J4 g (AN:Int) bs xs ys=⟨oU xs ys g.n.toNat,mq g (AN:Int) bs xs ys g.es.length⟩:=rfl
 have dM:=s9 (xs:=xs) (ys:=ys) (k:=g.n.toNat)
 rw [TF]
 generalize oU xs ys g.n.toNat=PT at dM
 refine ah (fun i:Nat=>i≤g.es.length) (fun i=>⟨[(2, .ptr 2 0),(4, .ptr 4 0),(5,eN 0),(9, .ptr 300 0),(13, .fn 77 [] [.ptr 10 0, .ptr 11 0]),(14, .ptr 14 0),(72, .d (sE g.es)),(73,eN g.es.length),(74,eN i)], [(2, .box [eN g.n, .d (sE g.es)]),(4, .box [.nil 71, .nil 25]),(10, .box [.d (sI xs)]),(11, .box [.d (sI ys)]),(14, .box [.ref 401, .ref 402]),(300, .box [eN ((AN:Int)+(bs.length:Int)), .d (sE E), .d (sI RO), .d (.sl 1 (vI RL)), .mref 304]),(304, .mp 0 aq),(401, .tip 71 2 (PT.map rP)),(402, .tip 25 1 (vP (mq g (AN:Int) bs xs ys i)))]⟩) (fun i=>g.es.length - i) 0 (by omega) ?_ ?_
 ·refine Le.of ?_ ?_<;>simp [go_sem,simprocAttr,mq,vP]
 rintro i hi
 rcases Nat.lt_or_ge i g.es.length with hil|KU
 ·have hb:decide ((i:Int)<(g.es.length:Int))=true:=decide_eq_true (by omega)
  have t1:=bg hm hil
  have t2:=bF hm hil
  obtain ⟨u,hu⟩:∃u:Nat,(g.es.getD i (0,0)).1=u:=⟨(g.es.getD i (0,0)).1.toNat,by have:=t1.1;unfold tl at this;omega⟩
  obtain ⟨w,hw⟩:∃w:Nat,(g.es.getD i (0,0)).2=w:=⟨(g.es.getD i (0,0)).2.toNat,by have:=t2.1;unfold hd at this;omega⟩
  have RB:tl g i=u:=hu
  have Oi:hd g i=w:=hw
  have hc1:=qj u (by omega)
  have CU:=qj w (by omega)
  have b9:=HM (g:=g) (N:=(AN:Int)) (bs:=bs) (xs:=xs) (ys:=ys) (k:=i)
  have iI:=yY (g:=g) (N:=(AN:Int)) (bs:=bs) (xs:=xs) (ys:=ys) (k:=i)
  have Oj:∀l1 l2,vP (l1++ [l2])=vP l1++ [[sP l2]]:=fun l1 l2=>by simp [vP]
  have wm:=hfind (i:Int)
  generalize Ol:mq g (AN:Int) bs xs ys (i+1)=L2 at b9
  generalize mq g (AN:Int) bs xs ys i=L1 at b9 iI
  by_cases hin:(i:Int)∈bs
  ·rw [if_pos hin] at wm
   have E5:=hval (i:Int) hin
   have hq:=P8 (i:Int) hin
   have Ef:Ib g (AN:Int) bs xs ys i= [E4 xs ys u,E4 xs ys (AN+bs.idxOf (i:Int)),E4 xs ys w]:=by
    unfold Ib A2
    rw [if_pos hin,RB,Oi,Int.toNat_natCast,Int.toNat_natCast,show ((AN:Int)+(bs.idxOf (i:Int):Nat)).toNat=AN+bs.idxOf (i:Int) by omega]
    rfl
   generalize bs.idxOf (i:Int)=q at wm E5 hq Ef
   rw [A6,show (AN:Int)+(q:Int)=((AN+q:Nat):Int) by omega] at E5
   have IW:=qj (AN+q) (by omega)
   generalize AN+q=qq at E5 Ef IW
   repeat' (first|(show bW _ (.region 23 _ _) _ _;(refine c7 hX 14 1 110 402 rfl rfl rfl (by first|exact .inl rfl|exact .inr rfl) (by decide) (by decide) ?_;simp only [List.set_cons_zero,List.set_cons_succ,go_sem,simprocAttr,hb,hu,hw,wm,E5,vP_length,iI,Option.isSome_some]))|refine Rn.p ?_|(with_reducible apply And.intro)|((first|(refine hK _ ?_;clear hK K)|with_reducible intro K hK|refine Rs.p ?_|((with_reducible first|apply oP|apply oQ);exact rfl)|(refine aI hX hC hP [(10001,10),(10002,11)] (hc1) rfl rfl rfl ?_ ?_ ?_ ?_ ?_ ?_ rfl rfl ?_ ?_;(focus (simp only [go_sem,simprocAttr,hb,hu,hw,wm,E5,vP_length,iI,Option.isSome_some];done));(iterate 6 (focus (simp [go_sem,simprocAttr,hb,hu,hw,wm,E5,vP_length,iI,Option.isSome_some];done)));try simp only [List.map_cons,List.map_nil])|(refine aI hX hC hP [(10001,10),(10002,11)] (CU) rfl rfl rfl ?_ ?_ ?_ ?_ ?_ ?_ rfl rfl ?_ ?_;(focus (simp only [go_sem,simprocAttr,hb,hu,hw,wm,E5,vP_length,iI,Option.isSome_some];done));(iterate 6 (focus (simp [go_sem,simprocAttr,hb,hu,hw,wm,E5,vP_length,iI,Option.isSome_some];done)));try simp only [List.map_cons,List.map_nil])|(refine aI hX hC hP [(10001,10),(10002,11)] (IW) rfl rfl rfl ?_ ?_ ?_ ?_ ?_ ?_ rfl rfl ?_ ?_;(focus (simp only [go_sem,simprocAttr,hb,hu,hw,wm,E5,vP_length,iI,Option.isSome_some];done));(iterate 6 (focus (simp [go_sem,simprocAttr,hb,hu,hw,wm,E5,vP_length,iI,Option.isSome_some];done)));try simp only [List.map_cons,List.map_nil]));try simp only [go_sem,simprocAttr,hb,hu,hw,wm,E5,vP_length,iI,Option.isSome_some])|((with_reducible refine oD ?_ ?_);kernel_rfl)|((with_reducible intro h);try simp only [go_sem,simprocAttr,hb,hu,hw,wm,E5,vP_length,iI,Option.isSome_some] at h)|omega|intro h)
   refine ⟨i+1,by omega, ?_,by omega⟩
   rw [Ol,b9,Ef,Oj]
   refine Le.of ?_ ?_<;>simp [go_sem,simprocAttr,hb,hu,hw,wm,E5,vP_length,iI,Option.isSome_some,E4,rP,sP]
  ·rw [if_neg hin] at wm
   have Ef:Ib g (AN:Int) bs xs ys i= [E4 xs ys u,E4 xs ys w]:=by
    unfold Ib A2
    rw [if_neg hin,RB,Oi,Int.toNat_natCast,Int.toNat_natCast]
    rfl
   repeat' (first|(show bW _ (.region 23 _ _) _ _;(refine c7 hX 14 1 110 402 rfl rfl rfl (by first|exact .inl rfl|exact .inr rfl) (by decide) (by decide) ?_;simp only [List.set_cons_zero,List.set_cons_succ,go_sem,simprocAttr,hb,hu,hw,wm,vP_length,iI,Option.isSome_none]))|refine Rn.p ?_|(with_reducible apply And.intro)|((first|(refine hK _ ?_;clear hK K)|with_reducible intro K hK|refine Rs.p ?_|((with_reducible first|apply oP|apply oQ);exact rfl)|(refine aI hX hC hP [(10001,10),(10002,11)] (hc1) rfl rfl rfl ?_ ?_ ?_ ?_ ?_ ?_ rfl rfl ?_ ?_;(focus (simp only [go_sem,simprocAttr,hb,hu,hw,wm,vP_length,iI,Option.isSome_none];done));(iterate 6 (focus (simp [go_sem,simprocAttr,hb,hu,hw,wm,vP_length,iI,Option.isSome_none];done)));try simp only [List.map_cons,List.map_nil])|(refine aI hX hC hP [(10001,10),(10002,11)] (CU) rfl rfl rfl ?_ ?_ ?_ ?_ ?_ ?_ rfl rfl ?_ ?_;(focus (simp only [go_sem,simprocAttr,hb,hu,hw,wm,vP_length,iI,Option.isSome_none];done));(iterate 6 (focus (simp [go_sem,simprocAttr,hb,hu,hw,wm,vP_length,iI,Option.isSome_none];done)));try simp only [List.map_cons,List.map_nil]));try simp only [go_sem,simprocAttr,hb,hu,hw,wm,vP_length,iI,Option.isSome_none])|((with_reducible refine oD ?_ ?_);kernel_rfl)|((with_reducible intro h);try simp only [go_sem,simprocAttr,hb,hu,hw,wm,vP_length,iI,Option.isSome_none] at h)|omega|intro h)
   refine ⟨i+1,by omega, ?_,by omega⟩
   rw [Ol,b9,Ef,Oj]
   refine Le.of ?_ ?_<;>simp [go_sem,simprocAttr,hb,hu,hw,wm,vP_length,iI,Option.isSome_none,E4,rP,sP]
 have hb:decide ((i:Int)<(g.es.length:Int))=false:=decide_eq_false (by omega)
 obtain rfl:i=g.es.length:=by omega
 repeat' (first|refine Rn.p ?_|(with_reducible apply And.intro)|((first|(refine hK _ ?_;clear hK K)|with_reducible intro K hK|refine Rs.p ?_|((with_reducible first|apply oP|apply oQ);exact rfl));try simp only [go_sem,simprocAttr,hb])|((with_reducible refine oD ?_ ?_);kernel_rfl)|((with_reducible intro h);try simp only [go_sem,simprocAttr,hb] at h)|omega|intro h)
end Go.Ab
end
section
namespace Go.Ab
open Go.Proofs
set_option maxRecDepth 10000
set_option linter.unusedSectionVars false
section
variable {g:Gr} {bs:List Int} (hm:aM g=true) (hb:sn g bs)
include hm hb
theorem yZ {i:Nat} (hi:i<g.es.length):Bn g i=true↔nV g false (oS i) (tl g i).toNat (hd g i).toNat:=by
 have t:=bg hm hi
 have d:=bF hm hi
 unfold Bn
 rw [yV (by omega),yW]
 exact ⟨fun h=>h.2,fun h=>⟨by omega,h⟩⟩
end
theorem vE {i k:Nat} :oS i k=true↔k≠i:=by
 unfold oS
 rw [Bool.not_eq_true',decide_eq_false_iff_not]
 omega
theorem JA {g:Gr} (hm:aM g=true) {i:Int} :i∈dU g↔∃k:Nat,k<g.es.length∧Bn g k=true∧i=(k:Int):=by
 unfold dU
 rw [if_pos hm]
 simp only [y5,List.mem_map,List.mem_filter,List.mem_range]
 constructor
 ·rintro ⟨j,⟨h1,h2⟩,rfl⟩;exact ⟨j,h1,h2,rfl⟩
 ·rintro ⟨j,h1,h2,rfl⟩;exact ⟨j,⟨h1,h2⟩,rfl⟩
theorem tc {g:Gr} :sn g (dU g):=by
 unfold dU
 split
 ·refine ⟨?_,fun i hi=> ?_⟩
  ·unfold y5
   exact List.Pairwise.map _ (fun a b hab=>by omega) (List.nodup_range.filter _)
  ·simp only [y5,List.mem_map,List.mem_filter,List.mem_range] at hi
   obtain ⟨j,⟨h1,_⟩,rfl⟩:=hi
   omega
 ·exact ⟨List.nodup_nil,by simp⟩
end Go.Ab
end
section
namespace Go.Ab
open Go.Proofs
attribute [local congr] ACall.congr gd.congr Nx.congr
set_option maxRecDepth 20000
set_option maxHeartbeats 8000000
theorem rV (d:Dr) (h1:d.pts.length≤9223372036854775807) (h2:d.ls.length≤9223372036854775807) (h3:∀l∈d.ls,l.length≤9223372036854775807):Spec Tryz.prog 35 (Args [eDr d,eDr d]) [] (eB true) []:=by
 (refine Spec.hd (C:=T.cfg [] []) (rs:= [.t 4]) (T.aj _ _) Tryz.func35 rfl rfl Tryz.ntmps35 Tryz.results35 (by simp [AObj.isNest]) (by simp [AObj.isNest]) (by kernel_rfl) T.mixed fun X hX hP hC aJ b7=> ?_)
 repeat' (first|refine Rn.p ?_|(with_reducible apply And.intro)|((first|(refine hK _ ?_;clear hK K)|with_reducible intro K hK|refine Rs.p ?_|((with_reducible first|apply oP|apply oQ);exact rfl));try simp only [go_sem,simprocAttr,decide_true])|((with_reducible refine oD ?_ ?_);kernel_rfl)|((with_reducible intro h);try simp only [go_sem,simprocAttr,decide_true] at h)|omega|intro h)
 refine ah (fun k:Nat=>k≤d.pts.length) (fun k=>⟨[(2, .ptr 2 0),(3, .ptr 3 0),(4,eB false),(5,eN k)], [(2, .box [.d (sP d.pts), .d (sLn d.ls)]),(3, .box [.d (sP d.pts), .d (sLn d.ls)])]⟩) (fun k=>d.pts.length - k) 0 (by omega) ?_ ?_
 ·refine Le.of ?_ ?_<;>simp [go_sem,simprocAttr,decide_true]
 rintro k hk
 rcases Nat.lt_or_ge k d.pts.length with hlt|hge
 ·have hb:decide ((k:Int)<(d.pts.length:Int))=true:=decide_eq_true (by omega)
  repeat' (first|refine Rn.p ?_|(with_reducible apply And.intro)|((first|(refine hK _ ?_;clear hK K)|with_reducible intro K hK|refine Rs.p ?_|((with_reducible first|apply oP|apply oQ);exact rfl));try simp only [go_sem,simprocAttr,decide_true,hb])|((with_reducible refine oD ?_ ?_);kernel_rfl)|((with_reducible intro h);try simp only [go_sem,simprocAttr,decide_true,hb] at h)|omega|intro h)
  refine ⟨k+1,by omega, ?_,by omega⟩
  refine Le.of ?_ ?_<;>simp [go_sem,simprocAttr,decide_true,hb]
 have hb:decide ((k:Int)<(d.pts.length:Int))=false:=decide_eq_false (by omega)
 repeat' (first|refine Rn.p ?_|(with_reducible apply And.intro)|((first|(refine hK _ ?_;clear hK K)|with_reducible intro K hK|refine Rs.p ?_|((with_reducible first|apply oP|apply oQ);exact rfl));try simp only [go_sem,simprocAttr,decide_true,hb])|((with_reducible refine oD ?_ ?_);kernel_rfl)|((with_reducible intro h);try simp only [go_sem,simprocAttr,decide_true,hb] at h)|omega|intro h)
 refine ah (fun i:Nat=>i≤d.ls.length) (fun i=>⟨[(2, .ptr 2 0),(3, .ptr 3 0),(4,eB false),(6,eN i)], [(2, .box [.d (sP d.pts), .d (sLn d.ls)]),(3, .box [.d (sP d.pts), .d (sLn d.ls)])]⟩) (fun i=>d.ls.length - i) 0 (by omega) ?_ ?_
 ·refine Le.of ?_ ?_<;>simp [go_sem,simprocAttr,decide_true,hb]
 rintro i hi
 rcases Nat.lt_or_ge i d.ls.length with hil|KU
 ·have hb2:decide ((i:Int)<(d.ls.length:Int))=true:=decide_eq_true (by omega)
  have N4:=vP_getD d.ls i
  have Qu:=h3 _ (aE (d:= []) hil)
  generalize hl:d.ls.getD i []=l at N4 Qu
  repeat' (first|refine Rn.p ?_|(with_reducible apply And.intro)|((first|(refine hK _ ?_;clear hK K)|with_reducible intro K hK|refine Rs.p ?_|((with_reducible first|apply oP|apply oQ);exact rfl));try simp only [go_sem,simprocAttr,decide_true,hb2,hl,vP_length])|((with_reducible refine oD ?_ ?_);kernel_rfl)|((with_reducible intro h);try simp only [go_sem,simprocAttr,decide_true,hb2,hl,vP_length] at h)|omega|intro h)
  refine ah (fun j:Nat=>j≤l.length) (fun j=>⟨[(2, .ptr 2 0),(3, .ptr 3 0),(4,eB false),(6,eN i),(7,eN j)], [(2, .box [.d (sP d.pts), .d (sLn d.ls)]),(3, .box [.d (sP d.pts), .d (sLn d.ls)])]⟩) (fun j=>l.length - j) 0 (by omega) ?_ ?_
  ·refine Le.of ?_ ?_<;>simp [go_sem,simprocAttr,decide_true,hb2,hl,vP_length]
  rintro j hj
  rcases Nat.lt_or_ge j l.length with hjl|N0
  ·have hb3:decide ((j:Int)<(l.length:Int))=true:=decide_eq_true (by omega)
   repeat' (first|refine Rn.p ?_|(with_reducible apply And.intro)|((first|(refine hK _ ?_;clear hK K)|with_reducible intro K hK|refine Rs.p ?_|((with_reducible first|apply oP|apply oQ);exact rfl));try simp only [go_sem,simprocAttr,decide_true,hb2,hl,vP_length,hb3])|((with_reducible refine oD ?_ ?_);kernel_rfl)|((with_reducible intro h);try simp only [go_sem,simprocAttr,decide_true,hb2,hl,vP_length,hb3] at h)|omega|intro h)
   refine ⟨j+1,by omega, ?_,by omega⟩
   refine Le.of ?_ ?_<;>simp [go_sem,simprocAttr,decide_true,hb2,hl,vP_length,hb3]
  have hb3:decide ((j:Int)<(l.length:Int))=false:=decide_eq_false (by omega)
  repeat' (first|refine Rn.p ?_|(with_reducible apply And.intro)|((first|(refine hK _ ?_;clear hK K)|with_reducible intro K hK|refine Rs.p ?_|((with_reducible first|apply oP|apply oQ);exact rfl));try simp only [go_sem,simprocAttr,decide_true,hb2,hl,vP_length,hb3])|((with_reducible refine oD ?_ ?_);kernel_rfl)|((with_reducible intro h);try simp only [go_sem,simprocAttr,decide_true,hb2,hl,vP_length,hb3] at h)|omega|intro h)
  refine ⟨i+1,by omega, ?_,by omega⟩
  refine Le.of ?_ ?_<;>simp [go_sem,simprocAttr,decide_true,hb2,hl,vP_length,hb3]
 have hb2:decide ((i:Int)<(d.ls.length:Int))=false:=decide_eq_false (by omega)
 repeat' (first|refine Rn.p ?_|(with_reducible apply And.intro)|((first|(refine hK _ ?_;clear hK K)|with_reducible intro K hK|refine Rs.p ?_|((with_reducible first|apply oP|apply oQ);exact rfl));try simp only [go_sem,simprocAttr,decide_true,hb2])|((with_reducible refine oD ?_ ?_);kernel_rfl)|((with_reducible intro h);try simp only [go_sem,simprocAttr,decide_true,hb2] at h)|omega|intro h)
def A7:Gr:=⟨3, [(0,1),(1,2),(0,2)]⟩
def Ic:Pl:=⟨[0,1,2], [[0,2], [1], []]⟩
def d21:Dr:=⟨[(0,0),(1,2),(3,3)], [[(0,0),(1,2)], [(1,2),(3,3)], [(0,0),(2,1),(3,3)]]⟩
theorem KF:(true=true)↔(bR A7).1=0∧aX A7 Ic:=⟨fun _=>⟨by decide,⟨rfl,by decide,by decide⟩⟩,fun _=>rfl⟩
theorem Qv:dU A7= [2]:=by
 have hm:aM A7=true:=by decide
 have h0:Bn A7 0=false:=by rw [← vD hm (by decide)];decide
 have h1:Bn A7 1=false:=by rw [← vD hm (by decide)];decide
 have h2:Bn A7 2=true:=by rw [← vD hm (by decide)];decide
 unfold dU
 rw [if_pos hm]
 show y5 A7 3= [2]
 rw [qe,if_pos h2,qe,if_neg (by rw [h1];decide),qe,if_neg (by rw [h0];decide)]
 rfl
theorem Qw:mV true A7 Ic=(d21,0):=by
 have a1:lR true A7 Ic=(A7,Ic,0):=rfl
 have a2:ag A7 Ic=A7:=rfl
 have a3:bC A7 Ic=Ic:=rfl
 unfold mV ql
 rw [a1,a2,a3,Qv,if_neg (by simp),if_neg (by decide)]
 rfl
end Go.Ab
end
section
namespace Go.Ab
open Go.Proofs
set_option maxRecDepth 10000
set_option linter.unusedSectionVars false
def ky (t:It):Bool × Int × Int:=(decide (0≤t.1),t.2)
structure Alike (G G':Gr) (P P':Pl):Prop where
 n:G'.n=G.n
 need:∀x,aQ G' x=aQ G x
 out:∀x,(bQ P' x).map (dN G')=(bQ P x).map (dN G)
 o1:∀x,∀e∈bQ P x,0≤e
 o2:∀x,∀e∈bQ P' x,0≤e
structure LX (f f':Fr):Prop where
 row:f'.row.map ky=f.row.map ky
 pl:f'.pl=f.pl
theorem Du {r r':List It} (h:r'.map ky=r.map ky) (k:Nat):(r'.getD k (0,0,0)).2=(r.getD k (0,0,0)).2∧(0≤(r'.getD k (0,0,0)).1↔0≤(r.getD k (0,0,0)).1):=by
 have h1:=congrArg (fun l=>l[k]?) h
 simp only [List.getElem?_map] at h1
 simp only [List.getD_eq_getElem?_getD]
 cases a:r'[k]? <;>cases b:r[k]? <;>rw [a,b] at h1<;>simp only [Option.map_some,Option.map_none,Option.some.injEq,reduceCtorEq] at h1
 ·exact ⟨rfl,Iff.rfl⟩
 ·simp only [ky,Prod.mk.injEq,decide_eq_decide] at h1
  exact ⟨h1.2,h1.1⟩
theorem HO {r r':List It} (h:r'.map ky=r.map ky):r'.length=r.length:=by
 have:=congrArg List.length h
 simpa using this
theorem Dv {r r':List It} (h:r'.map ky=r.map ky) (x:Int):∀k,cH r' x k=cH r x k
 |0=>rfl
 |k+1=>by rw [fE,fE,Dv h x k,(Du h k).1]
theorem Cp {r r':List It} (h:r'.map ky=r.map ky) (x:Int):∀k,fm r' x k=fm r x k
 |0=>rfl
 |k+1=>by rw [dK,dK,Cp h x k,(Du h k).1]
theorem JB {r r':List It} (h:r'.map ky=r.map ky) (x:Int) (N j:Nat):l5 r' x N j=l5 r x N j:=by
 rw [Bool.eq_iff_iff,ja,ja,Cp h,(Du h j).1,(Du h j).2]
section
variable {G G':Gr} {P P':Pl} (hA:Alike G G' P P')
include hA
theorem rW {f f':Fr} (hf:LX f f') (x:Int):ak G' f' x=ak G f x:=by
 have e:(fun j=>l5 f'.row x (aQ G x) j)=fun j=>l5 f.row x (aQ G x) j:=funext fun j=>JB hf.row x _ j
 unfold ak
 rw [hA.n,hA.need,hf.pl,HO hf.row,Cp hf.row]
 show (if _ then _ else if _ then _ else !(List.range f.row.length).any (fun j=>l5 f'.row x (aQ G x) j)&&_)=_
 rw [e]
theorem A8 (x:Int):(aF G' x (bQ P' x)).map ky=(aF G x (bQ P x)).map ky:=by
 have h:=hA.out x
 have hl:=congrArg List.length h
 simp only [List.length_map] at hl
 unfold aF
 by_cases h0:bQ P x= []
 ·rw [h0] at hl
  rw [if_pos h0,if_pos (List.length_eq_zero_iff.1 hl)]
 ·have h1:bQ P' x≠ []:=fun e=>h0 (by rw [e] at hl;exact List.length_eq_zero_iff.1 hl.symm)
  rw [if_neg h0,if_neg h1,List.map_map,List.map_map]
  have e1:(bQ P' x).map (ky ∘ dJ G' x)=((bQ P' x).map (dN G')).map fun y=>(true,x,y):=by
   rw [List.map_map]
   refine List.map_congr_left fun e he=> ?_
   have:=hA.o2 x e he
   simp only [Function.comp,ky,dJ,dN,Prod.mk.injEq,and_true];exact decide_eq_true this
  have e2:(bQ P x).map (ky ∘ dJ G x)=((bQ P x).map (dN G)).map fun y=>(true,x,y):=by
   rw [List.map_map]
   refine List.map_congr_left fun e he=> ?_
   have:=hA.o1 x e he
   simp only [Function.comp,ky,dJ,dN,Prod.mk.injEq,and_true];exact decide_eq_true this
  rw [e1,e2,h]
theorem Cq {f f':Fr} (hf:LX f f') (x:Int):LX (jQ G P f x) (jQ G' P' f' x):=by
 have hs:bh f'.row x=bh f.row x:=by unfold bh;rw [HO hf.row];exact Dv hf.row x _
 refine ⟨?_, ?_⟩
 ·simp only [jQ,az,List.map_append,List.map_take,List.map_drop]
  rw [hs,A8 hA,hf.row]
 ·simp only [jQ,az];rw [hf.pl]
end
theorem Dw {p:Int→Bool} :∀ {r r':List It},r'.map ky=r.map ky→(r'.find? fun t=>p t.2.2).map (·.2.2)=(r.find? fun t=>p t.2.2).map (·.2.2)
 | [], [],_=>rfl
 | [],_::_,h=>by simp at h
 |_::_, [],h=>by simp at h
 |t::r,t'::r',h=>by
  simp only [List.map_cons,List.cons.injEq] at h
  have e:t'.2=t.2:=congrArg (·.2) h.1
  rw [List.find?_cons,List.find?_cons,e]
  cases p t.2.2 with
  |true=>simp only [Option.map_some];rw [e]
  |false=>exact Dw h.2
section
variable {G G':Gr} {P P':Pl} (hA:Alike G G' P P') (hm:aM G=true) (hm':aM G'=true)
include hA hm hm'
theorem vF {f f':Fr} (hf:LX f f') (hi:dR G f) (hi':dR G' f') (rev:Bool):e9 G' f' rev=e9 G f rev:=by
 have h1:(e8 rev f'.row).map ky=(e8 rev f.row).map ky:=by
  unfold e8
  cases rev
  ·exact hf.row
  ·simp only [if_true,List.map_reverse];rw [hf.row]
 have h2:=Dw (p:=fun x=>ak G f x) h1
 have h3:(fun t:It=>ak G' f' t.2.2)=fun t:It=>ak G f t.2.2:=funext fun t=>rW hA hf _
 have h4:dw G' f'=dw G f:=by
  unfold dw jw
  rw [hA.n]
  have:(fun x:Nat=>dZ G' f' (x:Int))=fun x:Nat=>dZ G f (x:Int):=by
   funext x;rw [fq hm' hi',fq hm hi,rW hA hf]
  rw [this]
 unfold e9
 rw [h3,h4]
 cases a:(e8 rev f'.row).find? (fun t:It=>ak G f t.2.2)<;>cases b:(e8 rev f.row).find? (fun t:It=>ak G f t.2.2)<;>rw [a,b] at h2<;>simp only [Option.map_some,Option.map_none,Option.some.injEq,reduceCtorEq] at h2
 ·exact h2
end
section
variable {G G':Gr} {P P':Pl} (hA:Alike G G' P P') (h:aR G P) (h':aR G' P')
include hA h h'
theorem vG (rev:Bool):∀ {k:Nat},k≤G.n.toNat→LX (bB G P rev k) (bB G' P' rev k)
 |0,_=>⟨rfl,rfl⟩
 |k+1,hk=>by
  have ih:=vG rev (k:=k) (by omega)
  obtain ⟨i1,_⟩:=gm h rev (k:=k) (by omega)
  obtain ⟨i2,_⟩:=gm h' rev (k:=k) (by rw [hA.n];omega)
  show LX (jQ G P _ _) (jQ G' P' _ _)
  rw [vF hA (an h.1) (an h'.1) ih i1.todR i2.todR rev]
  exact Cq hA ih _
theorem vH (rev:Bool):∀ {k:Nat},k≤G.n.toNat→dS G' P' rev k=dS G P rev k
 |0,_=>by show List.replicate G'.n.toNat 0=List.replicate G.n.toNat 0;rw [hA.n]
 |k+1,hk=>by
  have ih:=vG hA h h' rev (k:=k) (by omega)
  obtain ⟨i1,_⟩:=gm h rev (k:=k) (by omega)
  obtain ⟨i2,_⟩:=gm h' rev (k:=k) (by rw [hA.n];omega)
  show (dS G' P' rev k).set _ (k:Int)=(dS G P rev k).set _ (k:Int)
  rw [vH rev (by omega),vF hA (an h.1) (an h'.1) ih i1.todR i2.todR rev]
end
end Go.Ab
end
section
namespace Go.Ab
open Go.Proofs
set_option maxRecDepth 10000
set_option linter.unusedSectionVars false
theorem xI {l:List It} :loose l.reverse=(loose l).reverse:=by simp [loose]
theorem A9 {g:Gr} {p:Pl} (h:aR g p):∀ {k:Nat},k≤g.n.toNat→(cx g (bM p) k).Perm (cx g p k)
 |0,_=> .nil
 |k+1,hk=>by
  have ih:=A9 h (k:=k) (by omega)
  show (cx g (bM p) k++(loose (cL g (bM p) k)).map fun v=>(v,aD (bM p) k)).Perm (cx g p k++(loose (cL g p k)).map fun v=>(v,aD p k))
  rw [GW h (by omega),xI,List.map_reverse]
  exact ih.append (List.reverse_perm _)
theorem vJ {g:Gr} {p:Pl} (h:aR g p):aY g (bM p)=(aY g p).reverse:=by
 unfold aY
 rw [(yI h (Nat.le_refl _)).1]
 rfl
theorem vK {g:Gr} {p:Pl} (h:aR g p):(aV g (bM p)).Perm (aV g p):=by
 unfold aV
 refine (A9 h (Nat.le_refl _)).append ?_
 unfold newL
 rw [vJ h,List.length_reverse]
 split
 ·rw [xI,List.map_reverse];exact List.reverse_perm _
 ·exact .nil
theorem mW {g:Gr} {p:Pl} (h:aR g p):(ag g (bM p)).n=(ag g p).n:=by
 unfold ag
 rw [vJ h,List.length_reverse]
theorem k5 {g:Gr} {p:Pl} (h:aR g p):(ag g (bM p)).es.length=(ag g p).es.length:=by
 show (g.es++aV g (bM p)).length=(g.es++aV g p).length
 rw [List.length_append,List.length_append,(vK h).length_eq]
theorem qU {g:Gr} {p:Pl} (h:iF g p):iF g (bM p):=
 ⟨mQ h.run,by rw [mW h.run];exact h.n,by rw [k5 h.run];exact h.es⟩
theorem y3 {g:Gr} {p:Pl} :(ag g p).es.length=g.es.length+(aV g p).length:=by
 show (g.es++aV g p).length=_
 rw [List.length_append]
theorem Ba {l:List Edge} {j:Nat} (h:j<l.length):l.getD j (0,0)∈l:=by
 rw [List.getD_eq_getElem?_getD,List.getElem?_eq_getElem h];exact List.getElem_mem _
theorem HP {l:List Edge} {e:Edge} (h:e∈l):∃j,j<l.length∧l.getD j (0,0)=e:=by
 obtain ⟨j,hj,rfl⟩:=List.mem_iff_getElem.1 h
 exact ⟨j,hj,by rw [List.getD_eq_getElem?_getD,List.getElem?_eq_getElem hj];rfl⟩
theorem NH {l:List Edge} (h:(l.map (·.1)).Nodup) {i j:Nat} (hi:i<l.length) (hj:j<l.length) (e:(l.getD i (0,0)).1=(l.getD j (0,0)).1):i=j:=by
 rw [List.getD_eq_getElem?_getD,List.getElem?_eq_getElem hi,List.getD_eq_getElem?_getD,List.getElem?_eq_getElem hj] at e
 exact (List.getElem_inj (i:=i) (j:=j) (h₀:=by simpa using hi) (h₁:=by simpa using hj) h).1 (by rw [List.getElem_map,List.getElem_map];exact e)
theorem Cr {g:Gr} {p:Pl} (h:iF g p) {j:Nat} (hj:j<(aV g p).length):Bn (ag g p) (g.es.length+j)=false:=by
 have hm:=nG h
 have hr:=fu h
 have hb:sn (ag g p) []:=⟨List.nodup_nil,by simp⟩
 obtain ⟨n1,n2⟩:=er h.run
 have hjl:g.es.length+j<(ag g p).es.length:=by rw [y3];omega
 rw [Bool.eq_false_iff,ne_eq,yZ hm hb hjl]
 intro hR
 have J5:tl (ag g p) (g.es.length+j)=((aV g p).getD j (0,0)).1:=by unfold tl;rw [gS]
 have stuck:∀w,nV (ag g p) false (oS (g.es.length+j)) (tl (ag g p) (g.es.length+j)).toNat w→w=(tl (ag g p) (g.es.length+j)).toNat:=fun w hw=>by
  induction hw with
  |refl=>rfl
  |Ia _ _ hf=>cases hf
  | @fwd i hi LV _ ih=>
    exfalso
    have hij:=vE.1 LV
    have ti:=bg hm hi
    have tj:=bg hm hjl
    have e:tl (ag g p) i=tl (ag g p) (g.es.length+j):=by omega
    rw [J5] at e
    rw [y3] at hi
    rcases Nat.lt_or_ge i g.es.length with hil|KU
    ·have h1:=n2 _ (Ba hj)
     have h2:tl (ag g p) i=tl g i:=by unfold tl;rw [ej i hil]
     rw [h2] at e
     have h3:=(kQ h.run.2.1 h1.1.1 h1.1.2).2 h1.2
     have h4:(i:Int)∈aZ g ((aV g p).getD j (0,0)).1:=bu.2 ⟨⟨by omega,by omega⟩,by rw [Int.toNat_natCast];exact e⟩
     rw [h3] at h4
     cases h4
    ·obtain ⟨k,rfl⟩:∃k,i=g.es.length+k:=⟨i - g.es.length,by omega⟩
     have h2:tl (ag g p) (g.es.length+k)=((aV g p).getD k (0,0)).1:=by unfold tl;rw [gS]
     rw [h2] at e
     have:=NH n1 (by omega) hj e
     omega
 have h1:=stuck _ hR
 have h2:=vp hr (e:=((g.es.length+j:Nat):Int)) (by omega) (by omega)
 have e1:fe (ag g p) ((g.es.length+j:Nat):Int)=tl (ag g p) (g.es.length+j):=rfl
 have e2:dN (ag g p) ((g.es.length+j:Nat):Int)=hd (ag g p) (g.es.length+j):=rfl
 have t1:=bg hm hjl
 have t2:=bF hm hjl
 rw [e1,e2,show hd (ag g p) (g.es.length+j)=tl (ag g p) (g.es.length+j) by omega] at h2
 omega
theorem Dx {g:Gr} {p p':Pl} (hN:∀e∈aV g p,e∈aV g p') {i:Nat} (hi:i<g.es.length) {u w:Nat} (h:nV (ag g p) false (oS i) u w):nV (ag g p') false (oS i) u w:=by
 induction h with
 |refl=>exact .refl
 |Ia _ _ hf=>cases hf
 | @fwd j hj RC _ ih=>
   have hji:=vE.1 RC
   rw [y3] at hj
   rcases Nat.lt_or_ge j g.es.length with hjl|N0
   ·have e1:(ag g p).es.getD j (0,0)=(ag g p').es.getD j (0,0):=by rw [ej j hjl,ej j hjl]
    unfold tl at ih
    unfold hd
    rw [e1] at ih ⊢
    exact .fwd (by rw [y3];omega) RC ih
   ·obtain ⟨k,rfl⟩:∃k,j=g.es.length+k:=⟨j - g.es.length,by omega⟩
    obtain ⟨k',h1,h2⟩:=HP (hN _ (Ba (l:=aV g p) (j:=k) (by omega)))
    have e1:(ag g p).es.getD (g.es.length+k) (0,0)=(ag g p').es.getD (g.es.length+k') (0,0):=by rw [gS,gS,h2]
    unfold tl at ih
    unfold hd
    rw [e1] at ih ⊢
    exact .fwd (i:=g.es.length+k') (by rw [y3];omega) (vE.2 (by omega)) ih
theorem Cs {g:Gr} {p:Pl} (h:iF g p):dU (ag g (bM p))=dU (ag g p)∧∀i∈dU (ag g p),0≤i∧i<g.es.length:=by
 have h':=qU h
 have hm:=nG h
 have hm':=nG h'
 have hb:sn (ag g p) []:=⟨List.nodup_nil,by simp⟩
 have hb':sn (ag g (bM p)) []:=⟨List.nodup_nil,by simp⟩
 have hN:=vK h.run
 constructor
 ·unfold dU
  rw [if_pos hm,if_pos hm',k5 h.run]
  unfold y5
  congr 1
  refine List.filter_congr fun i hi=> ?_
  have hi:=List.mem_range.1 hi
  have hi':=hi
  rw [y3] at hi
  rcases Nat.lt_or_ge i g.es.length with hil|KU
  ·rw [Bool.eq_iff_iff,yZ hm hb hi',yZ hm' hb' (by rw [k5 h.run];exact hi')]
   have e1:tl (ag g (bM p)) i=tl (ag g p) i:=by unfold tl;rw [ej i hil,ej i hil]
   have e2:hd (ag g (bM p)) i=hd (ag g p) i:=by unfold hd;rw [ej i hil,ej i hil]
   rw [e1,e2]
   exact ⟨Dx (fun e he=>hN.mem_iff.1 he) hil,Dx (fun e he=>hN.mem_iff.2 he) hil⟩
  ·obtain ⟨k,rfl⟩:∃k,i=g.es.length+k:=⟨i - g.es.length,by omega⟩
   rw [Cr h (by omega),Cr h' (by rw [hN.length_eq];omega)]
 ·intro i hi
  obtain ⟨k,h1,h2,rfl⟩:=(JA hm).1 hi
  refine ⟨by omega, ?_⟩
  refine Decidable.byContradiction fun hc=> ?_
  obtain ⟨j,rfl⟩:∃j,k=g.es.length+j:=⟨k - g.es.length,by omega⟩
  rw [y3] at h1
  rw [Cr h (by omega)] at h2
  cases h2
theorem Bb (es:List Edge):(List.range es.length).map (fun i=>es.getD i (0,0))=es:=by
 refine List.ext_getElem (by simp) fun i h1 h2=> ?_
 simp [List.getD_eq_getElem?_getD,List.getElem?_eq_getElem h2]
theorem vM {g:Gr} {x:Int} :aQ g x=g.es.countP fun e=>decide (e.2=x):=by
 have h:=congrArg (List.countP fun e:Edge=>decide (e.2=x)) (Bb g.es)
 rw [← h,List.countP_map]
 unfold aQ aK
 rw [List.length_map,List.countP_eq_length_filter]
 rfl
theorem xJ {g:Gr} {p:Pl} {bs:List Int} (hl:∀i∈bs,0≤i∧i<(g.es.length:Int)):iw (ag g p) bs=
 ((List.range g.es.length).map fun i:Nat=>(tl g i,if (i:Int)∈bs then (ag g p).n+(bs.idxOf (i:Int):Nat) else hd g i))++aV g p++(List.range bs.length).map fun k:Nat=>((ag g p).n+(k:Int),dN g (bs.getD k 0)):=by
 unfold iw
 rw [y3,List.range_add,List.map_append,List.map_map]
 congr 1
 ·congr 1
  ·refine List.map_congr_left fun i hi=> ?_
   have hi:=List.mem_range.1 hi
   have e1:tl (ag g p) i=tl g i:=by unfold tl;rw [ej i hi]
   have e2:hd (ag g p) i=hd g i:=by unfold hd;rw [ej i hi]
   rw [e1,e2];rfl
  ·refine Eq.trans (List.map_congr_left fun j hj=> ?_) (Bb (aV g p))
   have hj:=List.mem_range.1 hj
   have hn:((g.es.length+j:Nat):Int)∉bs:=fun hb=>by have:=hl _ hb;omega
   simp only [Function.comp]
   rw [if_neg hn]
   unfold tl hd
   rw [gS]
 ·refine List.map_congr_left fun k hk=> ?_
  have hk:=List.mem_range.1 hk
  have:=hl _ (aE (d:=0) hk)
  unfold dN
  rw [ej _ (by omega)]
theorem HQ {g:Gr} {p:Pl} {bs:List Int} (hl:∀i∈bs,0≤i∧i<(g.es.length:Int)) {e:Int} (h0:0≤e) (h1:e<g.es.length):dN (aO (ag g p) bs) e=if e∈bs then (ag g p).n+(bs.idxOf e:Nat) else dN g e:=by
 have h2:=(cG (g:=ag g p) (bs:=bs) (e:=e) h0 (by rw [y3];omega)).2
 rw [h2]
 unfold wg dN
 rw [ej _ (by omega)]
section
variable {g:Gr} {p:Pl} (h:iF g p)
include h
theorem Bc {q:Pl} (hq:q.outs.length=(ag g p).n.toNat) {bs:List Int} (x:Int):bQ (sx (ag g p) q bs) x=if x.toNat<(ag g p).n.toNat then bQ q x else if x.toNat<(ag g p).n.toNat+bs.length then [(((ag g p).es.length+(x.toNat - (ag g p).n.toNat):Nat):Int)] else []:=by
 show (q.outs++iO (ag g p) bs.length).getD x.toNat []=_
 rw [List.getD_eq_getElem?_getD]
 split
 ·rw [List.getElem?_append_left (by omega), ← List.getD_eq_getElem?_getD];rfl
 ·rw [List.getElem?_append_right (by omega),hq,iO,List.getElem?_map]
  split
  ·rw [List.getElem?_range (by omega)];rfl
  ·rw [List.getElem?_eq_none (by simp;omega)];rfl
theorem E6 (hs1:(ag g p).n+(dU (ag g p)).length≤64) (xT:(ag g p).es.length+(dU (ag g p)).length≤128):
 Alike (aO (ag g p) (dU (ag g p))) (aO (ag g (bM p)) (dU (ag g p))) (bM (sx (ag g p) (bC g p) (dU (ag g p)))) (sx (ag g (bM p)) (bC g (bM p)) (dU (ag g p))):=by
 have h':=qU h
 obtain ⟨t1,t2⟩:=Cs h
 have hb:=tc (g:=ag g p)
 have hb':=tc (g:=ag g (bM p))
 rw [t1] at hb'
 have hr:=fu h
 have hr':=fu h'
 have q1:=nJ hr hb
 have q2:=nJ hr' hb'
 have eN:=mW h.run
 have eL:=k5 h.run
 have r1:=qd hr hb q1 hs1 xT
 have r2:=qd hr' hb' q2 (by rw [eN];exact hs1) (by rw [eL];exact xT)
 have r3:=mQ r1
 have Qx:=vK h.run
 obtain ⟨m1,m2⟩:=er h.run
 obtain ⟨m3,m4⟩:=er h'.run
 have TG:=an h.run.1
 have hn:=aH TG
 have Q5:=jA (g:=g) (p:=p)
 have pos:∀ {G:Gr} {P:Pl},aR G P→∀x,∀e∈bQ P x,0≤e:=fun {G P} hR x e he=>by
  by_cases hx:x.toNat<G.n.toNat
  ·exact (fV ((hR.2.1.2.2 x.toNat hx).mem_iff.1 he)).1.1
  ·have:bQ P x= []:=by unfold bQ;rw [List.getD_eq_getElem?_getD,List.getElem?_eq_none (by rw [hR.2.1.1];omega)];rfl
   rw [this] at he;cases he
 refine ⟨by show _+_=_+_;rw [eN],fun x=> ?_,fun x=> ?_,pos r3,pos r2⟩
 ·rw [vM,vM]
  show (iw (ag g (bM p)) (dU (ag g p))).countP _=(iw (ag g p) (dU (ag g p))).countP _
  rw [xJ t2,xJ t2,eN]
  simp only [List.countP_append]
  rw [Qx.countP_eq]
 ·rw [lQ,List.map_reverse,Bc h' hr'.2.1.1,Bc h hr.2.1.1,eN,eL]
  split
  ·rename_i hx
   by_cases N5:x.toNat<g.n.toNat
   ·have lx:∀q:Pl,bQ q x=bQ q (x.toNat:Int):=fun q=>by unfold bQ;rw [Int.toNat_natCast]
    rw [lx,lx (bC g p)]
    generalize hy:((x.toNat:Nat):Int)=y
    have hy0:0≤y∧y<g.n:=by omega
    rw [sZ h'.run hy0,sZ h.run hy0,lQ]
    by_cases hz:bQ p y= []
    ·rw [hz,if_neg (by simp),if_neg (by simp)]
     have z1:=kT h.run hy0 hz
     have z2:=kT h'.run hy0 (by rw [lQ,hz];rfl)
     by_cases hex:∃w,(y,w)∈aV g p
     ·obtain ⟨w,hw⟩:=hex
      obtain ⟨j1,_,a1,a2⟩:=z1.1 w hw
      obtain ⟨j2,_,b1,b2⟩:=z2.1 w (Qx.mem_iff.2 hw)
      have Nw:∀ {q:Pl} {j:Nat},iF g q→aZ (ag g q) y= [((g.es.length+j:Nat):Int)]→(ag g q).es.getD (g.es.length+j) (0,0)=(y,w)→dN (aO (ag g q) (dU (ag g p))) ((g.es.length+j:Nat):Int)=w:=fun {q j} hA c1 c2=>by
       have hin:((g.es.length+j:Nat):Int)∈aZ (ag g q) y:=by rw [c1];simp
       have Fe:=(bu.1 hin).1
       rw [(cG (g:=ag g q) (bs:=dU (ag g p)) Fe.1 Fe.2).2,if_neg (fun hb=>by have:=t2 _ hb;omega)]
       unfold dN
       rw [Int.toNat_natCast,c2]
      rw [a1,b1]
      simp only [List.map_cons,List.map_nil,List.reverse_cons,List.reverse_nil,List.nil_append]
      rw [Nw h a1 a2,Nw h' b1 b2]
     ·rw [z1.2 fun e he e'=>hex ⟨e.2,by rw [← e'];exact he⟩,z2.2 fun e he e'=>hex ⟨e.2,by rw [← e'];exact Qx.mem_iff.1 he⟩]
      rfl
    ·rw [if_pos hz,if_pos (fun e=>hz (List.reverse_eq_nil_iff.1 e)),List.map_reverse]
     congr 1
     refine List.map_congr_left fun e he=> ?_
     have Fe:=(bu.1 ((bS h.run.2.1 hy0.1 hy0.2).mem_iff.1 he)).1
     rw [HQ t2 Fe.1 Fe.2,HQ t2 Fe.1 Fe.2,eN]
   ·have hl:1<(aY g p).length:=by
     refine Decidable.byContradiction fun hl=> ?_
     have:(ag g p).n=g.n:=if_neg hl
     omega
    have I7:x=g.n:=by
     have:(ag g p).n=g.n+1:=if_pos hl
     omega
    rw [I7,(nH h.run hl).1,(nH h'.run (by rw [vJ h.run,List.length_reverse];exact hl)).1]
    rfl
  ·split
   ·rename_i hx1 hx2
    generalize hk:x.toNat - (ag g p).n.toNat=k
    have hk2:k<(dU (ag g p)).length:=by omega
    have d1:=(gq (g:=ag g p) hk2).2
    have d2:=(gq (g:=ag g (bM p)) (bs:=dU (ag g p)) hk2).2
    rw [eL] at d2
    have Fe:=t2 _ (aE (d:=0) hk2)
    simp only [List.map_cons,List.map_nil,List.reverse_cons,List.reverse_nil,List.nil_append]
    rw [d1,d2]
    unfold dN
    rw [ej _ (by omega),ej _ (by omega)]
   ·rfl
theorem E7 (hs1:(ag g p).n+(dU (ag g p)).length≤64) (xT:(ag g p).es.length+(dU (ag g p)).length≤128) (rev:Bool) {N:Nat} (hN:N=(aO (ag g p) (dU (ag g p))).n.toNat):
 dS (aO (ag g (bM p)) (dU (ag g (bM p)))) (sx (ag g (bM p)) (bC g (bM p)) (dU (ag g (bM p)))) (!rev) N=dS (aO (ag g p) (dU (ag g p))) (sx (ag g p) (bC g p) (dU (ag g p))) rev N:=by
 have h':=qU h
 obtain ⟨t1,t2⟩:=Cs h
 have hb:=tc (g:=ag g p)
 have hb':=tc (g:=ag g (bM p))
 rw [t1] at hb' ⊢
 have hr:=fu h
 have hr':=fu h'
 have q1:=nJ hr hb
 have q2:=nJ hr' hb'
 have r1:=qd hr hb q1 hs1 xT
 have r2:=qd hr' hb' q2 (by rw [mW h.run];exact hs1) (by rw [k5 h.run];exact xT)
 subst hN
 rw [vH (E6 h hs1 xT) (mQ r1) r2 (!rev) (Nat.le_refl _),Ao r1 rev (Nat.le_refl _)]
end
end Go.Ab
end
section
namespace Go.Ab
open Go.Proofs
attribute [local congr] ACall.congr gd.congr Nx.congr
set_option maxRecDepth 10000
set_option maxHeartbeats 8000000
def UC (rev:Bool) (row:List It) (i:Nat):Int:=((e8 rev row).getD i (0,0,0)).2.2
def RD (g:Gr) (f:Fr) (rev:Bool):Int:=match (e8 rev f.row).find? (fun t=>ak g f t.2.2) with
 |some t=>t.2.2
 |none=>match (List.range g.n.toNat).find? (fun x:Nat=>ak g f (x:Int)) with
  |some x=>(x:Int)
  |none=> -1
end Go.Ab
end
section
namespace Go.Ab
open Go.Proofs
attribute [local congr] ACall.congr gd.congr Nx.congr
set_option maxRecDepth 20000
set_option maxHeartbeats 16000000
end Go.Ab
end
section
namespace Go.Ab
set_option maxRecDepth 10000
set_option linter.unusedSectionVars false
variable {P:PS}
structure PS.Hi (P:PS) (R:Int→Int) (f0 f1:Int) (hi:Int→Int):Prop where
 mid:∀ {x u a b v},P.ins x=u++a::b::v→hi (R a)=x
 h0:hi f0=P.M8
 h1:hi f1=P.M8
def PS.UD (P:PS) (a:Int):Prop:=∃x u b v,P.outs x=u++a::b::v
section
variable (h:P.Ok) {L R:Int→Int} {f0 f1:Int} {low:Int→Int} (F:P.ki L R f0 f1 low)
include h F
theorem PS.Hi.Ff {hi:Int→Int} (H:P.Hi R f0 f1 hi):P.Ff.Hi L f1 f0 hi:=
 {mid:=fun {x u a b v} e=>by
   have e:=iW (show (P.ins x).reverse=_ from e)
   rw [← F.BQ e];exact H.mid e
  h0:=H.h1
  h1:=H.h0}
variable {L' R':Int→Int} {TH TJ:Int} {low':Int→Int} (F':P.ki L' R' TH TJ low')
include F'
end
section
variable (h:P.Ok) {L R:Int→Int} {f0 f1:Int} {low:Int→Int} (F:P.ki L R f0 f1 low)
include h F
variable {hi:Int→Int} (H:P.Hi R f0 f1 hi)
include H
end
def Qy (t h:Int→Int) (l:List Int) (x:Int):Int:=match l.find? (fun i=>decide (t i=x)) with
 |some i=>h i
 |none=>x
def Qz (t h:Int→Int) (l:List Int) (x:Int):Nat→Int
 |0=>x
 |k+1=>Qy t h l (Qz t h l x k)
section
variable (h:P.Ok) {L R:Int→Int} {f0 f1:Int} {low:Int→Int} (F:P.ki L R f0 f1 low) {hi:Int→Int} (H:P.Hi R f0 f1 hi)
include h F H
end
end Go.Ab
end
section
namespace Go.Ab
open Go.Proofs
set_option maxRecDepth 10000
set_option linter.unusedSectionVars false
section
variable (g:Gr) (p:Pl)
def cK:Nat→Nat
 |0=>1
 |k+1=>cK k+((bQ p (aD p k)).length - 1)
def Om (e:Int):Nat:=(bQ p (fe g e)).findIdx (fun i=>decide (i=e))
def Bd (x:Int):Int:=(nO g p x).headD 0
def NI (x:Int):Int:=(nO g p x).getLastD 0
def LK:Nat→Int→Int
 |0,_=>0
 |k+1,e=>if fe g e=aD p k then (if Om g p e=0 then (if k=0 then 0 else LK k (Bd g p (aD p k))) else (cK p k:Int)+Om g p e - 1) else LK k e
def RK (r:Int):Nat→Int→Int
 |0,_=>0
 |k+1,e=>if fe g e=aD p k then (if Om g p e+1<(bQ p (aD p k)).length then (cK p k:Int)+Om g p e else (if k=0 then r else RK r k (NI g p (aD p k)))) else RK r k e
def Lt:Nat→List Int
 |0=> [aD p 0]
 |k+1=>Lt k++List.replicate ((bQ p (aD p k)).length - 1) (aD p k)
end
section
variable {g:Gr} {p:Pl}
variable (h:aR g p)
include h
def WK (g:Gr) (p:Pl) (k:Nat):List Int:=(fY (fK g p k).row).map (·.1)
end
end Go.Ab
end
section
namespace Go.Ab
open Go.Proofs
attribute [local congr] ACall.congr gd.congr Nx.congr
set_option maxRecDepth 10000
set_option maxHeartbeats 8000000
def Dy (A o:List Int) (f:Nat→Int):Nat→List Int
 |0=>A
 |j+1=>(Dy A o f j).set (o.getD j 0).toNat (f j)
def RE (A o:List Int) (left:Int) (c:Nat) (j:Nat):List Int:=Dy A o (fun j=>if j=0 then left else (c:Int)+j - 1) j
def RF (A o:List Int) (right:Int) (c:Nat) (j:Nat):List Int:=Dy A o (fun j=>if j+1<o.length then (c:Int)+j else right) j
def J6 (c k:Nat):List Int:=(List.range k).map fun i:Nat=>((c+i:Nat):Int)
def UE (left:Int) (c d j:Nat):Int:=if min j (d - 1)=0 then left else (c:Int)+(min j (d - 1):Nat) - 1
def UF (ed gp:D) (A B lo hi:List Int):List (Nat × AObj):= [(10000, .box [.d ed, .d gp, .ref 10001, .ref 10002, .ref 10003, .ref 10004]),(10001, .own 3 1 (A.map rI)),(10002, .own 3 1 (B.map rI)),(10003, .tip 3 1 (lo.map rI)),(10004, .own 3 1 (hi.map rI))]
def UG (ed gp:D) (A B lo hi:List Int):List (Nat × AObj):= [(10000, .box [.d ed, .d gp, .ref 10001, .ref 10002, .ref 10005, .ref 10006]),(10001, .own 3 1 (A.map rI)),(10002, .own 3 1 (B.map rI)),(10005, .tip 3 1 (lo.map rI)),(10006, .own 3 1 (hi.map rI))]
end Go.Ab
end
section
namespace Go.Ab
open Go.Proofs
attribute [local congr] ACall.congr gd.congr Nx.congr
set_option maxRecDepth 10000
set_option maxHeartbeats 8000000
def NJ (A fs:List Int) (x:Int) (j:Nat):List Int:=Dy A fs (fun _=>x) j
end Go.Ab
end
section
namespace Go.Ab
open Go.Proofs
set_option maxRecDepth 10000
set_option linter.unusedSectionVars false
def arr (f:Int→Int) (m:Nat):List Int:=(List.range m).map fun i:Nat=>f (i:Int)
section
variable {g:Gr} {p:Pl} (h:aR g p)
include h
end
section
variable (g:Gr) (p:Pl)
def Ct:Nat→List Int
 |0=>bQ p (aD p 0)
 |j+1=>if bQ p (aD p (j+1))= [] then Ct j else (Ct j).take (ff (Ct j) (Bd g p (aD p (j+1)))).toNat++bQ p (aD p (j+1))++(Ct j).drop ((ff (Ct j) (Bd g p (aD p (j+1)))).toNat+(nO g p (aD p (j+1))).length)
def NK:Nat→List Int
 |0=> [0]++J6 1 ((bQ p (aD p 0)).length - 1)++ [-1]
 |j+1=>(NK j).take ((ff (Ct g p j) (Bd g p (aD p (j+1)))).toNat+1)++J6 (cK p (j+1)) ((bQ p (aD p (j+1))).length - 1)++(NK j).drop ((ff (Ct g p j) (Bd g p (aD p (j+1)))).toNat+(nO g p (aD p (j+1))).length)
def NL (k:Nat):List Int:=((nO g p (aD p k)).dropLast).map (RK g p (-1) k)
def QA:Nat→List Int
 |0=> [aD p (g.n.toNat - 1)]
 |k+1=>NJ (QA k) (NL g p k) (aD p k) (NL g p k).length++List.replicate ((bQ p (aD p k)).length - 1) 0
end
section
variable {g:Gr} {p:Pl}
variable (h:aR g p)
include h
end
end Go.Ab
end
section
namespace Go.Ab
open Go.Proofs
attribute [local congr] ACall.congr gd.congr Nx.congr
set_option maxRecDepth 60000
set_option maxHeartbeats 8000000
structure Fc where
 L:List Int
 R:List Int
 lo:List Int
 hi:List Int
def QB (g:Gr) (p:Pl) (f:Int):Int:=if f= -1 then (cK p g.n.toNat:Int) else f
def TL (g:Gr) (p:Pl):Fc:=⟨arr (LK g p g.n.toNat) g.es.length,(arr (RK g p (-1) g.n.toNat) g.es.length).map (QB g p),Lt p g.n.toNat++ [aD p 0],QA g p g.n.toNat++ [aD p (g.n.toNat - 1)]⟩
def TM:Fc:=⟨[], [], [], []⟩
def UH (b:Bool) (g:Gr) (p:Pl):Fc × Int:=if ((bH b g p).2.1=0∧xp g=true)∧0<g.es.length then (TL g p,0) else (TM,1)
def UI (f:Fc):AV:= .agg [.d (sI f.L), .d (sI f.R), .d (sI f.lo), .d (sI f.hi)]
def TN (l:List Int) (f:Int→Int) (j:Nat):List Int:=(l.take j).map f++l.drop j
end Go.Ab
end
section
namespace Go.Ab
open Go.Proofs
set_option maxRecDepth 10000
set_option linter.unusedSectionVars false
section
variable (g:Gr) (p:Pl)
def cN:Nat:=cK p g.n.toNat
def Lf (e:Int):Int:=LK g p g.n.toNat e
def Rf (e:Int):Int:=RK g p (cN g p) g.n.toNat e
def TO:List Int:=Lt p g.n.toNat++ [aD p 0]
def TP:List Int:=QA g p g.n.toNat++ [aD p (g.n.toNat - 1)]
def UJ (f:Int):Int:=(TO g p).getD f.toNat 0
def UK (f:Int):Int:=(TP g p).getD f.toNat 0
end
section
variable {g:Gr} {p:Pl}
variable (h:aR g p) (hI:xp g=true)
include h hI
end
end Go.Ab
end
section
namespace Go.Ab
open Go.Proofs
set_option maxRecDepth 10000
set_option linter.unusedSectionVars false
def TQ (s:Nat) (x:Int):Bool:=decide (0≤x)&&decide (x<64)&&s.testBit x.toNat
section
variable {P:PS} (h:P.Ok) {L R:Int→Int} {f0 f1:Int} {low:Int→Int} (F:P.ki L R f0 f1 low)
def TR (P:PS) (R:Int→Int) (f:Int):Nat→Nat
 |0=>0
 |j+1=>if R (P.sh j)=f then j+1 else TR P R f j
include h F
end
section
variable (g:Gr) (p:Pl)
def UL:Gr:=⟨(cN g p:Int)+1,(List.range g.es.length).map fun i:Nat=>(Lf g p i,Rf g p i)⟩
end
section
variable {g:Gr} {p:Pl}
variable (h:aR g p) (hI:xp g=true)
include h hI
end
end Go.Ab
end
section
namespace Go.Ab
open Go.Proofs
attribute [local congr] ACall.congr gd.congr Nx.congr
set_option maxRecDepth 20000
set_option maxHeartbeats 8000000
end Go.Ab
end
section
namespace Go.Ab
open Go.Proofs
attribute [local congr] ACall.congr gd.congr Nx.congr
set_option maxRecDepth 20000
set_option maxHeartbeats 8000000
def UM (f:Fc) (k:Nat):List Edge:=(List.range k).map fun i:Nat=>(f.L.getD i 0,f.R.getD i 0)
def TS (b:Bool) (g:Gr) (p:Pl):Bool:= !u9 g p&&xp g&&decide ((bH b g p).2.1=0)&&decide (0<(g.es.length:Int))&&decide ((g.es.length:Int)≤60)
def UN:Gr:=⟨4, [(0,1),(1,3),(0,2),(2,3)]⟩
def UO:Pl:=⟨[0,1,2,3], [[0,2], [1], [3], []]⟩
end Go.Ab
end
section
namespace Go.Ab
open Go.Proofs
attribute [local congr] ACall.congr gd.congr Nx.congr
set_option maxRecDepth 20000
set_option maxHeartbeats 8000000
theorem j6:Spec Tryz.prog 32 (Args []) [] (eB true) []:=by
 have QC:=qT A7 (by decide) Ic ⟨by decide,by decide,by decide⟩ (by decide) (by decide) (by decide) true KF
 rw [Qw] at QC
 simp only at QC
 have NM:=rV d21 (by decide) (by decide) (by decide)
 have e1:A7.es.map rE= [[.sc (.int .i64 0), .sc (.int .i64 1)], [.sc (.int .i64 1), .sc (.int .i64 2)], [.sc (.int .i64 0), .sc (.int .i64 2)]]:=rfl
 have e2:Ic.ord.map rI= [[.sc (.int .i64 0)], [.sc (.int .i64 1)], [.sc (.int .i64 2)]]:=rfl
 have e3:vI Ic.outs= [[.sl 1 [[.sc (.int .i64 0)], [.sc (.int .i64 2)]]], [.sl 1 [[.sc (.int .i64 1)]]], [.sl 1 []]]:=rfl
 have e4:A7.n=3:=rfl
 have e5:d21.pts.map rP= [[.sc (.int .i64 0), .sc (.int .i64 0)], [.sc (.int .i64 1), .sc (.int .i64 2)], [.sc (.int .i64 3), .sc (.int .i64 3)]]:=rfl
 have e6:vP d21.ls= [[.sl 2 [[.sc (.int .i64 0), .sc (.int .i64 0)], [.sc (.int .i64 1), .sc (.int .i64 2)]]], [.sl 2 [[.sc (.int .i64 1), .sc (.int .i64 2)], [.sc (.int .i64 3), .sc (.int .i64 3)]]], [.sl 2 [[.sc (.int .i64 0), .sc (.int .i64 0)], [.sc (.int .i64 2), .sc (.int .i64 1)], [.sc (.int .i64 3), .sc (.int .i64 3)]]]]:=rfl
 (refine Spec.hd (C:=T.cfg [] []) (rs:= [.t 0]) (T.aj _ _) Tryz.func32 rfl rfl Tryz.ntmps32 Tryz.results32 (by simp [AObj.isNest]) (by simp [AObj.isNest]) (by kernel_rfl) T.mixed fun X hX hP hC aJ b7=> ?_)
 repeat' (first|refine Rn.p ?_|(with_reducible apply And.intro)|((first|(refine hK _ ?_;clear hK K)|with_reducible intro K hK|refine Rs.p ?_|((with_reducible first|apply oP|apply oQ);exact rfl)|(refine cE hX hC hP (QC) rfl rfl rfl ?_ ?_ rfl ?_;iterate 2 (focus (simp only [go_sem,simprocAttr,e1,e2,e3,e4,e5,e6,List.map_cons,List.map_nil,rI,decide_true];done)))|(refine cE hX hC hP (NM) rfl rfl rfl ?_ ?_ rfl ?_;iterate 2 (focus (simp only [go_sem,simprocAttr,e1,e2,e3,e4,e5,e6,List.map_cons,List.map_nil,rI,decide_true];done))));try simp only [go_sem,simprocAttr,e1,e2,e3,e4,e5,e6,List.map_cons,List.map_nil,rI,decide_true])|((with_reducible refine oD ?_ ?_);kernel_rfl)|((with_reducible intro h);try simp only [go_sem,simprocAttr,e1,e2,e3,e4,e5,e6,List.map_cons,List.map_nil,rI,decide_true] at h)|omega|intro h)
theorem Dz {g:Gr} {N:Int} {bs xs ys:List Int} {i:Nat} :2≤(Ib g N bs xs ys i).length∧(Ib g N bs xs ys i).length≤3:=by
 unfold Ib A2
 split<;>simp
theorem JC {b:Bool} {g:Gr} {p:Pl} (hl:g.es.length≤1000) (hr:b=true↔(bR g).1=0∧aX g p):(mV b g p).1.pts.length≤9223372036854775807∧(mV b g p).1.ls.length≤9223372036854775807∧∀l∈(mV b g p).1.ls,l.length≤9223372036854775807:=by
 by_cases h:(mV b g p).2=0
 ·obtain ⟨hR,e⟩:=A4 hr h
  rw [e]
  have hn:=aH (an hR.ok.run.1)
  refine ⟨?_, ?_,fun l hm=> ?_⟩
  ·show (oU _ _ _).length≤_
   rw [s9];omega
  ·show (mq _ _ _ _ _ _).length≤_
   rw [yY];omega
  ·have hm:l∈mq _ _ _ _ _ _:=hm
   unfold mq at hm
   obtain ⟨i,_,rfl⟩:=List.mem_map.1 hm
   have:=(Dz (g:=g) (N:=(ag g p).n) (bs:=dU (ag g p)) (xs:=ql g p false) (ys:=ql g p true) (i:=i)).2
   omega
 ·have e:(mV b g p).1=dz:=by
   unfold mV at h ⊢
   split
   ·rfl
   rename_i h0
   rw [if_neg h0] at h
   split
   ·rfl
   rename_i h1
   rw [if_neg h1] at h
   exact absurd rfl h
  rw [e]
  simp [dz]
end Go.Ab
end
section
namespace Go.Ab
open Go.Proofs
attribute [local congr] ACall.congr gd.congr Nx.congr
set_option maxRecDepth 20000
set_option maxHeartbeats 8000000
def sy (q:Pt):Pt:=(q.2,q.1)
def Be (d:Dr):Dr:=⟨d.pts.map sy,d.ls.map fun l=>l.map sy⟩
theorem Lu {g:Gr} {N:Int} {bs xs ys:List Int} :J4 g N bs ys xs=Be (J4 g N bs xs ys):=by
 unfold J4 Be oU mq
 simp only [List.map_map]
 congr 1
 refine List.map_congr_left fun i _=> ?_
 simp only [Function.comp,Ib,A2,List.map_cons,List.map_append,List.map_nil]
 split<;>rfl
theorem JD {d:Dr} :Be (Be d)=d:=by
 unfold Be
 simp only [List.map_map]
 have e1:sy ∘ sy=id:=rfl
 have e2:((fun l:List Pt=>l.map sy) ∘ fun l=>l.map sy)=id:=by funext l;simp [Function.comp,e1]
 rw [e1,e2,List.map_id,List.map_id]
theorem HR {g:Gr} {p:Pl} (h:aR g p):lR true g p=if 64<(ag g p).n∨128<(ag g p).es.length then (gz,pz,10) else (ag g p,bC g p,0):=by
 unfold lR
 rw [if_neg (by rw [lT (gu h) h];simp)]
theorem DA {g:Gr} {p:Pl} (h:aR g p):mV true g p=if 64<(ag g p).n∨128<(ag g p).es.length then (dz,10) else if 64<(ag g p).n+(dU (ag g p)).length∨128<(ag g p).es.length+(dU (ag g p)).length then (dz,10) else (J4 g (ag g p).n (dU (ag g p)) (ql g p false) (ql g p true),0):=by
 unfold mV
 rw [HR h]
 by_cases h1:64<(ag g p).n∨128<(ag g p).es.length
 ·rw [if_pos h1,if_pos h1,if_pos (by simp)]
 ·rw [if_neg h1,if_neg h1,if_neg (by simp)]
theorem JE {g:Gr} {p:Pl} (h:aR g p):mV true g (bM p)=(Be (mV true g p).1,(mV true g p).2):=by
 rw [DA h,DA (mQ h),mW h,k5 h]
 by_cases h1:64<(ag g p).n∨128<(ag g p).es.length
 ·rw [if_pos h1,if_pos h1];rfl
 rw [if_neg h1,if_neg h1]
 have hO:iF g p:=⟨h,by omega,by omega⟩
 obtain ⟨ht,_⟩:=Cs hO
 rw [ht]
 by_cases h2:64<(ag g p).n+(dU (ag g p)).length∨128<(ag g p).es.length+(dU (ag g p)).length
 ·rw [if_pos h2,if_pos h2];rfl
 rw [if_neg h2,if_neg h2]
 have hk:∀rev,ql g (bM p) (!rev)=ql g p rev:=fun rev=>by
  have hr:=E7 hO (by omega) (by omega) rev (N:=((ag g p).n+(dU (ag g p)).length).toNat) rfl
  rw [ht] at hr
  unfold ql
  rw [mW h,ht]
  exact hr
 have k1:ql g (bM p) false=ql g p true:=hk true
 have k2:ql g (bM p) true=ql g p false:=hk false
 rw [k1,k2,Lu]
theorem E8 {b:Bool} {g:Gr} {p:Pl} (hl:g.es.length≤1000) (hr:b=true↔(bR g).1=0∧aX g p):(mV b g p).1.pts.length≤1000∧(mV b g p).1.ls.length≤1000∧∀l∈(mV b g p).1.ls,l.length≤1000:=by
 by_cases h:(mV b g p).2=0
 ·obtain ⟨hR,e⟩:=A4 hr h
  rw [e]
  have hn:=aH (an hR.ok.run.1)
  refine ⟨?_, ?_,fun l hm=> ?_⟩
  ·show (oU _ _ _).length≤_
   rw [s9];omega
  ·show (mq _ _ _ _ _ _).length≤_
   rw [yY];omega
  ·have hm:l∈mq _ _ _ _ _ _:=hm
   unfold mq at hm
   obtain ⟨i,_,rfl⟩:=List.mem_map.1 hm
   have:=(Dz (g:=g) (N:=(ag g p).n) (bs:=dU (ag g p)) (xs:=ql g p false) (ys:=ql g p true) (i:=i)).2
   omega
 ·have e:(mV b g p).1=dz:=by
   unfold mV at h ⊢
   split
   ·rfl
   rename_i h0
   rw [if_neg h0] at h
   split
   ·rfl
   rename_i h1
   rw [if_neg h1] at h
   exact absurd rfl h
  rw [e]
  simp [dz]
theorem qV (g:Gr) (p:Pl) (hl:g.es.length≤9223372036854775807) (hp:G8 p):Spec Tryz.prog 12 (Args [eG g,ePl p]) [] (eB true) []:=by
 have hG:=yN g p hl hp
 cases hB:u9 g p with
 |true=>
  rw [hB] at hG
  (refine Spec.hd (C:=T.cfg [] []) (rs:= [.t 4]) (T.aj _ _) Tryz.func12 rfl rfl Tryz.ntmps12 Tryz.results12 (by simp [AObj.isNest]) (by simp [AObj.isNest]) (by kernel_rfl) T.mixed fun X hX hP hC aJ b7=> ?_)
  repeat' (first|refine Rn.p ?_|(with_reducible apply And.intro)|((first|(refine hK _ ?_;clear hK K)|with_reducible intro K hK|refine Rs.p ?_|((with_reducible first|apply oP|apply oQ);exact rfl)|refine aa hX hC hP (j6) rfl rfl rfl (by simp only [go_sem,simprocAttr]) rfl ?_|refine aa hX hC hP (hG) rfl rfl rfl (by simp only [go_sem,simprocAttr]) rfl ?_);try simp only [go_sem,simprocAttr])|((with_reducible refine oD ?_ ?_);kernel_rfl)|((with_reducible intro h);try simp only [go_sem,simprocAttr] at h)|omega|intro h)
 |false=>
 rw [hB] at hG
 obtain ⟨b1,b2,b3,b4⟩:=C9 hB
 obtain ⟨b,hr⟩:=Tq g p
 have On:=E3 g hl p (Ax hB) b hr
 by_cases h0:(bH b g p).2.1=0
 rotate_left
 ·rw [decide_eq_false h0] at On
  (refine Spec.hd (C:=T.cfg [] []) (rs:= [.t 4]) (T.aj _ _) Tryz.func12 rfl rfl Tryz.ntmps12 Tryz.results12 (by simp [AObj.isNest]) (by simp [AObj.isNest]) (by kernel_rfl) T.mixed fun X hX hP hC aJ b7=> ?_)
  repeat' (first|refine Rn.p ?_|(with_reducible apply And.intro)|((first|(refine hK _ ?_;clear hK K)|with_reducible intro K hK|refine Rs.p ?_|((with_reducible first|apply oP|apply oQ);exact rfl)|refine aa hX hC hP (j6) rfl rfl rfl (by simp only [go_sem,simprocAttr]) rfl ?_|refine aa hX hC hP (hG) rfl rfl rfl (by simp only [go_sem,simprocAttr]) rfl ?_|refine aa hX hC hP (On) rfl rfl rfl (by simp only [go_sem,simprocAttr]) rfl ?_);try simp only [go_sem,simprocAttr])|((with_reducible refine oD ?_ ?_);kernel_rfl)|((with_reducible intro h);try simp only [go_sem,simprocAttr] at h)|omega|intro h)
 obtain ⟨hrun,_⟩:=kR hr h0
 rw [decide_eq_true h0] at On
 have hrm:=mQ hrun
 have LC:=AZ p (by omega) (by omega) (fun l hl=>by have:=b4 l hl;omega)
 have RG:=qT g (by omega) p (Ax hB) (by omega) (by omega) (fun l hl=>by have:=b4 l hl;omega) true (gu hrun)
 obtain ⟨s1,s2,s3⟩:=A3 hrm
 have RH:=qT g (by omega) (bM p) (ta hrm) (by omega) (by omega) (fun l hl=>by have:=s3 l hl;omega) true (gu hrm)
 obtain ⟨l1,l2,l3⟩:=JC (b:=true) (g:=g) (p:=p) (by omega) (gu hrun)
 obtain ⟨m1,m2,m3⟩:=E8 (b:=true) (g:=g) (p:=bM p) (by omega) (gu hrm)
 have NM:=rV _ l1 l2 l3
 have hmr:=JE hrun
 have he:(mV true g p).1=Be (mV true g (bM p)).1:=by rw [hmr,JD]
 have hc:(mV true g (bM p)).2=(mV true g p).2:=by rw [hmr]
 rw [hc] at RH
 rw [he] at NM RG
 clear hmr he hc l1 l2 l3
 generalize (mV true g p).2=code at*
 generalize (mV true g (bM p)).1=M at*
 have DB:decide (code=code)=true:=decide_eq_true rfl
 (refine Spec.hd (C:=T.cfg [70] []) (rs:= [.t 4]) (T.aj _ _) Tryz.func12 rfl rfl Tryz.ntmps12 Tryz.results12 (by simp [AObj.isNest]) (by simp [AObj.isNest]) (by kernel_rfl) T.mixed fun X hX hP hC aJ b7=> ?_)
 repeat' (first|(show bW _ (.seq (.region 10 _ _) _) _ _;(refine ga hX 9 0 401 (.tip 71 2 []) rfl rfl rfl (by simp only [go_sem,simprocAttr,DB]) (by decide) (by simp [go_sem,simprocAttr,DB]) ⟨71,2,by decide, .inr rfl⟩ ?_;simp only [List.set_cons_zero,List.set_cons_succ,go_sem,simprocAttr,DB]);(refine ga hX 9 1 402 (.tip 25 1 []) rfl rfl rfl (by simp only [go_sem,simprocAttr,DB]) (by decide) (by simp [go_sem,simprocAttr,DB]) ⟨25,1,by decide, .inr rfl⟩ ?_;simp only [List.set_cons_zero,List.set_cons_succ,go_sem,simprocAttr,DB]))|refine Rn.p ?_|(with_reducible apply And.intro)|((first|(refine hK _ ?_;clear hK K)|with_reducible intro K hK|refine Rs.p ?_|((with_reducible first|apply oP|apply oQ);exact rfl)|refine aa hX hC hP (j6) rfl rfl rfl (by simp only [go_sem,simprocAttr,DB]) rfl ?_|refine aa hX hC hP (hG) rfl rfl rfl (by simp only [go_sem,simprocAttr,DB]) rfl ?_|refine aa hX hC hP (On) rfl rfl rfl (by simp only [go_sem,simprocAttr,DB]) rfl ?_|refine aa hX hC hP (LC) rfl rfl rfl (by simp only [go_sem,simprocAttr,DB]) rfl ?_|refine aa hX hC hP (RG) rfl rfl rfl (by simp only [go_sem,simprocAttr,DB]) rfl ?_|refine aa hX hC hP (RH) rfl rfl rfl (by simp only [go_sem,simprocAttr,DB]) rfl ?_);try simp only [go_sem,simprocAttr,DB])|((with_reducible refine oD ?_ ?_);kernel_rfl)|((with_reducible intro h);try simp only [go_sem,simprocAttr,DB] at h)|omega|intro h)
 have hw:Be M=⟨M.pts.map sy,M.ls.map fun l=>l.map sy⟩:=rfl
 refine ah (fun k:Nat=>k≤M.pts.length) (fun k=>⟨[(4,eB false),(5, .ptr 5 0),(7, .ptr 7 0),(9, .ptr 9 0),(46, .d (sP M.pts)),(47,eN M.pts.length),(48,eN k)], [(5, .box [.d (sP (Be M).pts), .d (sLn (Be M).ls)]),(7, .box [.d (sP M.pts), .d (sLn M.ls)]),(9, .box [.ref 401, .ref 402]),(401, .tip 71 2 (((M.pts.take k).map sy).map rP)),(402, .tip 25 1 [])]⟩) (fun k=>M.pts.length - k) 0 (by omega) ?_ ?_
 ·refine Le.of ?_ ?_<;>simp [go_sem,simprocAttr]
 rintro k hk
 rcases Nat.lt_or_ge k M.pts.length with hlt|hge
 ·have hb:decide ((k:Int)<(M.pts.length:Int))=true:=decide_eq_true (by omega)
  have mO:(M.pts.take k).length=k:=by simp;omega
  have b9:M.pts.take (k+1)=M.pts.take k++ [M.pts.getD k (0,0)]:=by
   rw [List.take_add_one,List.getElem?_eq_getElem hlt,List.getD_eq_getElem?_getD,List.getElem?_eq_getElem hlt];rfl
  generalize NG:M.pts.take (k+1)=P2 at b9
  generalize M.pts.take k=P1 at b9 mO
  generalize hq:M.pts.getD k (0,0)=q at b9
  repeat' (first|(show bW _ (.region 14 _ _) _ _;(refine c7 hX 9 0 60 401 rfl rfl rfl (by first|exact .inl rfl|exact .inr rfl) (by decide) (by decide) ?_;simp only [List.set_cons_zero,List.set_cons_succ,go_sem,simprocAttr,hb,mO,hq]))|refine Rn.p ?_|(with_reducible apply And.intro)|((first|(refine hK _ ?_;clear hK K)|with_reducible intro K hK|refine Rs.p ?_|((with_reducible first|apply oP|apply oQ);exact rfl));try simp only [go_sem,simprocAttr,hb,mO,hq])|((with_reducible refine oD ?_ ?_);kernel_rfl)|((with_reducible intro h);try simp only [go_sem,simprocAttr,hb,mO,hq] at h)|omega|intro h)
  refine ⟨k+1,by omega, ?_,by omega⟩
  rw [NG,b9]
  refine Le.of ?_ ?_<;>simp [go_sem,simprocAttr,hb,mO,hq,sy,rP]
 have hb:decide ((k:Int)<(M.pts.length:Int))=false:=decide_eq_false (by omega)
 obtain rfl:k=M.pts.length:=by omega
 rw [List.take_length]
 repeat' (first|refine Rn.p ?_|(with_reducible apply And.intro)|((first|(refine hK _ ?_;clear hK K)|with_reducible intro K hK|refine Rs.p ?_|((with_reducible first|apply oP|apply oQ);exact rfl));try simp only [go_sem,simprocAttr,hb])|((with_reducible refine oD ?_ ?_);kernel_rfl)|((with_reducible intro h);try simp only [go_sem,simprocAttr,hb] at h)|omega|intro h)
 refine ah (fun i:Nat=>i≤M.ls.length) (fun i=>⟨[(4,eB false),(5, .ptr 5 0),(7, .ptr 7 0),(9, .ptr 9 0),(64, .d (sLn M.ls)),(65,eN M.ls.length),(66,eN i)], [(5, .box [.d (sP (Be M).pts), .d (sLn (Be M).ls)]),(7, .box [.d (sP M.pts), .d (sLn M.ls)]),(9, .box [.ref 401, .ref 402]),(401, .tip 71 2 ((M.pts.map sy).map rP)),(402, .tip 25 1 (vP ((M.ls.take i).map fun l=>l.map sy)))]⟩) (fun i=>M.ls.length - i) 0 (by omega) ?_ ?_
 ·refine Le.of ?_ ?_<;>simp [go_sem,simprocAttr,vP]
 rintro i hi
 rcases Nat.lt_or_ge i M.ls.length with hil|KU
 ·have hb:decide ((i:Int)<(M.ls.length:Int))=true:=decide_eq_true (by omega)
  have mO:((M.ls.take i).map fun l=>l.map sy).length=i:=by simp;omega
  have N4:=vP_getD M.ls i
  have Qu:=m3 _ (aE (d:= []) hil)
  have b9:(M.ls.take (i+1)).map (fun l=>l.map sy)=(M.ls.take i).map (fun l=>l.map sy)++ [(M.ls.getD i []).map sy]:=by
   rw [List.take_add_one,List.getElem?_eq_getElem hil,List.getD_eq_getElem?_getD,List.getElem?_eq_getElem hil,Option.toList_some,List.map_append];rfl
  have Oj:∀l1 l2,vP (l1++ [l2])=vP l1++ [[sP l2]]:=fun l1 l2=>by simp [vP]
  generalize Ol:(M.ls.take (i+1)).map (fun l=>l.map sy)=L2 at b9
  generalize (M.ls.take i).map (fun l=>l.map sy)=L1 at b9 mO
  generalize GJ:M.ls.getD i []=l at b9 N4 Qu
  repeat' (first|refine Rn.p ?_|(with_reducible apply And.intro)|((first|(refine hK _ ?_;clear hK K)|with_reducible intro K hK|refine Rs.p ?_|((with_reducible first|apply oP|apply oQ);exact rfl));try simp only [go_sem,simprocAttr,hb,GJ,vP_length])|((with_reducible refine oD ?_ ?_);kernel_rfl)|((with_reducible intro h);try simp only [go_sem,simprocAttr,hb,GJ,vP_length] at h)|omega|intro h)
  refine ah (fun j:Nat=>j≤l.length) (fun j=>⟨[(4,eB false),(5, .ptr 5 0),(7, .ptr 7 0),(9, .ptr 9 0),(64, .d (sLn M.ls)),(65,eN M.ls.length),(66,eN i),(71, .d (sP l)),(72,eN l.length),(73,eN j),(14, .ref 70)], [(5, .box [.d (sP (Be M).pts), .d (sLn (Be M).ls)]),(7, .box [.d (sP M.pts), .d (sLn M.ls)]),(9, .box [.ref 401, .ref 402]),(401, .tip 71 2 ((M.pts.map sy).map rP)),(402, .tip 25 1 (vP L1)),(70, .own 71 2 (((l.take j).map sy).map rP))]⟩) (fun j=>l.length - j) 0 (by omega) ?_ ?_
  ·refine Le.of ?_ ?_<;>simp [go_sem,simprocAttr]
  rintro j hj
  rcases Nat.lt_or_ge j l.length with hjl|N0
  ·have hb3:decide ((j:Int)<(l.length:Int))=true:=decide_eq_true (by omega)
   have J5:(l.take j).length=j:=by simp;omega
   have LF:l.take (j+1)=l.take j++ [l.getD j (0,0)]:=by
    rw [List.take_add_one,List.getElem?_eq_getElem hjl,List.getD_eq_getElem?_getD,List.getElem?_eq_getElem hjl];rfl
   generalize NG:l.take (j+1)=P2 at LF
   generalize l.take j=P1 at LF J5
   generalize hq:l.getD j (0,0)=q at LF
   repeat' (first|(show bW _ (.region 23 _ _) _ _;(refine lB hX 14 84 70 (by simp only [go_sem,simprocAttr,hb,hb3,J5,hq]) rfl (by first|exact .inl rfl|exact .inr rfl) (by decide) ?_;simp only [go_sem,simprocAttr,hb,hb3,J5,hq]))|refine Rn.p ?_|(with_reducible apply And.intro)|((first|(refine hK _ ?_;clear hK K)|with_reducible intro K hK|refine Rs.p ?_|((with_reducible first|apply oP|apply oQ);exact rfl));try simp only [go_sem,simprocAttr,hb,hb3,J5,hq])|((with_reducible refine oD ?_ ?_);kernel_rfl)|((with_reducible intro h);try simp only [go_sem,simprocAttr,hb,hb3,J5,hq] at h)|omega|intro h)
   refine ⟨j+1,by omega, ?_,by omega⟩
   rw [NG,LF]
   refine Le.of ?_ ?_<;>simp [go_sem,simprocAttr,hb,hb3,J5,hq,sy,rP]
  have hb3:decide ((j:Int)<(l.length:Int))=false:=decide_eq_false (by omega)
  obtain rfl:j=l.length:=by omega
  rw [List.take_length]
  repeat' (first|(show bW _ (.region 24 _ _) _ _;(refine cn hX 70 rfl (.inl rfl) ?_;simp only [go_sem,simprocAttr,hb,hb3,vP_length,mO]))|(show bW _ (.region 25 _ _) _ _;(refine c7 hX 9 1 90 402 rfl rfl rfl (by first|exact .inl rfl|exact .inr rfl) (by decide) (by decide) ?_;simp only [List.set_cons_zero,List.set_cons_succ,go_sem,simprocAttr,hb,hb3,vP_length,mO]))|refine Rn.p ?_|(with_reducible apply And.intro)|((first|(refine hK _ ?_;clear hK K)|with_reducible intro K hK|refine Rs.p ?_|((with_reducible first|apply oP|apply oQ);exact rfl));try simp only [go_sem,simprocAttr,hb,hb3,vP_length,mO])|((with_reducible refine oD ?_ ?_);kernel_rfl)|((with_reducible intro h);try simp only [go_sem,simprocAttr,hb,hb3,vP_length,mO] at h)|omega|intro h)
  refine ⟨i+1,by omega, ?_,by omega⟩
  rw [Ol,b9,Oj]
  refine Le.of ?_ ?_<;>simp [go_sem,simprocAttr,hb,hb3,vP_length,mO,sP]
 have hb:decide ((i:Int)<(M.ls.length:Int))=false:=decide_eq_false (by omega)
 obtain rfl:i=M.ls.length:=by omega
 rw [List.take_length]
 have Oi:eDr (Be M)= .agg [.d (sP (M.pts.map sy)), .d (sLn (M.ls.map fun l=>l.map sy))]:=rfl
 have QD:(Be M).pts=M.pts.map sy:=rfl
 have QE:(Be M).ls=M.ls.map fun l=>l.map sy:=rfl
 rw [Oi] at NM
 repeat' (first|refine Rn.p ?_|(with_reducible apply And.intro)|((first|(refine hK _ ?_;clear hK K)|with_reducible intro K hK|refine Rs.p ?_|((with_reducible first|apply oP|apply oQ);exact rfl)|(refine cE hX hC hP (NM) rfl rfl rfl ?_ ?_ rfl ?_;iterate 2 (focus (simp only [go_sem,simprocAttr,hb,QD,QE];done))));try simp only [go_sem,simprocAttr,hb,QD,QE])|((with_reducible refine oD ?_ ?_);kernel_rfl)|((with_reducible intro h);try simp only [go_sem,simprocAttr,hb,QD,QE] at h)|omega|intro h)
end Go.Ab
end
