/- A part of the proof. -/
import Derived.RangeFuncBox
import Derived.RangeFuncLeaves
import Derived.Shelf.Abstract
import Derived.WalkKit
import Derived.OwnWalkIn
import Derived.TacticsInMore
import Derived.LoopNIn
import Derived.LoopIn
import Derived.Test.YtameldglfobjkaaGreatL3P17
set_option linter.unusedSimpArgs false
set_option linter.unusedVariables false
section
namespace Go.Ab
open Go.Proofs
attribute [local congr] ACall.congr gd.congr Nx.congr
set_option maxRecDepth 20000
set_option maxHeartbeats 32000000
def oT (b:Br) (g:Gr):Bool:=decide ((b.y.length:Int)=g.n)&&decide ((b.fr.length:Int)=g.n)&&decide ((b.to.length:Int)=g.n)&&decide ((b.x.length:Int)=(g.es.length:Int))
theorem EE (b:Br) (g:Gr):Spec Tryz.prog 96 (Args [bZ b,eG g]) [] (eB (oT b g)) []:=by
 have hf:oT b g=(decide ((b.y.length:Int)=g.n)&&decide ((b.fr.length:Int)=g.n)&&decide ((b.to.length:Int)=g.n)&&decide ((b.x.length:Int)=(g.es.length:Int))):=rfl
 cases h1:decide ((b.y.length:Int)=g.n)<;>cases h2:decide ((b.fr.length:Int)=g.n)<;>cases h3:decide ((b.to.length:Int)=g.n)<;>rw [h1,h2,h3] at hf<;>simp only [Bool.and_true,Bool.and_false,Bool.true_and,Bool.false_and] at hf<;>rw [hf]
 all_goals (
 (refine Spec.hd (C:=T.cfg [] []) (rs:= [.t 4]) (T.ah _ _) Tryz.func96 rfl rfl Tryz.ntmps96 Tryz.results96 (by simp [AObj.isNest]) (by simp [AObj.isNest]) (by kernel_rfl) T.mixed fun X hX hP hC aI bU=> ?_)
 repeat' (first|refine Rn.p ?_|(with_reducible apply And.intro)|((first|(refine hK _ ?_;clear hK K)|with_reducible intro K hK|refine Rs.p ?_|((with_reducible first|apply oP|apply oQ);exact rfl));try simp only [go_sem,simprocAttr,bZ,h1,h2,h3])|((with_reducible refine oD ?_ ?_);kernel_rfl)|((with_reducible intro h);try simp only [go_sem,simprocAttr,bZ,h1,h2,h3] at h)|omega|intro h))
def yY (b:Br) (lo hi q:Int) (x:Nat):Bool:=decide (lo<b.y.getD x 0)&&decide (b.y.getD x 0<hi)&&hasB b x q
def eL (b:Br) (s t:Nat) (q:Int):Bool:=decide (b.y.getD s 0<b.y.getD t 0)&&hasB b s q&&hasB b t q&&(List.range b.y.length).all fun x=> !yY b (b.y.getD s 0) (b.y.getD t 0) q x
theorem B4 (b:Br) (s t:Nat) (q:Int) (h1:b.fr.length=b.y.length) (h2:b.to.length=b.y.length) (hl:b.y.length≤100000) (hs:s<b.y.length) (ht:t<b.y.length):Spec Tryz.prog 98 (Args [bZ b, .agg [eN s,eN t],eN q]) [] (eB (eL b s t q)) []:=by
 have hH:=fun x (hx:x<b.y.length)=>B0 b x q (by omega) (by omega) (by omega)
 have N9:=hH s hs
 have OR:=hH t ht
 by_cases hc:b.y.getD s 0<b.y.getD t 0
 rotate_left
 ·have hr:eL b s t q=false:=by unfold eL;rw [decide_eq_false hc];rfl
  have hc1:decide (b.y.getD t 0≤b.y.getD s 0)=true:=decide_eq_true (by omega)
  rw [hr]
  (refine Spec.hd (C:=T.cfg [] []) (rs:= [.t 6]) (T.ah _ _) Tryz.func98 rfl rfl Tryz.ntmps98 Tryz.results98 (by simp [AObj.isNest]) (by simp [AObj.isNest]) (by kernel_rfl) T.mixed fun X hX hP hC aI bU=> ?_)
  repeat' (first|refine Rn.p ?_|(with_reducible apply And.intro)|((first|(refine hK _ ?_;clear hK K)|with_reducible intro K hK|refine Rs.p ?_|((with_reducible first|apply oP|apply oQ);exact rfl));try simp only [go_sem,simprocAttr,bZ,hc1])|((with_reducible refine oD ?_ ?_);kernel_rfl)|((with_reducible intro h);try simp only [go_sem,simprocAttr,bZ,hc1] at h)|omega|intro h)
 have hc1:decide (b.y.getD t 0≤b.y.getD s 0)=false:=decide_eq_false (by omega)
 cases hvs:hasB b s q with
 |false=>
  have hr:eL b s t q=false:=by unfold eL;rw [hvs];simp
  rw [hr]
  rw [hvs] at N9
  (refine Spec.hd (C:=T.cfg [] []) (rs:= [.t 6]) (T.ah _ _) Tryz.func98 rfl rfl Tryz.ntmps98 Tryz.results98 (by simp [AObj.isNest]) (by simp [AObj.isNest]) (by kernel_rfl) T.mixed fun X hX hP hC aI bU=> ?_)
  repeat' (first|refine Rn.p ?_|(with_reducible apply And.intro)|((first|(refine hK _ ?_;clear hK K)|with_reducible intro K hK|refine Rs.p ?_|((with_reducible first|apply oP|apply oQ);exact rfl)|refine aa hX hC hP (N9) rfl rfl rfl (by simp only [go_sem,simprocAttr,bZ,hc1]) rfl ?_);try simp only [go_sem,simprocAttr,bZ,hc1])|((with_reducible refine oD ?_ ?_);kernel_rfl)|((with_reducible intro h);try simp only [go_sem,simprocAttr,bZ,hc1] at h)|omega|intro h)
 |true=>
 rw [hvs] at N9
 cases B5:hasB b t q with
 |false=>
  have hr:eL b s t q=false:=by unfold eL;rw [B5];simp
  rw [hr]
  rw [B5] at OR
  (refine Spec.hd (C:=T.cfg [] []) (rs:= [.t 6]) (T.ah _ _) Tryz.func98 rfl rfl Tryz.ntmps98 Tryz.results98 (by simp [AObj.isNest]) (by simp [AObj.isNest]) (by kernel_rfl) T.mixed fun X hX hP hC aI bU=> ?_)
  repeat' (first|refine Rn.p ?_|(with_reducible apply And.intro)|((first|(refine hK _ ?_;clear hK K)|with_reducible intro K hK|refine Rs.p ?_|((with_reducible first|apply oP|apply oQ);exact rfl)|refine aa hX hC hP (N9) rfl rfl rfl (by simp only [go_sem,simprocAttr,bZ,hc1]) rfl ?_|refine aa hX hC hP (OR) rfl rfl rfl (by simp only [go_sem,simprocAttr,bZ,hc1]) rfl ?_);try simp only [go_sem,simprocAttr,bZ,hc1])|((with_reducible refine oD ?_ ?_);kernel_rfl)|((with_reducible intro h);try simp only [go_sem,simprocAttr,bZ,hc1] at h)|omega|intro h)
 |true=>
 rw [B5] at OR
 have hr:eL b s t q=(List.range b.y.length).all fun x=> !yY b (b.y.getD s 0) (b.y.getD t 0) q x:=by unfold eL;rw [hvs,B5,decide_eq_true hc];rfl
 rw [hr]
 (refine Spec.hd (C:=T.cfg [] []) (rs:= [.t 6]) (T.ah _ _) Tryz.func98 rfl rfl Tryz.ntmps98 Tryz.results98 (by simp [AObj.isNest]) (by simp [AObj.isNest]) (by kernel_rfl) T.mixed fun X hX hP hC aI bU=> ?_)
 repeat' (first|refine Rn.p ?_|(with_reducible apply And.intro)|((first|(refine hK _ ?_;clear hK K)|with_reducible intro K hK|refine Rs.p ?_|((with_reducible first|apply oP|apply oQ);exact rfl)|refine aa hX hC hP (N9) rfl rfl rfl (by simp only [go_sem,simprocAttr,bZ,hc1]) rfl ?_|refine aa hX hC hP (OR) rfl rfl rfl (by simp only [go_sem,simprocAttr,bZ,hc1]) rfl ?_);try simp only [go_sem,simprocAttr,bZ,hc1])|((with_reducible refine oD ?_ ?_);kernel_rfl)|((with_reducible intro h);try simp only [go_sem,simprocAttr,bZ,hc1] at h)|omega|intro h)
 refine ag (fun k:Nat=>k≤b.y.length∧∀j,j<k→yY b (b.y.getD s 0) (b.y.getD t 0) q j=false) (fun k=>⟨[(2,eN q),(3, .ptr 3 0),(7,eN (b.y.getD s 0)),(8,eN (b.y.getD t 0)),(43, .d (sI b.y)),(44,eN b.y.length),(45,eN k)], [(3, .box [.d (sI b.y), .d (sI b.fr), .d (sI b.to), .d (sI b.x)])]⟩) (fun k=>b.y.length - k) 0 ⟨by omega,fun j hj=>by omega⟩ ?_ ?_
 ·refine Le.of ?_ ?_<;>simp [go_sem,simprocAttr]
 rintro k ⟨hk,hin⟩
 rcases Nat.lt_or_ge k b.y.length with bS|Bh
 rotate_left
 ·have hb:decide ((k:Int)<(b.y.length:Int))=false:=decide_eq_false (by omega)
  obtain rfl:k=b.y.length:=by omega
  rw [iz (f:=fun x=> !yY b (b.y.getD s 0) (b.y.getD t 0) q x) (fun i hi=>by rw [hin i hi];rfl)]
  repeat' (first|refine Rn.p ?_|(with_reducible apply And.intro)|((first|(refine hK _ ?_;clear hK K)|with_reducible intro K hK|refine Rs.p ?_|((with_reducible first|apply oP|apply oQ);exact rfl));try simp only [go_sem,simprocAttr,hb])|((with_reducible refine oD ?_ ?_);kernel_rfl)|((with_reducible intro h);try simp only [go_sem,simprocAttr,hb] at h)|omega|intro h)
 have hb:decide ((k:Int)<(b.y.length:Int))=true:=decide_eq_true (by omega)
 have SN:=hH k bS
 have hap:yY b (b.y.getD s 0) (b.y.getD t 0) q k=(decide (b.y.getD s 0<b.y.getD k 0)&&decide (b.y.getD k 0<b.y.getD t 0)&&hasB b k q):=rfl
 have hno:yY b (b.y.getD s 0) (b.y.getD t 0) q k=true→((List.range b.y.length).all fun x=> !yY b (b.y.getD s 0) (b.y.getD t 0) q x)=false:=fun h1=>gR bS (by rw [h1];rfl)
 have hyes:yY b (b.y.getD s 0) (b.y.getD t 0) q k=false→∀j,j<k+1→yY b (b.y.getD s 0) (b.y.getD t 0) q j=false:=fun h1 j hj=>by
  by_cases vG:j=k
  ·subst vG;exact h1
  ·exact hin j (by omega)
 generalize yY b (b.y.getD s 0) (b.y.getD t 0) q k=av at*
 cases pT:decide (b.y.getD s 0<b.y.getD k 0)<;>cases hd2:decide (b.y.getD k 0<b.y.getD t 0)<;>cases vu:hasB b k q<;>rw [pT,hd2,vu] at hap<;>simp only [Bool.and_true,Bool.and_false,Bool.true_and,Bool.false_and] at hap<;>subst hap<;>rw [vu] at SN
 all_goals (
 repeat' (first|refine Rn.p ?_|(with_reducible apply And.intro)|((first|(refine hK _ ?_;clear hK K)|with_reducible intro K hK|refine Rs.p ?_|((with_reducible first|apply oP|apply oQ);exact rfl)|(refine aZ hX hC hP (SN) rfl rfl rfl ?_ ?_ rfl ?_;iterate 2 (focus (simp only [go_sem,simprocAttr,bZ,hb,pT,hd2];done))));try simp only [go_sem,simprocAttr,bZ,hb,pT,hd2])|((with_reducible refine oD ?_ ?_);kernel_rfl)|((with_reducible intro h);try simp only [go_sem,simprocAttr,bZ,hb,pT,hd2] at h)|omega|intro h))
 all_goals (first|(exact hno rfl)|(exact (hno rfl).symm)|(refine ⟨k+1,⟨by omega,hyes rfl⟩, ?_,by omega⟩;refine Le.of ?_ ?_<;>simp [go_sem];done)|trace_state)
def EF (g:Gr) (b:Br) (i k:Nat):Bool:=decide (b.x.getD k 0=b.x.getD i 0)&&decide (b.y.getD (tl g i).toNat 0<b.y.getD (hd g k).toNat 0)&&decide (b.y.getD (tl g k).toNat 0<b.y.getD (hd g i).toNat 0)
def Il (g:Gr) (b:Br) (i:Nat):Bool:=eL b (tl g i).toNat (hd g i).toNat (b.x.getD i 0)&&(List.range i).all fun k=> !EF g b i k
def de (g:Gr) (b:Br):Bool:=decide ((bF g).1=0)&&oT b g&&lX b&&(List.range g.es.length).all (Il g b)
theorem qQ (g:Gr) (b:Br) (hl:g.es.length≤1000) (au:b.y.length≤1000) (az:b.x.length≤1000):Spec Tryz.prog 52 (Args [eG g,bZ b]) [] (eB (de g b)) []:=by
 have OS:=jx g hl
 have Oa:=EE b g
 by_cases hc:(bF g).1=0
 rotate_left
 ·have hr:de g b=false:=by unfold de;rw [decide_eq_false hc];rfl
  have hc0:decide ((bF g).1=0)=false:=decide_eq_false hc
  rw [hr]
  (refine Spec.hd (C:=T.cfg [] []) (rs:= [.t 4]) (T.ah _ _) Tryz.func52 rfl rfl Tryz.ntmps52 Tryz.results52 (by simp [AObj.isNest]) (by simp [AObj.isNest]) (by kernel_rfl) T.mixed fun X hX hP hC aI bU=> ?_)
  repeat' (first|refine Rn.p ?_|(with_reducible apply And.intro)|((first|(refine hK _ ?_;clear hK K)|with_reducible intro K hK|refine Rs.p ?_|((with_reducible first|apply oP|apply oQ);exact rfl)|refine aa hX hC hP (OS) rfl rfl rfl (by simp only [go_sem,simprocAttr,eF,bZ,hc0]) rfl ?_);try simp only [go_sem,simprocAttr,eF,bZ,hc0])|((with_reducible refine oD ?_ ?_);kernel_rfl)|((with_reducible intro h);try simp only [go_sem,simprocAttr,eF,bZ,hc0] at h)|omega|intro h)
 have hc0:decide ((bF g).1=0)=true:=decide_eq_true hc
 cases Im:oT b g with
 |false=>
  have hr:de g b=false:=by unfold de;rw [Im];simp
  rw [hr]
  rw [Im] at Oa
  (refine Spec.hd (C:=T.cfg [] []) (rs:= [.t 4]) (T.ah _ _) Tryz.func52 rfl rfl Tryz.ntmps52 Tryz.results52 (by simp [AObj.isNest]) (by simp [AObj.isNest]) (by kernel_rfl) T.mixed fun X hX hP hC aI bU=> ?_)
  repeat' (first|refine Rn.p ?_|(with_reducible apply And.intro)|((first|(refine hK _ ?_;clear hK K)|with_reducible intro K hK|refine Rs.p ?_|((with_reducible first|apply oP|apply oQ);exact rfl)|refine aa hX hC hP (OS) rfl rfl rfl (by simp only [go_sem,simprocAttr,eF,bZ,hc0]) rfl ?_|refine aa hX hC hP (Oa) rfl rfl rfl (by simp only [go_sem,simprocAttr,eF,bZ,hc0]) rfl ?_);try simp only [go_sem,simprocAttr,eF,bZ,hc0])|((with_reducible refine oD ?_ ?_);kernel_rfl)|((with_reducible intro h);try simp only [go_sem,simprocAttr,eF,bZ,hc0] at h)|omega|intro h)
 |true=>
 rw [Im] at Oa
 have hm:=an hc
 have hn:=aM hm
 have HC:=Im
 simp only [oT,Bool.and_eq_true,decide_eq_true_eq] at HC
 obtain ⟨⟨⟨l1,l2⟩,l3⟩,l4⟩:=HC
 have OU:=apart_spec b (by omega) (by omega) (by omega)
 cases hap:lX b with
 |false=>
  have hr:de g b=false:=by unfold de;rw [hap];simp
  rw [hr]
  rw [hap] at OU
  (refine Spec.hd (C:=T.cfg [] []) (rs:= [.t 4]) (T.ah _ _) Tryz.func52 rfl rfl Tryz.ntmps52 Tryz.results52 (by simp [AObj.isNest]) (by simp [AObj.isNest]) (by kernel_rfl) T.mixed fun X hX hP hC aI bU=> ?_)
  repeat' (first|refine Rn.p ?_|(with_reducible apply And.intro)|((first|(refine hK _ ?_;clear hK K)|with_reducible intro K hK|refine Rs.p ?_|((with_reducible first|apply oP|apply oQ);exact rfl)|refine aa hX hC hP (OS) rfl rfl rfl (by simp only [go_sem,simprocAttr,eF,bZ,hc0]) rfl ?_|refine aa hX hC hP (Oa) rfl rfl rfl (by simp only [go_sem,simprocAttr,eF,bZ,hc0]) rfl ?_|refine aa hX hC hP (OU) rfl rfl rfl (by simp only [go_sem,simprocAttr,eF,bZ,hc0]) rfl ?_);try simp only [go_sem,simprocAttr,eF,bZ,hc0])|((with_reducible refine oD ?_ ?_);kernel_rfl)|((with_reducible intro h);try simp only [go_sem,simprocAttr,eF,bZ,hc0] at h)|omega|intro h)
 |true=>
 rw [hap] at OU
 have hr:de g b=(List.range g.es.length).all (Il g b):=by unfold de;rw [hc0,Im,hap];rfl
 rw [hr]
 (refine Spec.hd (C:=T.cfg [] []) (rs:= [.t 4]) (T.ah _ _) Tryz.func52 rfl rfl Tryz.ntmps52 Tryz.results52 (by simp [AObj.isNest]) (by simp [AObj.isNest]) (by kernel_rfl) T.mixed fun X hX hP hC aI bU=> ?_)
 repeat' (first|refine Rn.p ?_|(with_reducible apply And.intro)|((first|(refine hK _ ?_;clear hK K)|with_reducible intro K hK|refine Rs.p ?_|((with_reducible first|apply oP|apply oQ);exact rfl)|refine aa hX hC hP (OS) rfl rfl rfl (by simp only [go_sem,simprocAttr,eF,bZ,hc0]) rfl ?_|refine aa hX hC hP (Oa) rfl rfl rfl (by simp only [go_sem,simprocAttr,eF,bZ,hc0]) rfl ?_|refine aa hX hC hP (OU) rfl rfl rfl (by simp only [go_sem,simprocAttr,eF,bZ,hc0]) rfl ?_);try simp only [go_sem,simprocAttr,eF,bZ,hc0])|((with_reducible refine oD ?_ ?_);kernel_rfl)|((with_reducible intro h);try simp only [go_sem,simprocAttr,eF,bZ,hc0] at h)|omega|intro h)
 refine ag (fun i:Nat=>i≤g.es.length∧∀j,j<i→Il g b j=true) (fun i=>⟨[(2, .ptr 2 0),(3, .ptr 3 0),(25, .d (sE g.es)),(26,eN g.es.length),(27,eN i)], [(2, .box [eN g.n, .d (sE g.es)]),(3, .box [.d (sI b.y), .d (sI b.fr), .d (sI b.to), .d (sI b.x)])]⟩) (fun i=>g.es.length - i) 0 ⟨by omega,fun j hj=>by omega⟩ ?_ ?_
 ·refine Le.of ?_ ?_<;>simp [go_sem,simprocAttr,bZ]
 rintro i ⟨hi,hin⟩
 rcases Nat.lt_or_ge i g.es.length with hil|No
 rotate_left
 ·have mD:decide ((i:Int)<(g.es.length:Int))=false:=decide_eq_false (by omega)
  obtain rfl:i=g.es.length:=by omega
  rw [iz hin]
  repeat' (first|refine Rn.p ?_|(with_reducible apply And.intro)|((first|(refine hK _ ?_;clear hK K)|with_reducible intro K hK|refine Rs.p ?_|((with_reducible first|apply oP|apply oQ);exact rfl));try simp only [go_sem,simprocAttr,mD])|((with_reducible refine oD ?_ ?_);kernel_rfl)|((with_reducible intro h);try simp only [go_sem,simprocAttr,mD] at h)|omega|intro h)
 have mD:decide ((i:Int)<(g.es.length:Int))=true:=decide_eq_true (by omega)
 obtain ⟨t1,t2⟩:=eH hm hil
 obtain ⟨s,hs⟩:∃s:Nat,(g.es.getD i (0,0)).1=s:=⟨(g.es.getD i (0,0)).1.toNat,by omega⟩
 obtain ⟨t,ht⟩:∃t:Nat,(g.es.getD i (0,0)).2=t:=⟨(g.es.getD i (0,0)).2.toNat,by omega⟩
 have hts:(tl g i).toNat=s:=by show ((g.es.getD i (0,0)).1).toNat=s;rw [hs];rfl
 have Co:(hd g i).toNat=t:=by show ((g.es.getD i (0,0)).2).toNat=t;rw [ht];rfl
 have Ik:=B4 b s t (b.x.getD i 0) (by omega) (by omega) (by omega) (by omega) (by omega)
 have pY:Il g b i=(eL b s t (b.x.getD i 0)&&(List.range i).all fun k=> !EF g b i k):=by unfold Il;rw [hts,Co]
 cases ga:eL b s t (b.x.getD i 0) with
 |false=>
  rw [ga] at Ik
  rw [gR hil (f:=Il g b) (by rw [pY,ga];rfl)]
  repeat' (first|refine Rn.p ?_|(with_reducible apply And.intro)|((first|(refine hK _ ?_;clear hK K)|with_reducible intro K hK|refine Rs.p ?_|((with_reducible first|apply oP|apply oQ);exact rfl)|(refine aZ hX hC hP (Ik) rfl rfl rfl ?_ ?_ rfl ?_;iterate 2 (focus (simp only [go_sem,simprocAttr,bZ,mD,hs,ht];done))));try simp only [go_sem,simprocAttr,bZ,mD,hs,ht])|((with_reducible refine oD ?_ ?_);kernel_rfl)|((with_reducible intro h);try simp only [go_sem,simprocAttr,bZ,mD,hs,ht] at h)|omega|intro h)
 |true=>
 rw [ga] at Ik pY
 rw [Bool.true_and] at pY
 repeat' (first|refine Rn.p ?_|(with_reducible apply And.intro)|((first|(refine hK _ ?_;clear hK K)|with_reducible intro K hK|refine Rs.p ?_|((with_reducible first|apply oP|apply oQ);exact rfl)|(refine aZ hX hC hP (Ik) rfl rfl rfl ?_ ?_ rfl ?_;iterate 2 (focus (simp only [go_sem,simprocAttr,bZ,mD,hs,ht];done))));try simp only [go_sem,simprocAttr,bZ,mD,hs,ht])|((with_reducible refine oD ?_ ?_);kernel_rfl)|((with_reducible intro h);try simp only [go_sem,simprocAttr,bZ,mD,hs,ht] at h)|omega|intro h)
 refine ag (fun k:Nat=>k≤i∧∀j,j<k→EF g b i j=false) (fun k=>⟨[(2, .ptr 2 0),(3, .ptr 3 0),(5,eN i),(6, .ptr 6 0),(25, .d (sE g.es)),(26,eN g.es.length),(27,eN i),(44, .d (.sl 2 ((g.es.map rE).take i))),(45,eN i),(46,eN k)], [(2, .box [eN g.n, .d (sE g.es)]),(3, .box [.d (sI b.y), .d (sI b.fr), .d (sI b.to), .d (sI b.x)]),(6, .box [eN s,eN t])]⟩) (fun k=>i - k) 0 ⟨by omega,fun j hj=>by omega⟩ ?_ ?_
 ·refine Le.of ?_ ?_<;>simp [go_sem,simprocAttr]
  all_goals omega
 rintro k ⟨hk,HD⟩
 rcases Nat.lt_or_ge k i with bS|Bh
 rotate_left
 ·have hbk:decide ((k:Int)<(i:Int))=false:=decide_eq_false (by omega)
  obtain rfl:k=i:=by omega
  repeat' (first|refine Rn.p ?_|(with_reducible apply And.intro)|((first|(refine hK _ ?_;clear hK K)|with_reducible intro K hK|refine Rs.p ?_|((with_reducible first|apply oP|apply oQ);exact rfl));try simp only [go_sem,simprocAttr,hbk])|((with_reducible refine oD ?_ ?_);kernel_rfl)|((with_reducible intro h);try simp only [go_sem,simprocAttr,hbk] at h)|omega|intro h)
  refine ⟨k+1,⟨by omega,fun j hj=> ?_⟩, ?_,by omega⟩
  ·by_cases hjk:j=k
   ·subst hjk
    rw [pY,iz (f:=fun z=> !EF g b j z) (fun z hz=>by rw [HD z hz];rfl)]
   ·exact hin j (by omega)
  ·refine Le.of ?_ ?_<;>simp [go_sem,simprocAttr,hbk]
 have hbk:decide ((k:Int)<(i:Int))=true:=decide_eq_true (by omega)
 obtain ⟨t3,t4⟩:=eH hm (k:=k) (by omega)
 obtain ⟨s',hs'⟩:∃s':Nat,(g.es.getD k (0,0)).1=s':=⟨(g.es.getD k (0,0)).1.toNat,by omega⟩
 obtain ⟨t',ht'⟩:∃t':Nat,(g.es.getD k (0,0)).2=t':=⟨(g.es.getD k (0,0)).2.toNat,by omega⟩
 have Lo:(tl g k).toNat=s':=by show ((g.es.getD k (0,0)).1).toNat=s';rw [hs'];rfl
 have Lq:(hd g k).toNat=t':=by show ((g.es.getD k (0,0)).2).toNat=t';rw [ht'];rfl
 have pK:∀d,((g.es.map rE).take i).getD k d= [.sc (.int .i64 (s':Int)), .sc (.int .i64 (t':Int))]:=fun d=>by
  rw [List.getD_eq_getElem?_getD,List.getElem?_take,if_pos bS,List.getElem?_map]
  have e:g.es[k]? =some (g.es.getD k (0,0)):=by rw [List.getD_eq_getElem?_getD,List.getElem?_eq_getElem (by omega)];rfl
  rw [e]
  show rE (g.es.getD k (0,0))=_
  rw [show g.es.getD k (0,0)=((s':Int),(t':Int)) from Prod.ext hs' ht'];rfl
 have pZ:((g.es.map rE).take i).length=i:=by rw [List.length_take,List.length_map];omega
 have RG:EF g b i k=(decide (b.x.getD k 0=b.x.getD i 0)&&decide (b.y.getD s 0<b.y.getD t' 0)&&decide (b.y.getD s' 0<b.y.getD t 0)):=by unfold EF;rw [hts,Co,Lo,Lq]
 have hno:EF g b i k=true→(List.range g.es.length).all (Il g b)=false:=fun h1=>gR hil (by rw [pY];exact gR (f:=fun z=> !EF g b i z) bS (by rw [h1];rfl))
 have hyes:EF g b i k=false→∀j,j<k+1→EF g b i j=false:=fun h1 j hj=>by
  by_cases vG:j=k
  ·subst vG;exact h1
  ·exact HD j (by omega)
 generalize EF g b i k=av at*
 generalize (g.es.map rE).take i=T1 at*
 cases pT:decide (b.x.getD k 0=b.x.getD i 0)<;>cases hd2:decide (b.y.getD s 0<b.y.getD t' 0)<;>cases vu:decide (b.y.getD s' 0<b.y.getD t 0)<;>rw [pT,hd2,vu] at RG<;>simp only [Bool.and_true,Bool.and_false,Bool.true_and,Bool.false_and] at RG<;>subst RG
 all_goals (
 repeat' (first|refine Rn.p ?_|(with_reducible apply And.intro)|((first|(refine hK _ ?_;clear hK K)|with_reducible intro K hK|refine Rs.p ?_|((with_reducible first|apply oP|apply oQ);exact rfl));try simp only [go_sem,simprocAttr,hbk,pT,hd2,vu,pK,pZ])|((with_reducible refine oD ?_ ?_);kernel_rfl)|((with_reducible intro h);try simp only [go_sem,simprocAttr,hbk,pT,hd2,vu,pK,pZ] at h)|omega|intro h))
 all_goals (first|(exact hno rfl)|(exact (hno rfl).symm)|(refine ⟨k+1,⟨by omega,hyes rfl⟩, ?_,by omega⟩;refine Le.of ?_ ?_<;>simp [go_sem];done)|trace_state)
end Go.Ab
end
section
namespace Go.Ab
open Go.Proofs
attribute [local congr] ACall.congr gd.congr Nx.congr
set_option maxRecDepth 20000
set_option maxHeartbeats 32000000
theorem AJ (b:Br) (x:Nat) (q:Int) (h1:x<b.fr.length) (h2:x<b.to.length) (hl:b.fr.length≤100000):Spec Tryz.prog 83 (Args [bZ b,eN x,eN q]) [] (eB (hasB b x q)) []:=by
 cases hc:decide (b.fr.getD x 0≤q) with
 |false=>
  have hr:hasB b x q=false:=by unfold hasB;rw [hc];rfl
  rw [hr]
  (refine Spec.hd (C:=T.cfg [] []) (rs:= [.t 6]) (T.ah _ _) Tryz.func83 rfl rfl Tryz.ntmps83 Tryz.results83 (by simp [AObj.isNest]) (by simp [AObj.isNest]) (by kernel_rfl) T.mixed fun X hX hP hC aI bU=> ?_)
  repeat' (first|refine Rn.p ?_|(with_reducible apply And.intro)|((first|(refine hK _ ?_;clear hK K)|with_reducible intro K hK|refine Rs.p ?_|((with_reducible first|apply oP|apply oQ);exact rfl));try simp only [go_sem,simprocAttr,bZ,hc])|((with_reducible refine oD ?_ ?_);kernel_rfl)|((with_reducible intro h);try simp only [go_sem,simprocAttr,bZ,hc] at h)|omega|intro h)
 |true=>
  have hr:hasB b x q=decide (q≤b.to.getD x 0):=by unfold hasB;rw [hc];rfl
  rw [hr]
  (refine Spec.hd (C:=T.cfg [] []) (rs:= [.t 6]) (T.ah _ _) Tryz.func83 rfl rfl Tryz.ntmps83 Tryz.results83 (by simp [AObj.isNest]) (by simp [AObj.isNest]) (by kernel_rfl) T.mixed fun X hX hP hC aI bU=> ?_)
  repeat' (first|refine Rn.p ?_|(with_reducible apply And.intro)|((first|(refine hK _ ?_;clear hK K)|with_reducible intro K hK|refine Rs.p ?_|((with_reducible first|apply oP|apply oQ);exact rfl));try simp only [go_sem,simprocAttr,bZ,hc])|((with_reducible refine oD ?_ ?_);kernel_rfl)|((with_reducible intro h);try simp only [go_sem,simprocAttr,bZ,hc] at h)|omega|intro h)
def Io (b:Br) (x z:Nat):Bool:= !decide ((x:Int)=(z:Int))&&decide (b.y.getD x 0=b.y.getD z 0)&& !(decide (b.to.getD x 0<b.fr.getD z 0)||decide (b.to.getD z 0<b.fr.getD x 0))
def HE (b:Br) (n x:Nat):Bool:=decide (b.fr.getD x 0≤b.to.getD x 0)&&(List.range n).all fun z=> !Io b x z
def E5 (g:Gr) (b:Br) (i k:Nat):Bool:= !decide ((k:Int)=(i:Int))&&decide (b.x.getD k 0=b.x.getD i 0)&& !(decide (b.y.getD (hd g i).toNat 0≤b.y.getD (tl g k).toNat 0)||decide (b.y.getD (hd g k).toNat 0≤b.y.getD (tl g i).toNat 0))
def HF (g:Gr) (b:Br) (i:Nat):Bool:=eL b (tl g i).toNat (hd g i).toNat (b.x.getD i 0)&&(List.range g.es.length).all fun k=> !E5 g b i k
def gB (g:Gr) (b:Br):Bool:=decide ((bF g).1=0)&&oT b g&&(List.range b.y.length).all (HE b b.y.length)&&(List.range g.es.length).all (HF g b)
theorem AK (g:Gr) (b:Br):gB g b=de g b:=by
 have e1:(List.range b.y.length).all (HE b b.y.length)=lX b:=by
  rw [Bool.eq_iff_iff]
  unfold lX
  simp only [List.all_eq_true,List.mem_range,HE,Ln,Bool.and_eq_true,decide_eq_true_eq,Bool.not_eq_true',Io,HA,Bool.and_eq_false_iff,Bool.or_eq_false_iff,Bool.not_eq_false',Bool.or_eq_true,decide_eq_false_iff_not,Bool.not_eq_eq_eq_not,Bool.not_true,Bool.not_false]
  constructor
  ·intro h x hx
   refine ⟨(h x hx).1,fun z hz=> ?_⟩
   have:=(h x hx).2 z (by omega)
   omega
  ·intro h x hx
   refine ⟨(h x hx).1,fun z hz=> ?_⟩
   rcases Nat.lt_trichotomy x z with h1|h1|h1
   ·have:=(h z hz).2 x h1;omega
   ·omega
   ·have:=(h x hx).2 z h1;omega
 have e2:(List.range g.es.length).all (HF g b)=(List.range g.es.length).all (Il g b):=by
  rw [Bool.eq_iff_iff]
  simp only [List.all_eq_true,List.mem_range,HF,Il,Bool.and_eq_true,decide_eq_true_eq,Bool.not_eq_true',E5,EF,Bool.and_eq_false_iff,Bool.or_eq_false_iff,Bool.not_eq_false',Bool.or_eq_true,decide_eq_false_iff_not,Bool.not_eq_eq_eq_not,Bool.not_true,Bool.not_false]
  constructor
  ·intro h i hi
   refine ⟨(h i hi).1,fun k hk=> ?_⟩
   have:=(h i hi).2 k (by omega)
   omega
  ·intro h i hi
   refine ⟨(h i hi).1,fun k hk=> ?_⟩
   rcases Nat.lt_trichotomy i k with h1|h1|h1
   ·have:=(h k hk).2 i h1;omega
   ·omega
   ·have:=(h i hi).2 k h1;omega
 unfold gB de
 rw [e1,e2]
end Go.Ab
end
section
namespace Go.Ab
open Go.Proofs
attribute [local congr] ACall.congr gd.congr Nx.congr
set_option maxRecDepth 20000
set_option maxHeartbeats 32000000
theorem vS (g:Gr) (b:Br) (hl:g.es.length≤1000) (au:b.y.length≤1000) (az:b.x.length≤1000):Spec Tryz.prog 32 (Args [eG g,bZ b]) [] (eB (de g b)) []:=by
 rw [← AK]
 have Lg:=aQ g (by omega)
 by_cases hc:(bF g).1=0
 rotate_left
 ·have hr:gB g b=false:=by unfold gB;rw [decide_eq_false hc];rfl
  rw [hr]
  rw [decide_eq_false hc] at Lg
  (refine Spec.hd (C:=T.cfg [] []) (rs:= [.t 4]) (T.ah _ _) Tryz.func32 rfl rfl Tryz.ntmps32 Tryz.results32 (by simp [AObj.isNest]) (by simp [AObj.isNest]) (by kernel_rfl) T.mixed fun X hX hP hC aI bU=> ?_)
  repeat' (first|refine Rn.p ?_|(with_reducible apply And.intro)|((first|(refine hK _ ?_;clear hK K)|with_reducible intro K hK|refine Rs.p ?_|((with_reducible first|apply oP|apply oQ);exact rfl)|refine aa hX hC hP (Lg) rfl rfl rfl (by simp only [go_sem,simprocAttr,bZ]) rfl ?_);try simp only [go_sem,simprocAttr,bZ])|((with_reducible refine oD ?_ ?_);kernel_rfl)|((with_reducible intro h);try simp only [go_sem,simprocAttr,bZ] at h)|omega|intro h)
 rw [decide_eq_true hc] at Lg
 cases Im:oT b g with
 |false=>
  have hr:gB g b=false:=by unfold gB;rw [Im];simp
  rw [hr]
  have hf:oT b g=(decide ((b.y.length:Int)=g.n)&&decide ((b.fr.length:Int)=g.n)&&decide ((b.to.length:Int)=g.n)&&decide ((b.x.length:Int)=(g.es.length:Int))):=rfl
  rw [Im] at hf
  cases h1:decide ((b.y.length:Int)=g.n)<;>cases h2:decide ((b.fr.length:Int)=g.n)<;>cases h3:decide ((b.to.length:Int)=g.n)<;>cases h4:decide ((b.x.length:Int)=(g.es.length:Int))<;>rw [h1,h2,h3,h4] at hf<;>simp only [Bool.and_true,Bool.and_false,Bool.true_and,Bool.false_and] at hf
  all_goals (first|(exact absurd hf (by decide))|skip)
  all_goals (
  (refine Spec.hd (C:=T.cfg [] []) (rs:= [.t 4]) (T.ah _ _) Tryz.func32 rfl rfl Tryz.ntmps32 Tryz.results32 (by simp [AObj.isNest]) (by simp [AObj.isNest]) (by kernel_rfl) T.mixed fun X hX hP hC aI bU=> ?_)
  repeat' (first|refine Rn.p ?_|(with_reducible apply And.intro)|((first|(refine hK _ ?_;clear hK K)|with_reducible intro K hK|refine Rs.p ?_|((with_reducible first|apply oP|apply oQ);exact rfl)|refine aa hX hC hP (Lg) rfl rfl rfl (by simp only [go_sem,simprocAttr,bZ,h1,h2,h3,h4]) rfl ?_);try simp only [go_sem,simprocAttr,bZ,h1,h2,h3,h4])|((with_reducible refine oD ?_ ?_);kernel_rfl)|((with_reducible intro h);try simp only [go_sem,simprocAttr,bZ,h1,h2,h3,h4] at h)|omega|intro h))
 |true=>
 have hm:=an hc
 have hn:=aM hm
 have HC:=Im
 simp only [oT,Bool.and_eq_true,decide_eq_true_eq] at HC
 obtain ⟨⟨⟨l1,l2⟩,l3⟩,l4⟩:=HC
 have l5:b.fr.length=b.y.length:=by omega
 have l6:b.to.length=b.y.length:=by omega
 have l7:b.x.length=g.es.length:=by omega
 have m1:decide ((b.y.length:Int)=g.n)=true:=decide_eq_true l1
 have ER:g.n=(b.y.length:Int):=by omega
 have hr:gB g b=((List.range b.y.length).all (HE b b.y.length)&&(List.range g.es.length).all (HF g b)):=by
  unfold gB;rw [decide_eq_true hc,Im];rfl
 rw [hr]
 (refine Spec.hd (C:=T.cfg [] []) (rs:= [.t 4]) (T.ah _ _) Tryz.func32 rfl rfl Tryz.ntmps32 Tryz.results32 (by simp [AObj.isNest]) (by simp [AObj.isNest]) (by kernel_rfl) T.mixed fun X hX hP hC aI bU=> ?_)
 repeat' (first|refine Rn.p ?_|(with_reducible apply And.intro)|((first|(refine hK _ ?_;clear hK K)|with_reducible intro K hK|refine Rs.p ?_|((with_reducible first|apply oP|apply oQ);exact rfl)|refine aa hX hC hP (Lg) rfl rfl rfl (by simp only [go_sem,simprocAttr,bZ,l5,l6,l7,m1,decide_true]) rfl ?_);try simp only [go_sem,simprocAttr,bZ,l5,l6,l7,m1,decide_true])|((with_reducible refine oD ?_ ?_);kernel_rfl)|((with_reducible intro h);try simp only [go_sem,simprocAttr,bZ,l5,l6,l7,m1,decide_true] at h)|omega|intro h)
 refine ag (fun k:Nat=>k≤b.y.length∧∀j,j<k→HE b b.y.length j=true) (fun k=>⟨[(2, .ptr 2 0),(3, .ptr 3 0),(5,eN k)], [(2, .box [eN g.n, .d (sE g.es)]),(3, .box [.d (sI b.y), .d (sI b.fr), .d (sI b.to), .d (sI b.x)])]⟩) (fun k=>b.y.length - k) 0 ⟨by omega,fun j hj=>by omega⟩ ?_ ?_
 ·refine Le.of ?_ ?_<;>simp [go_sem,simprocAttr,bZ]
 rintro k ⟨hk,hin⟩
 rcases Nat.lt_or_ge k b.y.length with bS|Bh
 ·have hb:decide ((k:Int)<g.n)=true:=decide_eq_true (by omega)
  by_cases ET:b.fr.getD k 0≤b.to.getD k 0
  rotate_left
  ·have hc1:decide (b.to.getD k 0<b.fr.getD k 0)=true:=decide_eq_true (by omega)
   rw [gR bS (f:=HE b b.y.length) (by unfold HE;rw [decide_eq_false ET];rfl),Bool.false_and]
   repeat' (first|refine Rn.p ?_|(with_reducible apply And.intro)|((first|(refine hK _ ?_;clear hK K)|with_reducible intro K hK|refine Rs.p ?_|((with_reducible first|apply oP|apply oQ);exact rfl));try simp only [go_sem,simprocAttr,hb,hc1,l5,l6])|((with_reducible refine oD ?_ ?_);kernel_rfl)|((with_reducible intro h);try simp only [go_sem,simprocAttr,hb,hc1,l5,l6] at h)|omega|intro h)
  have hc1:decide (b.to.getD k 0<b.fr.getD k 0)=false:=decide_eq_false (by omega)
  repeat' (first|refine Rn.p ?_|(with_reducible apply And.intro)|((first|(refine hK _ ?_;clear hK K)|with_reducible intro K hK|refine Rs.p ?_|((with_reducible first|apply oP|apply oQ);exact rfl));try simp only [go_sem,simprocAttr,hb,hc1,l5,l6])|((with_reducible refine oD ?_ ?_);kernel_rfl)|((with_reducible intro h);try simp only [go_sem,simprocAttr,hb,hc1,l5,l6] at h)|omega|intro h)
  refine ag (fun z:Nat=>z≤b.y.length∧∀j,j<z→Io b k j=false) (fun z=>⟨[(2, .ptr 2 0),(3, .ptr 3 0),(5,eN k),(6,eN z)], [(2, .box [eN g.n, .d (sE g.es)]),(3, .box [.d (sI b.y), .d (sI b.fr), .d (sI b.to), .d (sI b.x)])]⟩) (fun z=>b.y.length - z) 0 ⟨by omega,fun j hj=>by omega⟩ ?_ ?_
  ·refine Le.of ?_ ?_<;>simp [go_sem,simprocAttr]
  rintro z ⟨hz,HB⟩
  rcases Nat.lt_or_ge z b.y.length with hzl|QS
  rotate_left
  ·have hbz:decide ((z:Int)<g.n)=false:=decide_eq_false (by omega)
   obtain rfl:z=b.y.length:=by omega
   repeat' (first|refine Rn.p ?_|(with_reducible apply And.intro)|((first|(refine hK _ ?_;clear hK K)|with_reducible intro K hK|refine Rs.p ?_|((with_reducible first|apply oP|apply oQ);exact rfl));try simp only [go_sem,simprocAttr,hbz])|((with_reducible refine oD ?_ ?_);kernel_rfl)|((with_reducible intro h);try simp only [go_sem,simprocAttr,hbz] at h)|omega|intro h)
   refine ⟨k+1,⟨by omega,fun j hj=> ?_⟩, ?_,by omega⟩
   ·by_cases vG:j=k
    ·subst vG
     unfold HE
     rw [decide_eq_true ET,iz (f:=fun z=> !Io b j z) (fun i hi=>by rw [HB i hi];rfl)];rfl
    ·exact hin j (by omega)
   ·refine Le.of ?_ ?_<;>simp [go_sem,simprocAttr,hbz]
  have hbz:decide ((z:Int)<g.n)=true:=decide_eq_true (by omega)
  have hap:Io b k z=(!decide ((k:Int)=(z:Int))&&decide (b.y.getD k 0=b.y.getD z 0)&& !(decide (b.to.getD k 0<b.fr.getD z 0)||decide (b.to.getD z 0<b.fr.getD k 0))):=rfl
  have hno:Io b k z=true→((List.range b.y.length).all (HE b b.y.length)&&(List.range g.es.length).all (HF g b))=false:=fun h1=>by
   rw [gR bS (f:=HE b b.y.length) (by unfold HE;rw [gR (f:=fun z=> !Io b k z) hzl (by rw [h1];rfl),Bool.and_false]),Bool.false_and]
  have hyes:Io b k z=false→∀j,j<z+1→Io b k j=false:=fun h1 j hj=>by
   by_cases vG:j=z
   ·subst vG;exact h1
   ·exact HB j (by omega)
  generalize Io b k z=av at*
  cases RH:decide ((k:Int)=(z:Int))<;>cases pT:decide (b.y.getD k 0=b.y.getD z 0)<;>cases hd2:decide (b.to.getD k 0<b.fr.getD z 0)<;>cases vu:decide (b.to.getD z 0<b.fr.getD k 0)<;>rw [RH,pT,hd2,vu] at hap<;>simp only [Bool.and_true,Bool.and_false,Bool.true_and,Bool.false_and,Bool.not_true,Bool.not_false,Bool.or_true,Bool.or_false] at hap<;>subst hap
  all_goals (
  repeat' (first|refine Rn.p ?_|(with_reducible apply And.intro)|((first|(refine hK _ ?_;clear hK K)|with_reducible intro K hK|refine Rs.p ?_|((with_reducible first|apply oP|apply oQ);exact rfl));try simp only [go_sem,simprocAttr,hbz,RH,pT,hd2,vu,l5,l6])|((with_reducible refine oD ?_ ?_);kernel_rfl)|((with_reducible intro h);try simp only [go_sem,simprocAttr,hbz,RH,pT,hd2,vu,l5,l6] at h)|omega|intro h))
  all_goals (first|(exact hno rfl)|(exact (hno rfl).symm)|(refine ⟨z+1,⟨by omega,hyes rfl⟩, ?_,by omega⟩;refine Le.of ?_ ?_<;>simp [go_sem];done)|trace_state)
 have hb:decide ((k:Int)<g.n)=false:=decide_eq_false (by omega)
 obtain rfl:k=b.y.length:=by omega
 rw [iz hin,Bool.true_and]
 repeat' (first|refine Rn.p ?_|(with_reducible apply And.intro)|((first|(refine hK _ ?_;clear hK K)|with_reducible intro K hK|refine Rs.p ?_|((with_reducible first|apply oP|apply oQ);exact rfl));try simp only [go_sem,simprocAttr,hb])|((with_reducible refine oD ?_ ?_);kernel_rfl)|((with_reducible intro h);try simp only [go_sem,simprocAttr,hb] at h)|omega|intro h)
 refine ag (fun i:Nat=>i≤g.es.length∧∀j,j<i→HF g b j=true) (fun i=>⟨[(2, .ptr 2 0),(3, .ptr 3 0),(7,eN i)], [(2, .box [eN g.n, .d (sE g.es)]),(3, .box [.d (sI b.y), .d (sI b.fr), .d (sI b.to), .d (sI b.x)])]⟩) (fun i=>g.es.length - i) 0 ⟨by omega,fun j hj=>by omega⟩ ?_ ?_
 ·refine Le.of ?_ ?_<;>simp [go_sem,simprocAttr]
 rintro i ⟨hi,Ob⟩
 rcases Nat.lt_or_ge i g.es.length with hil|No
 rotate_left
 ·have mD:decide ((i:Int)<(g.es.length:Int))=false:=decide_eq_false (by omega)
  obtain rfl:i=g.es.length:=by omega
  rw [iz Ob]
  repeat' (first|refine Rn.p ?_|(with_reducible apply And.intro)|((first|(refine hK _ ?_;clear hK K)|with_reducible intro K hK|refine Rs.p ?_|((with_reducible first|apply oP|apply oQ);exact rfl));try simp only [go_sem,simprocAttr,mD])|((with_reducible refine oD ?_ ?_);kernel_rfl)|((with_reducible intro h);try simp only [go_sem,simprocAttr,mD] at h)|omega|intro h)
 have mD:decide ((i:Int)<(g.es.length:Int))=true:=decide_eq_true (by omega)
 obtain ⟨t1,t2⟩:=eH hm hil
 obtain ⟨s,hs⟩:∃s:Nat,(g.es.getD i (0,0)).1=s:=⟨(g.es.getD i (0,0)).1.toNat,by omega⟩
 obtain ⟨t,ht⟩:∃t:Nat,(g.es.getD i (0,0)).2=t:=⟨(g.es.getD i (0,0)).2.toNat,by omega⟩
 have hts:(tl g i).toNat=s:=by show ((g.es.getD i (0,0)).1).toNat=s;rw [hs];rfl
 have Co:(hd g i).toNat=t:=by show ((g.es.getD i (0,0)).2).toNat=t;rw [ht];rfl
 have pY:HF g b i=(eL b s t (b.x.getD i 0)&&(List.range g.es.length).all fun k=> !E5 g b i k):=by unfold HF;rw [hts,Co]
 have hW:=fun x (hx:x<b.y.length)=>AJ b x (b.x.getD i 0) (by omega) (by omega) (by omega)
 have Oc:=hW s (by omega)
 have OV:=hW t (by omega)
 have ga:eL b s t (b.x.getD i 0)=(decide (b.y.getD s 0<b.y.getD t 0)&&hasB b s (b.x.getD i 0)&&hasB b t (b.x.getD i 0)&&(List.range b.y.length).all fun x=> !yY b (b.y.getD s 0) (b.y.getD t 0) (b.x.getD i 0) x):=rfl
 have Jq:eL b s t (b.x.getD i 0)=false→(List.range g.es.length).all (HF g b)=false:=fun h1=>gR hil (by rw [pY,h1];rfl)
 generalize hq:b.x.getD i 0=q at*
 by_cases hc1:b.y.getD s 0<b.y.getD t 0
 rotate_left
 ·have pT:decide (b.y.getD t 0≤b.y.getD s 0)=true:=decide_eq_true (by omega)
  rw [Jq (by rw [ga,decide_eq_false hc1];rfl)]
  repeat' (first|refine Rn.p ?_|(with_reducible apply And.intro)|((first|(refine hK _ ?_;clear hK K)|with_reducible intro K hK|refine Rs.p ?_|((with_reducible first|apply oP|apply oQ);exact rfl));try simp only [go_sem,simprocAttr,mD,hs,ht,pT])|((with_reducible refine oD ?_ ?_);kernel_rfl)|((with_reducible intro h);try simp only [go_sem,simprocAttr,mD,hs,ht,pT] at h)|omega|intro h)
 have pT:decide (b.y.getD t 0≤b.y.getD s 0)=false:=decide_eq_false (by omega)
 rw [decide_eq_true hc1,Bool.true_and] at ga
 cases hvs:hasB b s q with
 |false=>
  rw [hvs] at Oc
  rw [Jq (by rw [ga,hvs];rfl)]
  repeat' (first|refine Rn.p ?_|(with_reducible apply And.intro)|((first|(refine hK _ ?_;clear hK K)|with_reducible intro K hK|refine Rs.p ?_|((with_reducible first|apply oP|apply oQ);exact rfl)|refine aa hX hC hP (Oc) rfl rfl rfl (by simp only [go_sem,simprocAttr,bZ,mD,hs,ht,pT,hq,l7]) rfl ?_);try simp only [go_sem,simprocAttr,bZ,mD,hs,ht,pT,hq,l7])|((with_reducible refine oD ?_ ?_);kernel_rfl)|((with_reducible intro h);try simp only [go_sem,simprocAttr,bZ,mD,hs,ht,pT,hq,l7] at h)|omega|intro h)
 |true=>
 rw [hvs] at Oc ga
 cases B5:hasB b t q with
 |false=>
  rw [B5] at OV
  rw [Jq (by rw [ga,B5];rfl)]
  repeat' (first|refine Rn.p ?_|(with_reducible apply And.intro)|((first|(refine hK _ ?_;clear hK K)|with_reducible intro K hK|refine Rs.p ?_|((with_reducible first|apply oP|apply oQ);exact rfl)|refine aa hX hC hP (Oc) rfl rfl rfl (by simp only [go_sem,simprocAttr,bZ,mD,hs,ht,pT,hq,l7]) rfl ?_|refine aa hX hC hP (OV) rfl rfl rfl (by simp only [go_sem,simprocAttr,bZ,mD,hs,ht,pT,hq,l7]) rfl ?_);try simp only [go_sem,simprocAttr,bZ,mD,hs,ht,pT,hq,l7])|((with_reducible refine oD ?_ ?_);kernel_rfl)|((with_reducible intro h);try simp only [go_sem,simprocAttr,bZ,mD,hs,ht,pT,hq,l7] at h)|omega|intro h)
 |true=>
 rw [B5] at OV ga
 rw [Bool.true_and,Bool.true_and] at ga
 repeat' (first|refine Rn.p ?_|(with_reducible apply And.intro)|((first|(refine hK _ ?_;clear hK K)|with_reducible intro K hK|refine Rs.p ?_|((with_reducible first|apply oP|apply oQ);exact rfl)|refine aa hX hC hP (Oc) rfl rfl rfl (by simp only [go_sem,simprocAttr,bZ,mD,hs,ht,pT,hq,l7]) rfl ?_|refine aa hX hC hP (OV) rfl rfl rfl (by simp only [go_sem,simprocAttr,bZ,mD,hs,ht,pT,hq,l7]) rfl ?_);try simp only [go_sem,simprocAttr,bZ,mD,hs,ht,pT,hq,l7])|((with_reducible refine oD ?_ ?_);kernel_rfl)|((with_reducible intro h);try simp only [go_sem,simprocAttr,bZ,mD,hs,ht,pT,hq,l7] at h)|omega|intro h)
 refine ag (fun x:Nat=>x≤b.y.length∧∀j,j<x→yY b (b.y.getD s 0) (b.y.getD t 0) q j=false) (fun x=>⟨[(2, .ptr 2 0),(3, .ptr 3 0),(7,eN i),(8, .ptr 8 0),(9,eN x)], [(2, .box [eN g.n, .d (sE g.es)]),(3, .box [.d (sI b.y), .d (sI b.fr), .d (sI b.to), .d (sI b.x)]),(8, .box [eN s,eN t])]⟩) (fun x=>b.y.length - x) 0 ⟨by omega,fun j hj=>by omega⟩ ?_ ?_
 ·refine Le.of ?_ ?_<;>simp [go_sem,simprocAttr]
 rintro x ⟨hx,Od⟩
 rcases Nat.lt_or_ge x b.y.length with hxl|GN
 ·have qX:decide ((x:Int)<g.n)=true:=decide_eq_true (by omega)
  have SO:=hW x hxl
  have hap:yY b (b.y.getD s 0) (b.y.getD t 0) q x=(decide (b.y.getD s 0<b.y.getD x 0)&&decide (b.y.getD x 0<b.y.getD t 0)&&hasB b x q):=rfl
  have hno:yY b (b.y.getD s 0) (b.y.getD t 0) q x=true→(List.range g.es.length).all (HF g b)=false:=fun h1=>Jq (by rw [ga];exact gR (f:=fun x=> !yY b (b.y.getD s 0) (b.y.getD t 0) q x) hxl (by rw [h1];rfl))
  have hyes:yY b (b.y.getD s 0) (b.y.getD t 0) q x=false→∀j,j<x+1→yY b (b.y.getD s 0) (b.y.getD t 0) q j=false:=fun h1 j hj=>by
   by_cases vG:j=x
   ·subst vG;exact h1
   ·exact Od j (by omega)
  generalize yY b (b.y.getD s 0) (b.y.getD t 0) q x=av at*
  cases hd2:decide (b.y.getD s 0<b.y.getD x 0)<;>cases vu:decide (b.y.getD x 0<b.y.getD t 0)<;>cases L8:hasB b x q<;>rw [hd2,vu,L8] at hap<;>simp only [Bool.and_true,Bool.and_false,Bool.true_and,Bool.false_and] at hap<;>subst hap<;>rw [L8] at SO
  all_goals (
  repeat' (first|refine Rn.p ?_|(with_reducible apply And.intro)|((first|(refine hK _ ?_;clear hK K)|with_reducible intro K hK|refine Rs.p ?_|((with_reducible first|apply oP|apply oQ);exact rfl)|refine aa hX hC hP (SO) rfl rfl rfl (by simp only [go_sem,simprocAttr,bZ,qX,hd2,vu,hq,l7]) rfl ?_);try simp only [go_sem,simprocAttr,bZ,qX,hd2,vu,hq,l7])|((with_reducible refine oD ?_ ?_);kernel_rfl)|((with_reducible intro h);try simp only [go_sem,simprocAttr,bZ,qX,hd2,vu,hq,l7] at h)|omega|intro h))
  all_goals (first|(exact hno rfl)|(exact (hno rfl).symm)|(refine ⟨x+1,⟨by omega,hyes rfl⟩, ?_,by omega⟩;refine Le.of ?_ ?_<;>simp [go_sem];done)|trace_state)
 have qX:decide ((x:Int)<g.n)=false:=decide_eq_false (by omega)
 obtain rfl:x=b.y.length:=by omega
 have RI:eL b s t q=true:=by rw [ga];exact iz fun j hj=>by rw [Od j hj];rfl
 rw [RI,Bool.true_and] at pY
 repeat' (first|refine Rn.p ?_|(with_reducible apply And.intro)|((first|(refine hK _ ?_;clear hK K)|with_reducible intro K hK|refine Rs.p ?_|((with_reducible first|apply oP|apply oQ);exact rfl));try simp only [go_sem,simprocAttr,qX])|((with_reducible refine oD ?_ ?_);kernel_rfl)|((with_reducible intro h);try simp only [go_sem,simprocAttr,qX] at h)|omega|intro h)
 refine ag (fun k:Nat=>k≤g.es.length∧∀j,j<k→E5 g b i j=false) (fun k=>⟨[(2, .ptr 2 0),(3, .ptr 3 0),(7,eN i),(8, .ptr 8 0),(10,eN k)], [(2, .box [eN g.n, .d (sE g.es)]),(3, .box [.d (sI b.y), .d (sI b.fr), .d (sI b.to), .d (sI b.x)]),(8, .box [eN s,eN t])]⟩) (fun k=>g.es.length - k) 0 ⟨by omega,fun j hj=>by omega⟩ ?_ ?_
 ·refine Le.of ?_ ?_<;>simp [go_sem,simprocAttr]
 rintro k ⟨hk2,HD⟩
 rcases Nat.lt_or_ge k g.es.length with bS|Bh
 rotate_left
 ·have hbk:decide ((k:Int)<(g.es.length:Int))=false:=decide_eq_false (by omega)
  obtain rfl:k=g.es.length:=by omega
  repeat' (first|refine Rn.p ?_|(with_reducible apply And.intro)|((first|(refine hK _ ?_;clear hK K)|with_reducible intro K hK|refine Rs.p ?_|((with_reducible first|apply oP|apply oQ);exact rfl));try simp only [go_sem,simprocAttr,hbk])|((with_reducible refine oD ?_ ?_);kernel_rfl)|((with_reducible intro h);try simp only [go_sem,simprocAttr,hbk] at h)|omega|intro h)
  refine ⟨i+1,⟨by omega,fun j hj=> ?_⟩, ?_,by omega⟩
  ·by_cases hjk:j=i
   ·subst hjk
    rw [pY,iz (f:=fun z=> !E5 g b j z) (fun z hz=>by rw [HD z hz];rfl)]
   ·exact Ob j (by omega)
  ·refine Le.of ?_ ?_<;>simp [go_sem,simprocAttr,hbk]
 have hbk:decide ((k:Int)<(g.es.length:Int))=true:=decide_eq_true (by omega)
 obtain ⟨t3,t4⟩:=eH hm (k:=k) (by omega)
 obtain ⟨s',hs'⟩:∃s':Nat,(g.es.getD k (0,0)).1=s':=⟨(g.es.getD k (0,0)).1.toNat,by omega⟩
 obtain ⟨t',ht'⟩:∃t':Nat,(g.es.getD k (0,0)).2=t':=⟨(g.es.getD k (0,0)).2.toNat,by omega⟩
 have Lo:(tl g k).toNat=s':=by show ((g.es.getD k (0,0)).1).toNat=s';rw [hs'];rfl
 have Lq:(hd g k).toNat=t':=by show ((g.es.getD k (0,0)).2).toNat=t';rw [ht'];rfl
 have hap:E5 g b i k=(!decide ((k:Int)=(i:Int))&&decide (b.x.getD k 0=q)&& !(decide (b.y.getD t 0≤b.y.getD s' 0)||decide (b.y.getD t' 0≤b.y.getD s 0))):=by unfold E5;rw [hts,Co,Lo,Lq,hq]
 have hno:E5 g b i k=true→(List.range g.es.length).all (HF g b)=false:=fun h1=>gR hil (by rw [pY];exact gR (f:=fun z=> !E5 g b i z) bS (by rw [h1];rfl))
 have hyes:E5 g b i k=false→∀j,j<k+1→E5 g b i j=false:=fun h1 j hj=>by
  by_cases vG:j=k
  ·subst vG;exact h1
  ·exact HD j (by omega)
 generalize E5 g b i k=av at*
 cases hd2:decide ((k:Int)=(i:Int))<;>cases vu:decide (b.x.getD k 0=q)<;>cases L8:decide (b.y.getD t 0≤b.y.getD s' 0)<;>cases RJ:decide (b.y.getD t' 0≤b.y.getD s 0)<;>rw [hd2,vu,L8,RJ] at hap<;>simp only [Bool.and_true,Bool.and_false,Bool.true_and,Bool.false_and,Bool.not_true,Bool.not_false,Bool.or_true,Bool.or_false] at hap<;>subst hap
 all_goals (
 repeat' (first|refine Rn.p ?_|(with_reducible apply And.intro)|((first|(refine hK _ ?_;clear hK K)|with_reducible intro K hK|refine Rs.p ?_|((with_reducible first|apply oP|apply oQ);exact rfl));try simp only [go_sem,simprocAttr,hbk,hs',ht',hd2,vu,L8,RJ,hq,l7])|((with_reducible refine oD ?_ ?_);kernel_rfl)|((with_reducible intro h);try simp only [go_sem,simprocAttr,hbk,hs',ht',hd2,vu,L8,RJ,hq,l7] at h)|omega|intro h))
 all_goals (first|(exact hno rfl)|(exact (hno rfl).symm)|(refine ⟨k+1,⟨by omega,hyes rfl⟩, ?_,by omega⟩;refine Le.of ?_ ?_<;>simp [go_sem];done)|trace_state)
end Go.Ab
end
section
namespace Go.Ab
open Go.Proofs
attribute [local congr] ACall.congr gd.congr Nx.congr
set_option maxRecDepth 20000
set_option maxHeartbeats 8000000
def SP (g:Gr) (b:Br):Bool:=decide (80<(g.es.length:Int))||decide (70<(b.y.length:Int))||decide (70<(b.fr.length:Int))||decide (70<(b.to.length:Int))||decide (80<(b.x.length:Int))
theorem EG (b:Br):Spec Tryz.prog 33 (Args [bZ b]) [] (bZ b) []:=by
 (refine Spec.hd (C:=T.cfg [] []) (rs:= [.c 2 72]) (T.ah _ _) Tryz.func33 rfl rfl Tryz.ntmps33 Tryz.results33 (by simp [AObj.isNest]) (by simp [AObj.isNest]) (by kernel_rfl) T.mixed fun X hX hP hC aI bU=> ?_)
 repeat' (first|refine Rn.p ?_|(with_reducible apply And.intro)|((first|(refine hK _ ?_;clear hK K)|with_reducible intro K hK|refine Rs.p ?_|((with_reducible first|apply oP|apply oQ);exact rfl));try simp only [go_sem,simprocAttr,bZ])|((with_reducible refine oD ?_ ?_);kernel_rfl)|((with_reducible intro h);try simp only [go_sem,simprocAttr,bZ] at h)|omega|intro h)
theorem RL:gF g18 L6=⟨[0,1,1,2], [0,0,1,0], [1,0,1,1], [0,0,1,1]⟩:=by rfl
theorem RM:de g18 ⟨[0,1,1,2], [0,0,1,0], [1,0,1,1], [0,0,1,1]⟩=true:=by rfl
theorem Oe:bH g18 L6:=(rW N2 (b:=true) rfl).1
theorem oU:Spec Tryz.prog 15 (Args []) [] (eB true) []:=by
 have LY:=xD g18 L6 (by decide) Oe (by decide) (by decide) (by decide) true N2
 rw [RL] at LY
 have SQ:=qQ g18 ⟨[0,1,1,2], [0,0,1,0], [1,0,1,1], [0,0,1,1]⟩ (by decide) (by decide) (by decide)
 rw [RM] at SQ
 have e1:g18.es.map rE= [[.sc (.int .i64 0), .sc (.int .i64 1)], [.sc (.int .i64 1), .sc (.int .i64 3)], [.sc (.int .i64 0), .sc (.int .i64 2)], [.sc (.int .i64 2), .sc (.int .i64 3)]]:=rfl
 have e2:L6.ord.map rI= [[.sc (.int .i64 0)], [.sc (.int .i64 1)], [.sc (.int .i64 2)], [.sc (.int .i64 3)]]:=rfl
 have e3:vI L6.outs= [[.sl 1 [[.sc (.int .i64 0)], [.sc (.int .i64 2)]]], [.sl 1 [[.sc (.int .i64 1)]]], [.sl 1 [[.sc (.int .i64 3)]]], [.sl 1 []]]:=rfl
 have e4:g18.n=4:=rfl
 (refine Spec.hd (C:=T.cfg [] []) (rs:= [.t 0]) (T.ah _ _) Tryz.func15 rfl rfl Tryz.ntmps15 Tryz.results15 (by simp [AObj.isNest]) (by simp [AObj.isNest]) (by kernel_rfl) T.mixed fun X hX hP hC aI bU=> ?_)
 repeat' (first|refine Rn.p ?_|(with_reducible apply And.intro)|((first|(refine hK _ ?_;clear hK K)|with_reducible intro K hK|refine Rs.p ?_|((with_reducible first|apply oP|apply oQ);exact rfl)|(refine aZ hX hC hP (LY) rfl rfl rfl ?_ ?_ rfl ?_;iterate 2 (focus (simp only [go_sem,simprocAttr,bZ,e1,e2,e3,e4,List.map_cons,List.map_nil,rI,decide_true];done)))|(refine aZ hX hC hP (jX [0,1,1,2] [0,1,1,2] (by decide)) rfl rfl rfl ?_ ?_ rfl ?_;iterate 2 (focus (simp only [go_sem,simprocAttr,bZ,e1,e2,e3,e4,List.map_cons,List.map_nil,rI,decide_true];done)))|(refine aZ hX hC hP (jX [1,0,1,1] [1,0,1,1] (by decide)) rfl rfl rfl ?_ ?_ rfl ?_;iterate 2 (focus (simp only [go_sem,simprocAttr,bZ,e1,e2,e3,e4,List.map_cons,List.map_nil,rI,decide_true];done)))|(refine aZ hX hC hP (jX [0,0,1,1] [0,0,1,1] (by decide)) rfl rfl rfl ?_ ?_ rfl ?_;iterate 2 (focus (simp only [go_sem,simprocAttr,bZ,e1,e2,e3,e4,List.map_cons,List.map_nil,rI,decide_true];done)))|(refine aZ hX hC hP (SQ) rfl rfl rfl ?_ ?_ rfl ?_;iterate 2 (focus (simp only [go_sem,simprocAttr,bZ,e1,e2,e3,e4,List.map_cons,List.map_nil,rI,decide_true];done))));try simp only [go_sem,simprocAttr,bZ,e1,e2,e3,e4,List.map_cons,List.map_nil,rI,decide_true])|((with_reducible refine oD ?_ ?_);kernel_rfl)|((with_reducible intro h);try simp only [go_sem,simprocAttr,bZ,e1,e2,e3,e4,List.map_cons,List.map_nil,rI,decide_true] at h)|omega|intro h)
end Go.Ab
end
section
namespace Go.Ab
open Go.Proofs
set_option maxRecDepth 10000
structure vv (g:Gr) (b:Br):Prop where
 tZ:(bF g).1=0
 ly:(b.y.length:Int)=g.n
 lf:(b.fr.length:Int)=g.n
 lt:(b.to.length:Int)=g.n
 lx:b.x.length=g.es.length
 SR:∀v,v<b.y.length→b.fr.getD v 0≤b.to.getD v 0
 apart:∀v,v<b.y.length→∀z,z<v→¬(b.y.getD z 0=b.y.getD v 0∧b.fr.getD z 0≤b.to.getD v 0∧b.fr.getD v 0≤b.to.getD z 0)
 up:∀i,i<g.es.length→b.y.getD (tl g i).toNat 0<b.y.getD (hd g i).toNat 0∧(b.fr.getD (tl g i).toNat 0≤b.x.getD i 0∧b.x.getD i 0≤b.to.getD (tl g i).toNat 0)∧(b.fr.getD (hd g i).toNat 0≤b.x.getD i 0∧b.x.getD i 0≤b.to.getD (hd g i).toNat 0)
 clear:∀i,i<g.es.length→∀v,v<b.y.length→¬(b.y.getD (tl g i).toNat 0<b.y.getD v 0∧b.y.getD v 0<b.y.getD (hd g i).toNat 0∧b.fr.getD v 0≤b.x.getD i 0∧b.x.getD i 0≤b.to.getD v 0)
 Of:∀i,i<g.es.length→∀k,k<i→¬(b.x.getD k 0=b.x.getD i 0∧b.y.getD (tl g i).toNat 0<b.y.getD (hd g k).toNat 0∧b.y.getD (tl g k).toNat 0<b.y.getD (hd g i).toNat 0)
theorem xI {g:Gr} {b:Br} :de g b=true↔vv g b:=by
 unfold de oT lX
 simp only [List.all_eq_true,List.mem_range,Bool.and_eq_true,decide_eq_true_eq,Ln,HA,Il,EF,eL,yY,hasB,Bool.not_eq_true',Bool.and_eq_false_iff,decide_eq_false_iff_not]
 constructor
 ·rintro ⟨⟨⟨h1,⟨⟨h2,h3⟩,h4⟩,h5⟩,h6⟩,h7⟩
  exact ⟨h1,h2,h3,h4,by omega,fun v hv=>(h6 v hv).1,fun v hv z hz=>by have:=(h6 v hv).2 z hz;omega,fun i hi=>by have:=(h7 i hi).1.1;omega,fun i hi v hv=>by have:=(h7 i hi).1.2 v hv;omega,fun i hi k hk=>by have:=(h7 i hi).2 k hk;omega⟩
 ·rintro ⟨h1,h2,h3,h4,h5,h6,h7,h8,h9,QX⟩
  exact ⟨⟨⟨h1,⟨⟨h2,h3⟩,h4⟩,by omega⟩,fun v hv=>⟨h6 v hv,fun z hz=>by have:=h7 v hv z hz;omega⟩⟩,fun i hi=>⟨⟨by have:=h8 i hi;omega,fun v hv=>by have:=h9 i hi v hv;omega⟩,fun k hk=>by have:=QX i hi k hk;omega⟩⟩
def SS (b:Br):Br:=⟨b.y.map fun y=>3*y - 7,(List.range b.y.length).map fun v=>5*b.fr.getD v 0+1,(List.range b.y.length).map fun v=>5*b.to.getD v 0+2,b.x.map fun x=>5*x+1⟩
def SU (b:Br):Br:=⟨b.y,(List.range b.y.length).map fun v=> -b.to.getD v 0,(List.range b.y.length).map fun v=> -b.fr.getD v 0,b.x.map fun x=> -x⟩
end Go.Ab
end
section
namespace Go.Ab
open Go.Proofs
set_option maxRecDepth 10000
set_option linter.unusedSectionVars false
def yB (b:Br) (v:Int):Int:=b.y.getD v.toNat 0
def fB (b:Br) (v:Int):Int:=b.fr.getD v.toNat 0
def tB (b:Br) (v:Int):Int:=b.to.getD v.toNat 0
def xB (b:Br) (e:Int):Int:=b.x.getD e.toNat 0
def AL (b:Br) (u v:Int):Prop:=yB b u<yB b v∨yB b u=yB b v∧fB b u<fB b v
structure sV (g:Gr) (b:Br) (p:Pl):Prop where
 perm:p.ord.Perm (ff g.n.toNat)
 sort:p.ord.Pairwise (AL b)
 len:p.outs.length=g.n.toNat
 outs:∀x:Nat,x<g.n.toNat→(p.outs.getD x []).Perm (bu g x)
 HG:∀x:Nat,x<g.n.toNat→(p.outs.getD x []).Pairwise fun i k=>xB b i<xB b k
section
variable {g:Gr} {b:Br} {p:Pl} (h:vv g b) (hp:sV g b p)
include hp
theorem sV.ok:bt g p:=⟨hp.len,hp.perm,hp.outs⟩
theorem sV.lt {j k:Nat} (hj:j<k) (hk:k<g.n.toNat):AL b (aj p j) (aj p k):=by
 have hl:=bR hp.ok
 have:=List.pairwise_iff_getElem.1 hp.sort j k (by omega) (by omega) hj
 rw [aj,aj,List.getD_eq_getElem?_getD,List.getD_eq_getElem?_getD,List.getElem?_eq_getElem (by omega),List.getElem?_eq_getElem (by omega)]
 exact this
include h
theorem pU {e:Int} (h0:0≤e) (h1:e<g.es.length):yB b (iV g e)<yB b (nk g e)∧(fB b (iV g e)≤xB b e∧xB b e≤tB b (iV g e))∧(fB b (nk g e)≤xB b e∧xB b e≤tB b (nk g e)):=h.up e.toNat (by omega)
theorem xJ {u v:Int} (hu:iN g u) (hv:iN g v) (hne:u≠v) (hy:yB b u=yB b v) {q:Int} (h1:fB b u≤q) (h2:q≤tB b u) (h3:fB b v≤q) (h4:q≤tB b v):False:=by
 have hl:=h.ly
 have EW:=hu.1;have SV:=hu.2;have ta:=hv.1;have A7:=hv.2
 unfold yB at hy;unfold fB at h1 h3;unfold tB at h2 h4
 rcases Nat.lt_or_ge u.toNat v.toNat with hlt|hge
 ·exact h.apart v.toNat (by omega) u.toNat hlt ⟨hy,by omega,by omega⟩
 ·exact h.apart u.toNat (by omega) v.toNat (by omega) ⟨hy.symm,by omega,by omega⟩
theorem Dh {v:Int} (hv:iN g v) {k:Nat} (hn:v∉p.ord.take k):∃l,k≤l∧l<g.n.toNat∧aj p l=v:=by
 obtain ⟨l,hl,e⟩:=dH hp.ok hv.1 hv.2
 refine ⟨l,Nat.le_of_not_lt fun hlt=>hn ?_,hl,e⟩
 rw [← e];exact EB hlt (by rw [bR hp.ok];exact hl)
theorem yZ {k:Nat} (hk:k<g.n.toNat) {a:Int} (ha:sk g p k a) (hne:nk g a≠aj p k):¬(fB b (aj p k)≤xB b a∧xB b a≤tB b (aj p k)):=by
 rintro ⟨q1,q2⟩
 have hm:=an h.tZ
 have hx:iN g (aj p k):=aF hp.ok hk
 have ht:iN g (iV g a):=bL hm (i:=a.toNat) (by have:=ha.e0;have:=ha.e1;omega)
 have hh:iN g (nk g a):=bQ hm (i:=a.toNat) (by have:=ha.e0;have:=ha.e1;omega)
 obtain ⟨u1,⟨u2,u3⟩,u4,u5⟩:=pU h hp ha.e0 ha.e1
 obtain ⟨j,j1,_,j3⟩:=xG ha.low
 obtain ⟨l,l1,l2,l3⟩:=Dh h hp hh ha.top
 have hlk:k<l:=by
  rcases Nat.lt_or_ge k l with h1|h1
  ·exact h1
  ·exact absurd (by rw [← l3,show l=k by omega]) hne
 have c1:=hp.lt j1 hk
 have c2:=hp.lt hlk l2
 rw [j3] at c1
 rw [l3] at c2
 have n1:iV g a≠aj p k:=fun e=>xH hp.ok hk (e ▸ ha.low)
 by_cases e1:yB b (iV g a)=yB b (aj p k)
 ·exact xJ h hp ht hx n1 e1 u2 u3 q1 q2
 by_cases e2:yB b (nk g a)=yB b (aj p k)
 ·exact xJ h hp hh hx hne e2 u4 u5 q1 q2
 have d1:yB b (iV g a)<yB b (aj p k):=by unfold AL at c1;omega
 have d2:yB b (aj p k)<yB b (nk g a):=by unfold AL at c2;omega
 have hl:=h.ly
 exact h.clear a.toNat (by have:=ha.e0;have:=ha.e1;omega) (aj p k).toNat (by have:=hx.1;have:=hx.2;omega) ⟨d1,d2,q1,q2⟩
theorem xK:Df g p fun _ i k=>xB b i<xB b k:=by
 have hm:=an h.tZ
 have hout:∀k,k<g.n.toNat→∀i∈bn p (aj p k),fB b (aj p k)≤xB b i∧xB b i≤tB b (aj p k):=fun k hk i hi=>by
  obtain ⟨x0,x1⟩:=aF hp.ok hk
  obtain ⟨⟨i0,i1⟩,i2⟩:=bG.1 ((bN hp.ok x0 x1).mem_iff.1 hi)
  have:=(pU h hp i0 i1).2.1
  rwa [show iV g i=aj p k from i2] at this
 refine ⟨fun e e0 e1 k hk ek=> ?_,fun k hk a c d ha hc hd ea ed r1 r2=> ?_,fun k hk a c ha hc na nc r=>r,fun k hk a c d ha hc na ec hd r=> ?_,fun k hk a c d ha hc na ec hd r=> ?_,fun k hk=> ?_⟩
 ·have u1:=(pU h hp e0 e1).1
  refine Decidable.byContradiction fun hn=> ?_
  obtain ⟨l,l1,l2,l3⟩:=Dh h hp (bL hm (i:=e.toNat) (by omega)) hn
  have l3:aj p l=iV g e:=l3
  rcases Nat.lt_or_ge k l with h1|h1
  ·have:=hp.lt h1 l2
   rw [l3,ek] at this
   unfold AL at this;omega
  ·rw [← l3, ← ek,show l=k by omega] at u1
   omega
 ·refine Decidable.byContradiction fun hn=>yZ h hp hk hc hn ?_
  have u1:=(pU h hp ha.e0 ha.e1).2.2
  have u2:=(pU h hp hd.e0 hd.e1).2.2
  rw [ea] at u1
  rw [ed] at u2
  omega
 ·have u1:=(pU h hp hc.e0 hc.e1).2.2
  rw [ec] at u1
  have u2:=hout k hk d hd
  have u3:=yZ h hp hk ha na
  omega
 ·have u1:=(pU h hp hc.e0 hc.e1).2.2
  rw [ec] at u1
  have u2:=hout k hk d hd
  have u3:=yZ h hp hk ha na
  omega
 ·obtain ⟨x0,x1⟩:=aF hp.ok hk
  exact hp.HG (aj p k).toNat (by omega)
theorem EH:bH g p:=ED h.tZ hp.ok (xK h hp)
end
end Go.Ab
end
section
namespace Go.Ab
set_option maxRecDepth 10000
set_option linter.unusedSectionVars false
variable {P:PS}
section
variable (h:P.Ok)
include h
theorem Jr {j:Nat} (hj:j<P.m):P.tl (P.sh j)∈(P.st j).D:=by
 obtain ⟨B,hB⟩:=eC h hj
 obtain ⟨k,hr⟩:=pF h (Nat.le_of_lt hj)
 exact ((h.dP hr (P.sh j)).1 (by rw [hB];simp)).2.1
end
def PS.VR (P:PS) (a b:Int):Prop:=∃j,j≤P.m∧a∈(P.st j).D∧b∉(P.st j).D
def PS.RN (P:PS) (L R:Int→Int) (a b:Int):Prop:=∃u e f v,P.outs a=u++ [e]∧P.outs b=f::v∧P.Lp L R (R e) (L f)
section
variable (h:P.Ok) {L R:Int→Int} {f0 f1:Int} {low:Int→Int} (F:P.iH L R f0 f1 low)
include h F
theorem HH {x e e':Int} (hx:x≠P.src) (he:e∈P.outs x) (he':e'∈P.outs x) {i t k:Nat} (hi:P.sh i=e) (hk:P.sh k=e') (hkm:k<P.m) (h1:i≤t) (h2:t≤k):P.mB x (P.tl (P.sh t)):=by
 obtain ⟨hE,ht⟩:=(h.bE x e).1 he
 obtain ⟨VS,ht'⟩:=(h.bE x e').1 he'
 have OK:x∈(P.st i).D:=by have:=Jr h (j:=i) (by omega);rwa [hi,ht] at this
 obtain ⟨q,A',B,h3,h4,h5,h6,h7,h8,h9⟩:=xu h F hx (show i≤P.m by omega) OK
 obtain ⟨v,w,hv⟩:=List.append_of_mem he'
 have hB:(P.st (q+1)).B=v++e'::(w++B):=by rw [h9,hv];simp
 obtain ⟨Z,hZ,UT⟩:=u6 h F hkm (show q<k by omega) hB (fun z hz=>((h.bE x z).1 (by rw [hv];simp [hz])).2) ht' hk (t:=t) (by omega) h2
 by_cases pK:t=k
 ·subst pK;rw [hk,ht'];exact .refl
 ·cases Z with
  |nil=>
   exfalso
   obtain ⟨B2,vP⟩:=eC h (show t<P.m by omega)
   rw [hZ] at vP
   have:P.sh t=e':=by simpa using (List.cons.inj vP).1.symm
   exact pK (uZ h (by omega) hkm (this.trans hk.symm))
  |cons z Z=>
   obtain ⟨B2,vP⟩:=eC h (show t<P.m by omega)
   rw [hZ] at vP
   have:P.sh t=z:=(List.cons.inj vP).1.symm
   rw [this]
   exact UT z (by simp)
theorem tL {a e:Int} (he:e∈P.outs a) {y:Int} (hr:P.mB (P.hd e) y):P.mB a y:=by
 obtain ⟨hE,ht⟩:=(h.bE a e).1 he
 have:P.mB a (P.tl e):=by rw [ht];exact .refl
 exact (PS.mB.step this hE).trans hr
theorem EI {a b:Int} (ha:a≠P.src) (hb:b≠P.src) (hab:¬P.mB a b) (hba:¬P.mB b a) (SX:P.outs a≠ []) (A4:P.outs b≠ []):P.RN L R a b∨P.RN L R b a:=by
 obtain ⟨u,e,hu⟩:=cG SX
 obtain ⟨e',u',tO⟩:=fM SX
 obtain ⟨v,f',hv⟩:=cG A4
 obtain ⟨f,v',Dt⟩:=fM A4
 have m1:e∈P.outs a:=by rw [hu];simp
 have m2:e'∈P.outs a:=by rw [tO];simp
 have m3:f'∈P.outs b:=by rw [hv];simp
 have m4:f∈P.outs b:=by rw [Dt];simp
 obtain ⟨E1,t1⟩:=(h.bE a e).1 m1
 obtain ⟨E2,t2⟩:=(h.bE a e').1 m2
 obtain ⟨E3,t3⟩:=(h.bE b f').1 m3
 obtain ⟨E4,t4⟩:=(h.bE b f).1 m4
 have hne:a≠b:=fun e1=>hab (e1 ▸ .refl)
 have c1:P.Lp L R (R e) (L f)∨P.Lp L R (R f) (L e):=by
  rcases kI h F E1 E4 (fun e1=>hne (by rw [← t1, ← t4,e1])) with g|g|g|g
  ·rw [t4] at g;exact absurd (tL h F m1 g) hab
  ·rw [t1] at g;exact absurd (tL h F m4 g) hba
  ·exact .inl g
  ·exact .inr g
 have c2:P.Lp L R (R e') (L f')∨P.Lp L R (R f') (L e'):=by
  rcases kI h F E2 E3 (fun e1=>hne (by rw [← t2, ← t3,e1])) with g|g|g|g
  ·rw [t3] at g;exact absurd (tL h F m2 g) hab
  ·rw [t2] at g;exact absurd (tL h F m3 g) hba
  ·exact .inl g
  ·exact .inr g
 rcases c1 with c1|c1
 ·exact .inl ⟨u,e,f,v',hu,Dt,c1⟩
 rcases c2 with c2|c2
 rotate_left
 ·exact .inr ⟨v,f',e',u',hv,tO,c2⟩
 exfalso
 obtain ⟨p1,q1,r1,r2,r3,r4⟩:=kH h F E4 E1 c1
 obtain ⟨p2,q2,s1,s2,s3,s4⟩:=kH h F E2 E3 c2
 rcases Nat.lt_or_ge p1 p2 with h1|h1
 ·have:=HH h F hb m4 m3 r3 s4 s2 (t:=p2) (by omega) (by omega)
  rw [s3,t2] at this;exact hba this
 ·have:=HH h F ha m2 m1 s3 r4 r2 (t:=p1) (by omega) (by omega)
  rw [r3,t4] at this;exact hab this
end
end Go.Ab
end
section
namespace Go.Ab
open Go.Proofs
set_option maxRecDepth 10000
set_option linter.unusedSectionVars false
section
variable {g:Gr} {p:Pl} (h:bH g p)
include h
variable (hI:j8 g=true)
include hI
end
end Go.Ab
end
section
namespace Go.Ab
open Go.Proofs
set_option maxRecDepth 10000
end Go.Ab
end
section
namespace Go.Ab
open Go.Proofs
set_option maxRecDepth 10000
set_option linter.unusedSectionVars false
def VT (g:Gr) (p:Pl) (rev:Bool) (v:Int):Int:=(CR g p rev g.n.toNat).getD v.toNat 0
section
variable {g:Gr} {p:Pl} (h:bH g p)
include h
variable (hI:j8 g=true)
include hI
theorem Di:∀ {k:Nat},k<g.n.toNat→(aY g p).mB (aj p 0) (aj p k):=by
 intro k
 induction k using Nat.strongRecOn with
 |_ k ih=>
  intro hk
  by_cases h0:k=0
  ·subst h0;exact .refl
  ·have hx:=aF h.2.1 hk
   have hn:bw g (aj p k)≠0:=fun h1=>by
    have:=jO h.1 hx (aF h.2.1 (k:=0) (by omega)) h1 (gw h)
    exact h0 (cZ h.2.1 hk (by omega) this)
   have hl:=jF h hx
   obtain ⟨a,u,hu⟩:=fM (l:=b8 g p (aj p k)) (fun h1=>by rw [h1] at hl;exact hn hl.symm)
   obtain ⟨j,hj,et⟩:=nF h hk (a:=a) (by rw [hu];simp)
   obtain ⟨h1,h2⟩:=((mh h hI).bW (aj p k) a).1 (by rw [fT hx,hu];simp)
   have:=ih j hj (by omega)
   have et':(aY g p).tl a=aj p j:=et
   rw [← et'] at this
   rw [← h2]
   exact .step this h1
theorem Dj:∀ {d k:Nat},k+d+1=g.n.toNat→(aY g p).mB (aj p k) (aj p (g.n.toNat - 1)):=by
 intro d
 induction d using Nat.strongRecOn with
 |_ d ih=>
  intro k hk
  by_cases h0:d=0
  ·obtain rfl:k=g.n.toNat - 1:=by omega
   exact .refl
  ·have hx:=aF h.2.1 (show k<g.n.toNat by omega)
   have hO:bn p (aj p k)≠ []:=fun h1=>by
    have:=(dZ h hI hx).1 h1
    have:=cZ h.2.1 (show k<g.n.toNat by omega) (by omega) this
    omega
   obtain ⟨e,v,hv⟩:=fM hO
   have he:=je h (show k<g.n.toNat by omega) (e:=e) (by rw [hv];simp)
   have hh:=bQ (an h.1) (i:=e.toNat) (by omega)
   obtain ⟨k',hk',e2⟩:=dH h.2.1 hh.1 hh.2
   have e2:aj p k'=nk g e:=e2
   obtain ⟨j,hj,e3⟩:=r8 h he.1 hk' e2.symm
   have:j=k:=cZ h.2.1 (show j<g.n.toNat by omega) (by omega) (e3.trans he.2)
   have h1:=ih (g.n.toNat - 1 - k') (by omega) (k:=k') (by omega)
   rw [e2] at h1
   have h2:(aY g p).mB (aj p k) ((aY g p).hd e):= .step (by show (aY g p).mB (aj p k) (iV g e);rw [he.2];exact .refl) he.1
   exact h2.trans h1
theorem HJ {a b:Int} (ha:iN g a) (hb:iN g b) (hab:¬(aY g p).mB a b) (hba:¬(aY g p).mB b a):a≠aj p 0∧b≠aj p 0∧bn p a≠ []∧bn p b≠ []:=by
 obtain ⟨i,hi,rfl⟩:=dH h.2.1 ha.1 ha.2
 obtain ⟨j,hj,rfl⟩:=dH h.2.1 hb.1 hb.2
 refine ⟨fun e=>hab (by rw [e];exact Di h hI hj),fun e=>hba (by rw [e];exact Di h hI hi),fun e=>hba ?_,fun e=>hab ?_⟩
 ·rw [(dZ h hI ha).1 e];exact Dj h hI (d:=g.n.toNat - 1 - j) (by omega)
 ·rw [(dZ h hI hb).1 e];exact Dj h hI (d:=g.n.toNat - 1 - i) (by omega)
end
end Go.Ab
end
section
namespace Go.Ab
open Go.Proofs Go.RowKit Go.Shelf
attribute [local go_sem] Oper.semAt_some
attribute [local congr] ACall.congr gd.congr Nx.congr
theorem Og {W:World} {z:Nat→Nat} {p:Value} {x:D} (h:Rd W z p (.pt [x])):∃b off v,p= .pointer (some ⟨b,off,none⟩)∧W.cell? ⟨b,off,none⟩=some v∧Rd W z v x:=by
 cases h with
 |pt b off cells vs hz hc hr=>exact ⟨b,off,vs 0,rfl,by simpa using hc 0 (by simp),hr 0 x rfl⟩
theorem RO {W:World} {z:Nat→Nat} {v:Value} {sz:Nat} {rows:List (List D)} (h:Rd W z v (.sl sz rows)):(∃p,v= .slice p 0 0∧rows= [])∨∃(b off cap:Nat) (vs:Nat→Value),v= .slice (some ⟨b,off,none⟩) rows.length cap∧rows.length≤cap∧(∀r∈rows,r.length=sz)∧
 (∀k,k<rows.length*sz→W.cell? ⟨b,off+k,none⟩=some (vs k))∧∀(i j:Nat) (r:List D) (x:D),rows[i]? =some r→r[j]? =some x→Rd W z (vs (i*sz+j)) x:=by
 cases h with
 |nil p sz=>exact .inl ⟨p,rfl,rfl⟩
 |sl b off n cap sz rows vs hn hsz hz hcap hc hr=>subst hn;exact .inr ⟨b,off,cap,vs,rfl,hcap,hsz,hc,hr⟩
set_option maxRecDepth 100000 in
set_option maxHeartbeats 4000000 in
theorem Js (rows:List (List D)) (h3:∀r∈rows,r.length=3) (hl:rows.length≤1000000):F5 Tryz.prog 95 3 rows:=by
 intro l p J W hJ h0
 obtain ⟨z0,xT,_⟩:=hJ 0 W h0
 obtain ⟨B,o,v0,rfl,ta,Mk⟩:=Og xT
 have hc:∀k W1,J k W1→∃pp cap,W1.cell? ⟨B,o,none⟩=some (.slice pp rows.length cap)∧(k<rows.length→∃b1 o1,pp=some ⟨b1,o1,none⟩∧∃u0 u1 u2:Value,
  W1.cell? ⟨b1,o1+(rows.length - 1 - k)*3,none⟩=some u0∧W1.cell? ⟨b1,o1+(rows.length - 1 - k)*3+1,none⟩=some u1∧W1.cell? ⟨b1,o1+(rows.length - 1 - k)*3+2,none⟩=some u2∧
  YieldAt Fence.wide 3 Tryz.prog l #[.int .i64 ((rows.length - 1 - k:Nat):Int), .agg #[u0,u1,u2]] W1 fun e W2=>e= .returned (.bool true)∧J (k+1) W2):=by
  intro k W1 hk
  obtain ⟨z,hp,hy⟩:=hJ k W1 hk
  obtain ⟨B',o',v,e,hv,hr⟩:=Og hp
  cases e
  rcases RO hr with ⟨pp,rfl,rfl⟩|⟨b,off,cap,vs,rfl,hcap,hsz,hcs,y8⟩
  ·exact ⟨pp,0,hv,fun h=>absurd h (by simp)⟩
  ·refine ⟨_,cap,hv,fun bS=>⟨b,off,rfl,vs ((rows.length - 1 - k)*3),vs ((rows.length - 1 - k)*3+1),vs ((rows.length - 1 - k)*3+2), ?_, ?_, ?_, ?_⟩⟩
   ·exact hcs ((rows.length - 1 - k)*3) (by omega)
   ·exact hcs ((rows.length - 1 - k)*3+1) (by omega)
   ·exact hcs ((rows.length - 1 - k)*3+2) (by omega)
   ·have hlt:rows.length - 1 - k<rows.length:=by omega
    refine hy bS [vs ((rows.length - 1 - k)*3),vs ((rows.length - 1 - k)*3+1),vs ((rows.length - 1 - k)*3+2)] rfl fun i u x hu hx=> ?_
    have hx':∃r,rows[rows.length - 1 - k]? =some r∧r[i]? =some x:=⟨rows[rows.length - 1 - k],List.getElem?_eq_getElem hlt,by rw [List.getD_eq_getElem?_getD,List.getElem?_eq_getElem hlt] at hx;exact hx⟩
    obtain ⟨r,iQ,tg⟩:=hx'
    have:=y8 (rows.length - 1 - k) i r x iQ tg
    match i,hu with
    |0,hu=>cases hu;exact this
    |1,hu=>cases hu;exact this
    |2,hu=>cases hu;exact this
 clear hJ xT Mk ta
 refine callsIn_of_wp Tryz.func95 rfl trivial ?_ rfl
 simp only [Tryz.ntmps95,List.size_toArray,List.length_cons,List.length_nil,Nat.reduceAdd,Nat.reduceSub,Array.replicate_succ,Array.replicate_zero,List.push_toArray,List.append_toArray,List.nil_append,List.cons_append]
 obtain ⟨VU,UU,hc0,_⟩:=hc 0 W h0
 have hw:wrap64 ((rows.length:Int) - 1)=(rows.length:Int) - 1:=by unfold wrap64;omega
 gi_wp2
 gi_loopw [3] (fun i wr=>∃k:Nat,k≤rows.length∧i= .int .i64 ((rows.length:Int) - 1 - k)∧J k wr) (fun i _=>(Go.RowKit.intOf i+1).toNat)
 case atStart=>exact ⟨0,Nat.zero_le _,by simp,h0⟩
 case round=>
  obtain ⟨k,hk,rfl,MM⟩:=hrel
  obtain ⟨pp,cap,Si,Oh⟩:=hc k wr MM
  by_cases hlt:k<rows.length
  ·obtain ⟨b1,o1,rfl,u0,u1,u2,g0,g1,g2,fn,tmps,assign,body,hy,hR⟩:=Oh hlt
   have hi:((rows.length - 1 - k:Nat):Int)=(rows.length:Int) - 1 - k:=by omega
   rw [hi] at hy
   have hi2:((rows.length:Int) - 1 - k).toNat=rows.length - 1 - k:=by omega
   have T6:0≤(rows.length:Int) - 1 - k:=by omega
   have UQ:wrap64 ((rows.length:Int) - 1 - k - 1)=(rows.length:Int) - 1 - k - 1:=by unfold wrap64;omega
   gi_wp2
   refine hR.mono ?_
   rintro e W3 ⟨rfl,QL⟩
   gi_wp2
   go_roundw
   case rel=>exact ⟨k+1,by omega,by congr 1;omega,QL⟩
   case measure=>simp [Go.RowKit.intOf];omega
  ·obtain rfl:k=rows.length:=by omega
   gi_wp2
   go_end0
   exact ⟨⟨_,rfl⟩,MM⟩
end Go.Ab
end
section
namespace Go.Ab
open Go.Proofs
set_option maxRecDepth 10000
variable {g:Gr} {p:Pl}
def qR (g:Gr) (p:Pl) (v:Nat):List Int:=(p.outs.getD v []).map (fun i=>2*i)++(((dM g p g.n.toNat).getD v []).reverse.filter fun t=> !decide (t.1= -1)).map fun t=>2*t.1+1
def eZ (g:Gr) (p:Pl):List (List Int):=(List.range p.outs.length).map (qR g p)
theorem Jt (hr:bH g p) {k:Nat} (hk:k<g.n.toNat):∀t∈eX g p k,BN g t:=by
 have oN:=hr.2.1
 have hm:=an hr.1
 obtain ⟨hi,_,_⟩:=c7 hm oN (k:=k) (by omega) fun j hj=>hr.2.2 j (by omega)
 have hR:aD g (fK g p k) (aj p k)=true:=hr.2.2 k (by omega)
 have hx:=aF oN (k:=k) (by omega)
 unfold eX
 by_cases hn:bw g (aj p k)=0
 ·rw [gv _ (ir hm hi.toiU hx.1 hn)]
  intro t ht;cases ht
 ·obtain ⟨A,X,C,hrw,nA,nC,hX,cX⟩:=cr hm hi.toiU hR hn
  rw [iw _ hrw nA nC hX]
  intro t ht
  exact hi.it t (by rw [hrw];simp [show t∈X from ht])
end Go.Ab
end
section
namespace Go.Ab
open Go.Proofs
attribute [local congr] ACall.congr gd.congr Nx.congr
set_option maxRecDepth 20000
set_option maxHeartbeats 16000000
theorem vU (gX:List It):Spec Tryz.prog 48 (Args [.d (sT gX)]) [] (.fn 95 [] [.d (.pt [.sl 3 (gX.map rT)])]) []:=by
 (refine Spec.hd (C:=T.cfg [] []) (rs:= [.t 2]) (T.ah _ _) Tryz.func48 rfl rfl Tryz.ntmps48 Tryz.results48 (by simp [AObj.isNest]) (by simp [AObj.isNest]) (by kernel_rfl) T.mixed fun X hX hP hC aI bU=> ?_)
 repeat' (first|refine Rn.p ?_|(with_reducible apply And.intro)|((first|(refine hK _ ?_;clear hK K)|with_reducible intro K hK|refine Rs.p ?_|((with_reducible first|apply oP|apply oQ);exact rfl));try simp only [go_sem,simprocAttr])|((with_reducible refine oD ?_ ?_);kernel_rfl)|((with_reducible intro h);try simp only [go_sem,simprocAttr] at h)|omega|intro h)
section
variable {g:Gr} {p:Pl}
theorem y3 (hr:bH g p) {x:Nat} (hx:x<g.n.toNat):((dM g p g.n.toNat).getD x []).length≤10000∧∀t∈(dM g p g.n.toNat).getD x [],t.1= -1∨(0≤t.1∧t.1<g.es.length):=by
 have oN:=hr.2.1
 have hm:=an hr.1
 have hn:=aM hm
 obtain ⟨k,hk,ek⟩:=dH oN (x:=(x:Int)) (by omega) (by omega)
 have e1:=oc oN (k:=g.n.toNat) (Nat.le_refl _) hk
 rw [ek,Int.toNat_natCast] at e1
 rw [e1]
 refine ⟨?_,fun t ht=> ?_⟩
 ·obtain ⟨hi,_,hrl⟩:=c7 hm oN (k:=k) (by omega) fun j hj=>hr.2.2 j (by omega)
  have hR:aD g (fK g p k) (aj p k)=true:=hr.2.2 k (by omega)
  have hmul:k*(g.es.length+1)≤64*129:=Nat.mul_le_mul (by omega) (by omega)
  have hx:=aF oN (k:=k) (by omega)
  unfold eX
  by_cases hn0:bw g (aj p k)=0
  ·rw [gv _ (ir hm hi.toiU hx.1 hn0)];simp
  ·obtain ⟨A,X,C,hrw,nA,nC,hX,cX⟩:=cr hm hi.toiU hR hn0
   rw [iw _ hrw nA nC hX]
   rw [hrw] at hrl
   simp only [List.length_append] at hrl
   show X.length≤_
   omega
 ·rcases Jt hr hk t ht with ⟨h0,_⟩|⟨h0,h1,_⟩
  ·exact .inl h0
  ·exact .inr ⟨h0,h1⟩
theorem y4 (hr:bH g p) {x:Nat} (hx:x<g.n.toNat):(p.outs.getD x []).length≤g.es.length∧∀i∈p.outs.getD x [],0≤i∧i<g.es.length:=by
 have oN:=hr.2.1
 have hl:=jQ oN (x:=(x:Int)) (by omega) (by omega)
 have hp:=bN oN (x:=(x:Int)) (by omega) (by omega)
 unfold bn at hl hp
 rw [Int.toNat_natCast] at hl hp
 exact ⟨hl,fun i hi=>(dY (hp.mem_iff.1 hi)).1⟩
end
def B6 (gX:List It) (k:Nat):List Int:=((gX.reverse.take k).filter fun t=> !decide (t.1= -1)).map fun t=>2*t.1+1
theorem Ju {gX:List It} :B6 gX gX.length=(gX.reverse.filter fun t=> !decide (t.1= -1)).map fun t=>2*t.1+1:=by
 unfold B6
 rw [List.take_of_length_le (by simp)]
theorem HK {gX:List It} {k:Nat} (hk:k<gX.length):B6 gX (k+1)=B6 gX k++(if (gX.getD (gX.length - 1 - k) (0,0,0)).1= -1 then [] else [2*(gX.getD (gX.length - 1 - k) (0,0,0)).1+1]):=by
 unfold B6
 have hk':k<gX.reverse.length:=by simpa using hk
 rw [List.take_add_one,List.getElem?_eq_getElem hk',List.filter_append,List.map_append]
 congr 1
 rw [List.getElem_reverse,List.getD_eq_getElem?_getD,List.getElem?_eq_getElem (by omega)]
 simp only [Option.toList_some,Option.getD_some,List.filter_cons,List.filter_nil]
 split<;>rename_i h
 ·rw [if_neg (by simpa using h)];rfl
 ·rw [if_pos (by simpa using h)];rfl
theorem Dk {gX:List It} {k:Nat} :(B6 gX k).length≤gX.length:=by
 unfold B6
 rw [List.length_map]
 have h1:=List.length_filter_le (fun t:It=> !decide (t.1= -1)) (gX.reverse.take k)
 have h2:(gX.reverse.take k).length≤gX.length:=by rw [List.length_take,List.length_reverse];omega
 omega
theorem oo {g:Gr} {p:Pl} :(eZ g p).length=p.outs.length:=by simp [eZ]
theorem B7 {g:Gr} {p:Pl} {k:Nat} (hk:k<p.outs.length):(eZ g p).take (k+1)=(eZ g p).take k++ [qR g p k]:=by
 rw [List.take_add_one,List.getElem?_eq_getElem (by rw [oo];exact hk)]
 simp [eZ]
theorem xL (g:Gr) (hl:g.es.length≤1000) (p:Pl) (hr:bH g p):Spec Tryz.prog 12 (Args [eG g,ePl p]) [] (.tup [.d (.sl 1 (vI (eZ g p))),eN 0]) []:=by
 have hb:(true=true)↔(bF g).1=0∧bt g p:=⟨fun _=>⟨hr.1,hr.2.1⟩,fun _=>rfl⟩
 have oN:=hr.2.1
 have hm:=an hr.1
 have hn:=aM hm
 have hlen:=oN.1
 have hall:∀l∈p.outs,l.length≤g.es.length:=fun l hm=>by
  obtain ⟨i,hi,rfl⟩:=List.getElem_of_mem hm
  have:=(y4 hr (x:=i) (by omega)).1
  rwa [List.getD_eq_getElem?_getD,List.getElem?_eq_getElem hi] at this
 have UW:qK p:=by
  have:=bR oN
  exact ⟨by omega,by omega,fun l hm=>by have:=hall l hm;omega⟩
 have xy:=j0 g hl p UW true hb
 rw [pS hb hr] at xy
 simp only at xy
 have hel:=kS (g:=g) (p:=p) (k:=g.n.toNat)
 have Nz:=fun x hx=>y3 hr (x:=x) hx
 have Kz:=fun x hx=>y4 hr (x:=x) hx
 have SY:∀x,qR g p x=(p.outs.getD x []).map (fun i=>2*i)++B6 ((dM g p g.n.toNat).getD x []) ((dM g p g.n.toNat).getD x []).length:=fun x=>by rw [Ju];rfl
 generalize dM g p g.n.toNat=ends at xy hel Nz SY
 (refine Spec.hd (C:=T.cfg [] []) (rs:= [.t 4, .t 5]) (T.ah _ _) Tryz.func12 rfl rfl Tryz.ntmps12 Tryz.results12 (by simp [AObj.isNest]) (by simp [AObj.isNest]) (by kernel_rfl) T.mixed fun X hX hP hC aI bU=> ?_)
 repeat' (first|(show cw _ (.seq (.region 5 _ _) _) _ _;(refine iZ hX 9 300 (.tip 25 1 []) ?_ ?_ (by decide) ⟨25,1,by decide, .inr rfl⟩ ?_;(iterate 2 (focus (simp only [go_sem,simprocAttr];done)));simp only [go_sem,simprocAttr]))|refine Rn.p ?_|(with_reducible apply And.intro)|((first|(refine hK _ ?_;clear hK K)|with_reducible intro K hK|refine Rs.p ?_|((with_reducible first|apply oP|apply oQ);exact rfl)|refine aa hX hC hP (xy) rfl rfl rfl (by simp only [go_sem,simprocAttr]) rfl ?_);try simp only [go_sem,simprocAttr])|((with_reducible refine oD ?_ ?_);kernel_rfl)|((with_reducible intro h);try simp only [go_sem,simprocAttr] at h)|omega|intro h)
 refine ag (fun k:Nat=>k≤p.outs.length) (fun k=>⟨[(6, .d (.sl 1 (vT ends))),(9, .ref 300),(28, .d (.sl 1 (vI p.outs))),(29,eN p.outs.length),(30,eN k)], [(300, .tip 25 1 (vI ((eZ g p).take k)))]⟩) (fun k=>p.outs.length - k) 0 (by omega) ?_ ?_
 ·refine Le.of ?_ ?_<;>simp [go_sem,simprocAttr,vI_length,vI]
 rintro k hk
 rcases Nat.lt_or_ge k p.outs.length with hlt|hge
 ·have au:decide ((k:Int)<(p.outs.length:Int))=true:=decide_eq_true (by omega)
  have A9:=fun d=>iu (ls:=p.outs) hlt d
  have Ba:=fun d=>nZ (ls:=ends) (k:=k) (by omega) d
  have ef:=B7 (g:=g) hlt
  have pZ:((eZ g p).take k).length=k:=by rw [List.length_take,oo];omega
  have Oi:=Kz k (by omega)
  have Oj:=Nz k (by omega)
  have Jv:=SY k
  have Ij:∀l1 l2,vI (l1++ [l2])=vI l1++ [[sI l2]]:=fun l1 l2=>by simp [vI]
  generalize p.outs.getD k []=o at A9 Oi Jv
  generalize ends.getD k []=gX at Ba Oj Jv
  generalize HZ:(eZ g p).take (k+1)=T2 at ef
  generalize (eZ g p).take k=T1 at ef pZ
  repeat' (first|(show cw _ (.seq (.region 9 _ _) _) _ _;(refine iC hX 12 0 401 (.tip 3 1 []) rfl rfl rfl (by simp only [go_sem,simprocAttr,vI_length,vT_length,au,A9,Ba]) (by decide) (by simp [go_sem,simprocAttr,vI_length,vT_length,au,A9,Ba]) ⟨3,1,by decide, .inr rfl⟩ ?_;simp only [List.set_cons_zero,List.set_cons_succ,go_sem,simprocAttr,vI_length,vT_length,au,A9,Ba]))|refine Rn.p ?_|(with_reducible apply And.intro)|((first|(refine hK _ ?_;clear hK K)|with_reducible intro K hK|refine Rs.p ?_|((with_reducible first|apply oP|apply oQ);exact rfl)|refine aa hX hC hP (xy) rfl rfl rfl (by simp only [go_sem,simprocAttr,vI_length,vT_length,au,A9,Ba]) rfl ?_);try simp only [go_sem,simprocAttr,vI_length,vT_length,au,A9,Ba])|((with_reducible refine oD ?_ ?_);kernel_rfl)|((with_reducible intro h);try simp only [go_sem,simprocAttr,vI_length,vT_length,au,A9,Ba] at h)|omega|intro h)
  refine ag (fun j:Nat=>j≤o.length) (fun j=>⟨[(6, .d (.sl 1 (vT ends))),(9, .ref 300),(28, .d (.sl 1 (vI p.outs))),(29,eN p.outs.length),(30,eN k),(10,eN k),(12, .ptr 12 0),(35, .d (sI o)),(36,eN o.length),(37,eN j)], [(300, .tip 25 1 (vI T1)),(12, .box [.ref 401]),(401, .tip 3 1 (((o.take j).map fun i=>2*i).map rI))]⟩) (fun j=>o.length - j) 0 (by omega) ?_ ?_
  ·refine Le.of ?_ ?_<;>simp [go_sem,simprocAttr,vI_length,vT_length,au,A9,Ba]
  rintro j hj
  rcases Nat.lt_or_ge j o.length with hjl|LR
  ·have az:decide ((j:Int)<(o.length:Int))=true:=decide_eq_true (by omega)
   have hq:=aB (d:=0) hjl
   have L9:(o.take j).length=j:=by rw [List.length_take];omega
   have LI:o.take (j+1)=o.take j++ [o.getD j 0]:=by
    rw [List.take_add_one,List.getElem?_eq_getElem hjl,List.getD_eq_getElem?_getD,List.getElem?_eq_getElem hjl];rfl
   have hi2:=Oi.2 _ hq
   generalize UX:o.take (j+1)=P2 at LI
   generalize o.take j=P1 at LI L9
   generalize JL:o.getD j 0=i at LI hi2
   repeat' (first|(show cw _ (.region 13 _ _) _ _;(refine dO hX 12 0 45 401 rfl rfl rfl (by first|exact .inl rfl|exact .inr rfl) (by decide) (by decide) ?_;simp only [List.set_cons_zero,List.set_cons_succ,go_sem,simprocAttr,vI_length,vT_length,au,az,A9,Ba,JL,L9,List.length_map]))|refine Rn.p ?_|(with_reducible apply And.intro)|((first|(refine hK _ ?_;clear hK K)|with_reducible intro K hK|refine Rs.p ?_|((with_reducible first|apply oP|apply oQ);exact rfl)|refine aa hX hC hP (xy) rfl rfl rfl (by simp only [go_sem,simprocAttr,vI_length,vT_length,au,az,A9,Ba,JL,L9,List.length_map]) rfl ?_);try simp only [go_sem,simprocAttr,vI_length,vT_length,au,az,A9,Ba,JL,L9,List.length_map])|((with_reducible refine oD ?_ ?_);kernel_rfl)|((with_reducible intro h);try simp only [go_sem,simprocAttr,vI_length,vT_length,au,az,A9,Ba,JL,L9,List.length_map] at h)|omega|intro h)
   refine ⟨j+1,by omega, ?_,by omega⟩
   rw [UX,LI]
   refine Le.of ?_ ?_<;>simp [go_sem,simprocAttr,vI_length,vT_length,au,az,A9,Ba,JL,L9,List.length_map,rI]
  have az:decide ((j:Int)<(o.length:Int))=false:=decide_eq_false (by omega)
  obtain rfl:j=o.length:=by omega
  rw [List.take_length]
  have UY:=vU gX
  repeat' (first|refine Rn.p ?_|(with_reducible apply And.intro)|((first|(refine hK _ ?_;clear hK K)|with_reducible intro K hK|refine Rs.p ?_|((with_reducible first|apply oP|apply oQ);exact rfl)|refine aa hX hC hP (UY) rfl rfl rfl (by simp only [go_sem,simprocAttr,vI_length,vT_length,au,az,A9,Ba]) rfl ?_);try simp only [go_sem,simprocAttr,vI_length,vT_length,au,az,A9,Ba])|((with_reducible refine oD ?_ ?_);kernel_rfl)|((with_reducible intro h);try simp only [go_sem,simprocAttr,vI_length,vT_length,au,az,A9,Ba] at h)|omega|intro h)
  have OI:∀j,(gX.map rT).getD j []=if j<gX.length then rT (gX.getD j (0,0,0)) else []:=fun j=>by
   simp only [List.getD_eq_getElem?_getD,List.getElem?_map]
   split
   ·rename_i h;rw [List.getElem?_eq_getElem h];rfl
   ·rename_i h;rw [List.getElem?_eq_none (by omega)];rfl
  have hrl:(gX.map rT).length=gX.length:=List.length_map ..
  refine F6 hX (gf:=95) (sz:=3) (rows:=gX.map rT) (by rw [hP];exact Js _ (fun r hr=>by obtain ⟨t,_,rfl⟩:=List.mem_map.1 hr;rfl) (by rw [hrl];omega)) (by rw [hP];exact ⟨_,_,Tryz.func95,rfl,rfl⟩) rfl (fun r hr=>by obtain ⟨t,_,rfl⟩:=List.mem_map.1 hr;rfl)
   (asN [(10000,12),(10001,401)]) [(12, .box [.ref 401]),(401, .tip 3 1 ((o.map fun i=>2*i).map rI))] [(10000, .box [.ref 10001]),(10001, .tip 3 1 ((o.map fun i=>2*i).map rI))] [(12, .ptr 10000 0)]
   (fun j=> [(10000, .box [.ref 402]),(402, .tip 3 1 (((o.map fun i=>2*i)++B6 gX j).map rI))])
   (fun j=>⟨[(16, .ptr 16 0),(12, .ptr 10000 0)], [(16, .box [eN (gX.getD (gX.length - 1 - j) (0,0,0)).1,eN (gX.getD (gX.length - 1 - j) (0,0,0)).2.1,eN (gX.getD (gX.length - 1 - j) (0,0,0)).2.2]),(10000, .box [.ref 402]),(402, .tip 3 1 (((o.map fun i=>2*i)++B6 gX j).map rI))]⟩) ?_ ?_ ?_ ?_ ?_ ?_ ?_ ?_ ?_
  ·refine ⟨by simp [asN,AObj.ren,AV.rens,AV.ren],by simp [nodupM,look],by simp [nodupM,look],by simp [AObj.isNest],by simp [AObj.isNest],fun l l' h h' e=> ?_,by simp [look,asN],by simp [AObj.ro],by simp [AObj.ro],by simp [AV.ids,AV.idss],by simp [AObj.ids,AV.idss,AV.ids,look]⟩
   have mem:∀l,(look [(10000,AObj.box [AV.ref 10001]),(10001,AObj.tip 3 1 ((o.map fun i=>2*i).map rI))] l≠none∨look [(10000,AObj.box [AV.ref 402]),(402,AObj.tip 3 1 (((o.map fun i=>2*i)++B6 gX (gX.map rT).length).map rI))] l≠none)→l=10000∨l=10001∨l=402:=fun l hl=>by
    simp only [look] at hl
    by_cases e1:10000=l
    ·exact .inl e1.symm
    ·by_cases e2:10001=l
     ·exact .inr (.inl e2.symm)
     ·by_cases e3:402=l
      ·exact .inr (.inr e3.symm)
      ·rw [if_neg e1,if_neg e2,if_neg e1,if_neg e3] at hl
       exact absurd rfl (hl.elim id id)
   rcases mem l h with rfl|rfl|rfl<;>rcases mem l' h' with rfl|rfl|rfl<;>first|rfl|(simp [asN] at e)
  ·simp [look]
  ·simp
  ·intro q
   simp only [get]
   by_cases e:12=q
   ·subst e;left;simp [AV.ren,asN]
   ·right;rw [if_neg e]
  ·intro q l hl
   simp only [get] at hl
   by_cases e:12=q
   ·rw [if_pos e] at hl
    simp only [AV.ids,List.mem_singleton] at hl
    subst hl
    rw [cL (by omega)];simp [look]
   ·rw [if_neg e] at hl;simp [AV.ids] at hl
  ·intro X' K6 a w hr
   refine Rel.le ?_ (Rel.PR K6 hr 10000 0 10001 402 rfl rfl rfl (.inr rfl) (by decide) (by decide))
   have hb0:B6 gX 0= []:=by simp [B6]
   refine Le.of ?_ ?_<;>simp [go_sem,simprocAttr,hb0]
  ·intro j hj X' K6 LS RP
   have RQ:Xc X' (T.cfg [] []):=⟨K6,by rw [RP,hC],by rw [LS,hP];exact hP ▸ aI⟩
   rw [hrl] at hj ⊢
   have x8:=OI (gX.length - 1 - j)
   rw [if_pos (by omega)] at x8
   rw [x8]
   generalize gX.getD (gX.length - 1 - j) (0,0,0)=t
   repeat' (first|refine Rn.p ?_|(with_reducible apply And.intro)|((first|(refine hK _ ?_;clear hK K)|with_reducible intro K hK|refine Rs.p ?_|((with_reducible first|apply oP|apply oQ);exact rfl));try simp only [go_sem,simprocAttr,rT])|((with_reducible refine oD ?_ ?_);kernel_rfl)|((with_reducible intro h);try simp only [go_sem,simprocAttr,rT] at h)|omega|intro h)
   refine ⟨fun Y hY a w hr=>Rel.le ?_ hr⟩
   refine Le.of ?_ ?_<;>simp [go_sem,simprocAttr,rT]
  ·intro j hj X' K6 LS RP
   have RQ:Xc X' (T.cfg [] []):=⟨K6,by rw [RP,hC],by rw [LS,hP];exact hP ▸ aI⟩
   rw [hrl] at hj
   have OW:=HK hj
   have kj:=Dk (gX:=gX) (k:=j)
   have JS:=Oj.2 _ (aB (d:=(0,0,0)) (show gX.length - 1 - j<gX.length by omega))
   generalize gX.getD (gX.length - 1 - j) (0,0,0)=t at*
   generalize B6 gX (j+1)=B2 at*
   generalize B6 gX j=B1 at*
   by_cases ht:t.1= -1
   ·have cI:decide (t.1= -1)=true:=decide_eq_true ht
    rw [if_pos ht,List.append_nil] at OW
    subst OW
    repeat' (first|refine Rn.p ?_|(with_reducible apply And.intro)|((first|(refine hK _ ?_;clear hK K)|with_reducible intro K hK|refine Rs.p ?_|((with_reducible first|apply oP|apply oQ);exact rfl));try simp only [go_sem,simprocAttr,List.length_map,List.length_append,cI])|((with_reducible refine oD ?_ ?_);kernel_rfl)|((with_reducible intro h);try simp only [go_sem,simprocAttr,List.length_map,List.length_append,cI] at h)|omega|intro h)
    refine ⟨fun Y hY a w hr=>Rel.le ?_ hr⟩
    refine Le.of ?_ ?_<;>simp [go_sem,simprocAttr,List.length_map,List.length_append,cI]
   ·have cI:decide (t.1= -1)=false:=decide_eq_false ht
    rw [if_neg ht] at OW
    subst OW
    repeat' (first|refine Rn.p ?_|(with_reducible apply And.intro)|((first|(refine hK _ ?_;clear hK K)|with_reducible intro K hK|refine Rs.p ?_|((with_reducible first|apply oP|apply oQ);exact rfl));try simp only [go_sem,simprocAttr,List.length_map,List.length_append,cI])|((with_reducible refine oD ?_ ?_);kernel_rfl)|((with_reducible intro h);try simp only [go_sem,simprocAttr,List.length_map,List.length_append,cI] at h)|omega|intro h)
    refine ⟨fun Y hY a w hr=>Rel.le ?_ (Rel.PR hY hr 10000 0 63 402 rfl rfl rfl (.inr rfl) (by decide) (by decide))⟩
    refine Le.of ?_ ?_<;>simp [go_sem,simprocAttr,List.length_map,List.length_append,cI,rI]
  ·rw [hrl, ← Jv]
   have UZ:(qR g p k).length≤20000:=by
    rw [Jv,List.length_append,List.length_map]
    have:=Dk (gX:=gX) (k:=gX.length)
    omega
   generalize qR g p k=tv at*
   simp only [go_sem,simprocAttr,vI_length,vT_length,au,killM,renM,asN,AObj.ren,AV.rens,AV.ren,Ij]
   repeat' (first|(show cw _ (.region 19 _ _) _ _;(refine mO hX 9 67 300 (by simp only [go_sem,simprocAttr,vI_length,vT_length,au,killM,renM,asN,AObj.ren,AV.rens,AV.ren,Ij]) rfl (by first|exact .inl rfl|exact .inr rfl) (by decide) ?_;simp only [go_sem,simprocAttr,vI_length,vT_length,au,killM,renM,asN,AObj.ren,AV.rens,AV.ren,Ij]))|refine Rn.p ?_|(with_reducible apply And.intro)|((first|(refine hK _ ?_;clear hK K)|with_reducible intro K hK|refine Rs.p ?_|((with_reducible first|apply oP|apply oQ);exact rfl));try simp only [go_sem,simprocAttr,vI_length,vT_length,au,killM,renM,asN,AObj.ren,AV.rens,AV.ren,Ij])|((with_reducible refine oD ?_ ?_);kernel_rfl)|((with_reducible intro h);try simp only [go_sem,simprocAttr,vI_length,vT_length,au,killM,renM,asN,AObj.ren,AV.rens,AV.ren,Ij] at h)|omega|intro h)
   refine ⟨k+1,by omega, ?_,by omega⟩
   rw [HZ,ef]
   refine Le.of ?_ ?_<;>simp [go_sem,simprocAttr,vI_length,vT_length,au,killM,renM,asN,AObj.ren,AV.rens,AV.ren,Ij]
 ·have au:decide ((k:Int)<(p.outs.length:Int))=false:=decide_eq_false (by omega)
  obtain rfl:k=p.outs.length:=by omega
  rw [List.take_of_length_le (Nat.le_of_eq oo)]
  repeat' (first|refine Rn.p ?_|(with_reducible apply And.intro)|((first|(refine hK _ ?_;clear hK K)|with_reducible intro K hK|refine Rs.p ?_|((with_reducible first|apply oP|apply oQ);exact rfl));try simp only [go_sem,simprocAttr,au])|((with_reducible refine oD ?_ ?_);kernel_rfl)|((with_reducible intro h);try simp only [go_sem,simprocAttr,au] at h)|omega|intro h)
end Go.Ab
end
section
namespace Go.Ab
open Go.Proofs
set_option maxRecDepth 10000
set_option linter.unusedSectionVars false
theorem vA {f:Int→Int} :∀ {l m:List Int},l.Perm m→(l.Pairwise fun a b=>f a<f b)→(m.Pairwise fun a b=>f a<f b)→l=m
 | [],m,hp,_,_=>hp.nil_eq
 |a::l, [],hp,_,_=>absurd hp.length_eq (by simp)
 |a::l,b::m,hp,h1,h2=>by
  obtain ⟨a1,a2⟩:=List.pairwise_cons.1 h1
  obtain ⟨b1,b2⟩:=List.pairwise_cons.1 h2
  have e:a=b:=by
   refine Decidable.byContradiction fun hne=> ?_
   have h3:a∈m:=(List.mem_cons.1 (hp.mem_iff.1 List.mem_cons_self)).resolve_left hne
   have h4:b∈l:=(List.mem_cons.1 (hp.mem_iff.2 List.mem_cons_self)).resolve_left (Ne.symm hne)
   have:=a1 b h4
   have:=b1 a h3
   omega
  subst e
  rw [vA (hp.cons_inv) a2 b2]
theorem nK {ac L R:Int→Int} {l:List Int} (y5:∀ {u a b v},l=u++a::b::v→R a=L b) (hlt:∀e∈l,ac (L e)<ac (R e)):∀ {j:Nat},j<l.length→∀ {i:Nat},i≤j→ac (L (l.getD i 0))≤ac (L (l.getD j 0))∧ac (R (l.getD i 0))≤ac (R (l.getD j 0))∧(i<j→ac (R (l.getD i 0))≤ac (L (l.getD j 0)))
 |j,hj,i,hij=>by
  by_cases e:i=j
  ·subst e;exact ⟨Int.le_refl _,Int.le_refl _,fun h=>by omega⟩
  ·obtain ⟨j',rfl⟩:∃j',j=j'+1:=⟨j - 1,by omega⟩
   obtain ⟨h1,h2,h3⟩:=nK y5 hlt (j:=j') (by omega) (i:=i) (by omega)
   have hs:l=l.take j'++l.getD j' 0::l.getD (j'+1) 0::l.drop (j'+2):=by
    rw [List.getD_eq_getElem?_getD,List.getD_eq_getElem?_getD,List.getElem?_eq_getElem (by omega),List.getElem?_eq_getElem hj]
    simp only [Option.getD_some]
    rw [← List.drop_eq_getElem_cons (by omega), ← List.drop_eq_getElem_cons (by omega),List.take_append_drop]
   have ha:=y5 hs
   have l1:=hlt _ (aB (d:=0) (show j'<l.length by omega))
   have l2:=hlt _ (aB (d:=0) hj)
   rw [ha] at h2 l1
   exact ⟨by omega,by omega,fun _=>h2⟩
theorem AM {l:List Int} {e:Int} (h:e∈l):∃i,i<l.length∧l.getD i 0=e:=by
 obtain ⟨i,hi,rfl⟩:=List.getElem_of_mem h
 exact ⟨i,hi,by rw [List.getD_eq_getElem?_getD,List.getElem?_eq_getElem hi];rfl⟩
theorem AN {ac L R:Int→Int} {l:List Int} (y5:∀ {u a b v},l=u++a::b::v→R a=L b) (hlt:∀e∈l,ac (L e)<ac (R e)):l.Pairwise fun a b=>ac (L a)<ac (L b):=by
 rw [List.pairwise_iff_getElem]
 intro i j hi hj hij
 have h:=(nK y5 hlt (j:=j) hj (i:=i) (by omega)).2.2 hij
 have h2:=hlt _ (List.getElem_mem hi)
 rw [List.getD_eq_getElem?_getD,List.getD_eq_getElem?_getD,List.getElem?_eq_getElem hi,List.getElem?_eq_getElem hj] at h
 simp only [Option.getD_some] at h
 omega
section
variable {g:Gr} {p:Pl} (hrun:bH g p) (hI:j8 g=true) (h0:0<g.es.length) (gW:g.es.length≤60)
include hrun hI h0 gW
theorem nL {e:Int} (he:(aY g p).E e):iy g p (Lf g p e)<iy g p (Rf g p e):=by
 have hm2:=tJ hrun hI h0 gW
 obtain ⟨_,_,f3,_⟩:=j4 hm2 (vr hrun hI hm2)
 have h1:0≤e∧e<g.es.length:=he
 have:=f3 e.toNat (by rw [jV];omega)
 rw [yT (by omega),yU (by omega),show ((e.toNat:Nat):Int)=e by omega] at this
 unfold iy
 omega
theorem AO {x y:Int} (h:(aY g p).Lp (Lf g p) (Rf g p) x y):iy g p x≤iy g p y:=by
 induction h with
 |refl=>exact Int.le_refl _
 |step h1 he ih=>have:=nL hrun hI h0 gW he;omega
theorem sn {x y:Int} (h:(aY g p).mB x y):(fU g).getD x.toNat 0≤(fU g).getD y.toNat 0∧(x≠y→(fU g).getD x.toNat 0<(fU g).getD y.toNat 0):=by
 obtain ⟨_,_,k3,_⟩:=j4 (an hrun.1) (tK hrun.1)
 induction h with
 |refl=>exact ⟨Int.le_refl _,fun h=>absurd rfl h⟩
 |step h1 he ih=>
  rename_i e
  have h2:0≤e∧e<g.es.length:=he
  have:=k3 e.toNat (by omega)
  have e1:tl g e.toNat=(aY g p).tl e:=rfl
  have e2:hd g e.toNat=(aY g p).hd e:=rfl
  rw [e1,e2] at this
  have:=ih.1
  exact ⟨by omega,fun _=>by omega⟩
theorem HL {e:Int} (he:(aY g p).E e):0≤iy g p (Lf g p e)∧iy g p (Rf g p e)≤iy g p (cN g p):=by
 have hm2:=tJ hrun hI h0 gW
 have BY:=vr hrun hI hm2
 have hr:=C9 hrun hI (e:=e) he
 have Lm:(lV g p).n.toNat=cN g p+1:=by show ((cN g p:Int)+1).toNat=_;omega
 have:=(yX hm2 BY (Dc hrun hI h0) (v:=(Rf g p e).toNat) (by rw [Lm];omega)).1
 obtain ⟨_,f2,_,_⟩:=j4 hm2 BY
 exact ⟨f2 _,by unfold iy;exact this⟩
theorem HM {x:Int} (hx:iN g x) {l:List Int} (hl:bn p x=l):fB (gF g p) x=za g p l∧tB (gF g p) x=toV g p l:=by
 have hlen:=hrun.2.1.1
 have h1:=hx.1;have h2:=hx.2
 have hla:bn p x=p.outs.getD x.toNat []:=rfl
 rw [hla] at hl
 constructor
 ·show (p.outs.map (za g p)).getD x.toNat 0=_
  rw [List.getD_eq_getElem?_getD,List.getElem?_map,List.getElem?_eq_getElem (by omega), ← hl,List.getD_eq_getElem?_getD,List.getElem?_eq_getElem (by omega)];rfl
 ·show (p.outs.map (toV g p)).getD x.toNat 0=_
  rw [List.getD_eq_getElem?_getD,List.getElem?_map,List.getElem?_eq_getElem (by omega), ← hl,List.getD_eq_getElem?_getD,List.getElem?_eq_getElem (by omega)];rfl
theorem Jw {e:Int} (he:(aY g p).E e):xB (gF g p) e=iy g p (Lf g p e):=by
 have h1:0≤e∧e<g.es.length:=he
 show (arr (Dd g p) g.es.length).getD e.toNat 0=_
 rw [nH (by omega),show ((e.toNat:Nat):Int)=e by omega];rfl
theorem oq {x e:Int} (he:e∈(aY g p).outs x):∃a b:Int,a∈(aY g p).outs x∧b∈(aY g p).outs x∧fB (gF g p) x=iy g p (Lf g p a)∧tB (gF g p) x=iy g p (Rf g p b) - 1∧
 (∃v,(aY g p).outs x=a::v)∧(∃u,(aY g p).outs x=u++ [b])∧iy g p (Lf g p a)≤iy g p (Lf g p e)∧iy g p (Rf g p e)≤iy g p (Rf g p b):=by
 have hO:=si hrun hI
 have hF:=cU hrun hI
 have hx:iN g x:=by
  refine Decidable.byContradiction fun hn=> ?_
  rw [nu hn] at he;cases he
 rw [dg hx] at he ⊢
 have hne:bn p x≠ []:=fun e0=>by rw [e0] at he;cases he
 have hall:∀f∈bn p x,(aY g p).E f:=fun f hf=>((hO.bE x f).1 (by rw [dg hx];exact hf)).1
 have hlt:∀f∈bn p x,iy g p (Lf g p f)<iy g p (Rf g p f):=fun f hf=>nL hrun hI h0 gW (hall f hf)
 obtain ⟨b1,b2⟩:=HM hrun hI h0 gW hx rfl
 obtain ⟨i,hi,rfl⟩:=AM he
 have hlen:0<(bn p x).length:=List.length_pos_iff.2 hne
 have hch:=fun {j:Nat} (hj:j<(bn p x).length) {i:Nat} (hij:i≤j)=>nK (ac:=iy g p) (L:=Lf g p) (R:=Rf g p) (l:=bn p x) (fun hs=>hF.fk (x:=x) (by rw [dg hx];exact hs)) hlt hj hij
 refine ⟨(bn p x).getD 0 0,(bn p x).getD ((bn p x).length - 1) 0,aB hlen,aB (by omega), ?_, ?_, ?_, ?_,(hch hi (Nat.zero_le _)).1,(hch (j:=(bn p x).length - 1) (by omega) (i:=i) (by omega)).2.1⟩
 ·rw [b1];unfold za;rw [if_neg hne]
 ·rw [b2];unfold toV;rw [if_neg hne]
 ·obtain ⟨a,v,tR⟩:=List.exists_cons_of_ne_nil hne
  exact ⟨v,by rw [tR];rfl⟩
 ·refine ⟨(bn p x).dropLast, ?_⟩
  have:=List.dropLast_concat_getLast hne
  rw [List.getD_eq_getElem?_getD,List.getElem?_eq_getElem (by omega),Option.getD_some, ← List.getLast_eq_getElem hne]
  exact this.symm
theorem HN {x e:Int} (he:e∈(aY g p).ins x):∃a b:Int,(∃v,(aY g p).ins x=a::v)∧(∃u,(aY g p).ins x=u++ [b])∧iy g p (Lf g p a)≤iy g p (Lf g p e)∧iy g p (Rf g p e)≤iy g p (Rf g p b):=by
 have hO:=si hrun hI
 have hF:=cU hrun hI
 have hall:∀f∈(aY g p).ins x,(aY g p).E f:=fun f hf=>((hO.bW x f).1 hf).1
 have hlt:∀f∈(aY g p).ins x,iy g p (Lf g p f)<iy g p (Rf g p f):=fun f hf=>nL hrun hI h0 gW (hall f hf)
 have y5:∀ {u a b v},(aY g p).ins x=u++a::b::v→Rf g p a=Lf g p b:=fun hs=>hF.lN hs
 generalize (aY g p).ins x=l at*
 have hne:l≠ []:=fun e0=>by rw [e0] at he;cases he
 obtain ⟨i,hi,rfl⟩:=AM he
 have hlen:0<l.length:=List.length_pos_iff.2 hne
 refine ⟨l.getD 0 0,l.getD (l.length - 1) 0, ?_, ?_,(nK y5 hlt hi (Nat.zero_le _)).1,(nK y5 hlt (j:=l.length - 1) (by omega) (i:=i) (by omega)).2.1⟩
 ·obtain ⟨a,v,tR⟩:=List.exists_cons_of_ne_nil hne
  exact ⟨v,by rw [tR];rfl⟩
 ·refine ⟨l.dropLast, ?_⟩
  have:=List.dropLast_concat_getLast hne
  rw [List.getD_eq_getElem?_getD,List.getElem?_eq_getElem (by omega),Option.getD_some, ← List.getLast_eq_getElem hne]
  exact this.symm
theorem HO {x e:Int} (hx:(aY g p).outs x≠ []) (he:(aY g p).E e) (h1:(fU g).getD ((aY g p).tl e).toNat 0<(fU g).getD x.toNat 0) (h2:(fU g).getD x.toNat 0<(fU g).getD ((aY g p).hd e).toNat 0):
 ¬(fB (gF g p) x≤iy g p (Lf g p e)∧iy g p (Lf g p e)≤tB (gF g p) x):=by
 rintro ⟨r1,r2⟩
 have hO:=si hrun hI
 have hF:=cU hrun hI
 obtain ⟨c,hc⟩:=List.exists_mem_of_ne_nil _ hx
 obtain ⟨a,b,ha,hb,q1,q2,⟨v,tR⟩,⟨u,U0⟩,_,_⟩:=oq hrun hI h0 gW hc
 rw [q1] at r1
 rw [q2] at r2
 have zm:=nL hrun hI h0 gW he
 have side:∀f∈(aY g p).outs x,iy g p (Rf g p e)≤iy g p (Lf g p f)∨iy g p (Rf g p f)≤iy g p (Lf g p e):=fun f hf=>by
  obtain ⟨SZ,hft⟩:=(hO.bE x f).1 hf
  have hne:e≠f:=fun e0=>by subst e0;rw [hft] at h1;omega
  rcases kI hO hF he SZ hne with h3|h3|h3|h3
  ·have:=(sn hrun hI h0 gW h3).1
   rw [hft] at this
   omega
  ·have h4:=(sn hrun hI h0 gW h3).1
   have h5:=(sn hrun hI h0 gW (x:=x) (y:=(aY g p).hd f) (by have:=PS.mB.step (P:=aY g p) (x:=x) (e:=f) (by rw [hft];exact .refl) SZ;exact this)).1
   omega
  ·exact .inl (AO hrun hI h0 gW h3)
  ·exact .inr (AO hrun hI h0 gW h3)
 have key:∀j,j<((aY g p).outs x).length→iy g p (Rf g p (((aY g p).outs x).getD j 0))≤iy g p (Lf g p e):=by
  intro j
  induction j with
  |zero=>
   intro hj
   rcases side _ (aB (d:=0) hj) with h3|h3
   ·rw [tR] at h3
    have:iy g p (Rf g p e)≤iy g p (Lf g p a):=h3
    omega
   ·exact h3
  |succ j ih=>
   intro hj
   have:=ih (by omega)
   have hs:(aY g p).outs x=((aY g p).outs x).take j++((aY g p).outs x).getD j 0::((aY g p).outs x).getD (j+1) 0::((aY g p).outs x).drop (j+2):=by
    rw [List.getD_eq_getElem?_getD,List.getD_eq_getElem?_getD,List.getElem?_eq_getElem (by omega),List.getElem?_eq_getElem hj]
    simp only [Option.getD_some]
    rw [← List.drop_eq_getElem_cons (by omega), ← List.drop_eq_getElem_cons (by omega),List.take_append_drop]
   have y5:=hF.fk hs
   rcases side _ (aB (d:=0) hj) with h3|h3
   ·rw [← y5] at h3;omega
   ·exact h3
 have kj:b=((aY g p).outs x).getD (((aY g p).outs x).length - 1) 0:=by
  rw [U0,List.length_append,List.length_singleton,Nat.add_sub_cancel,List.getD_eq_getElem?_getD,List.getElem?_append_right (Nat.le_refl _),Nat.sub_self];rfl
 have hlen:0<((aY g p).outs x).length:=List.length_pos_iff.2 hx
 have:=key (((aY g p).outs x).length - 1) (by omega)
 rw [← kj] at this
 omega
theorem AP:vv g (gF g p):=by
 have hm:=an hrun.1
 have hok:=tK hrun.1
 have hn:=aM hm
 have hO:=si hrun hI
 have hF:=cU hrun hI
 have hlen:=hrun.2.1.1
 obtain ⟨k1,k2,k3,k4⟩:=j4 hm hok
 obtain ⟨s,t,L,H,hS,hT,hs,ht,_,Rj,_,_,_,_,w1,w2,w3,w4,w5,w6,_,_⟩:=Jp hrun hI h0 gW
 have LN:(gF g p).y.length=g.n.toNat:=k1
 have hy:∀v:Nat,(gF g p).y.getD v 0=(fU g).getD v 0:=fun _=>rfl
 have hx:∀i:Nat,i<g.es.length→(gF g p).x.getD i 0=iy g p (Lf g p (i:Int)):=fun i hi=>nH (f:=Dd g p) hi
 have hE:∀i:Nat,i<g.es.length→(aY g p).E (i:Int):=fun i hi=>⟨by omega,by show (i:Int)<g.es.length;omega⟩
 have RS:∀v:Nat,(gF g p).fr.getD v 0=fB (gF g p) (v:Int):=fun v=>by unfold fB;rw [Int.toNat_natCast]
 have OX:∀v:Nat,(gF g p).to.getD v 0=tB (gF g p) (v:Int):=fun v=>by unfold tB;rw [Int.toNat_natCast]
 have Hz:∀v:Nat,v<g.n.toNat→(aY g p).outs (v:Int)= []→v=t:=fun v hv he=>by
  have E6:iN g (v:Int):=⟨by omega,by omega⟩
  rw [dg E6] at he
  have:(v:Int)∈bg (·.1) g:=fu.2 ⟨by omega,(iI hrun.2.1 (by omega) (by omega)).2 he⟩
  rw [hT,List.mem_singleton] at this
  omega
 have RT:∀v:Nat,v<g.n.toNat→(fU g).getD v 0≤(fU g).getD t 0∧(v≠t→(fU g).getD v 0<(fU g).getD t 0):=fun v hv=>by
  have:=yX hm hok hT (v:=v) hv
  rw [Int.toNat_natCast] at this
  exact ⟨this.1,fun h=>this.2 (by omega)⟩
 have OL:1≤iy g p (cN g p):=by
  have h1:=nL hrun hI h0 gW (hE 0 h0)
  have h2:=HL hrun hI h0 gW (hE 0 h0)
  omega
 have hL:iy g p (cN g p)=L:=by
  have h1:tB (gF g p) (t:Int)=(L:Int) - 1:=by rw [← OX];exact w4
  have pW:iN g (t:Int):=⟨by omega,by omega⟩
  have h2:bn p (t:Int)= []:=(iI hrun.2.1 (by omega) (by omega)).1 (fu.1 (by rw [hT];simp)).2
  have h3:=(HM hrun hI h0 gW pW h2).2
  rw [h1] at h3
  unfold toV at h3
  rw [if_pos rfl] at h3
  omega
 have hout:∀i:Nat,i<g.es.length→(i:Int)∈(aY g p).outs (tl g i):=fun i hi=>(hO.bE _ _).2 ⟨hE i hi,rfl⟩
 have RU:∀i:Nat,i<g.es.length→(i:Int)∈(aY g p).ins (hd g i):=fun i hi=>(hO.bW _ _).2 ⟨hE i hi,rfl⟩
 refine ⟨hrun.1,by rw [LN];omega, ?_, ?_,dh,fun v hv=> ?_,fun v hv z hz=> ?_,fun i hi=> ?_,fun i hi v hv=> ?_,fun i hi k hk=> ?_⟩
 ·show ((p.outs.map (za g p)).length:Int)=_;rw [List.length_map,hlen];omega
 ·show ((p.outs.map (toV g p)).length:Int)=_;rw [List.length_map,hlen];omega
 ·rw [LN] at hv
  by_cases B5:v=t
  ·subst B5;rw [w2,w4];omega
  ·obtain ⟨c,hc⟩:=List.exists_mem_of_ne_nil _ (fun e0=>B5 (Hz v hv e0))
   obtain ⟨a,b,ha,hb,q1,q2,_,_,r1,r2⟩:=oq hrun hI h0 gW hc
   have:=nL hrun hI h0 gW ((hO.bE _ _).1 hc).1
   rw [RS,OX,q1,q2];omega
 ·rw [LN] at hv
  rintro ⟨e1,e2,e3⟩
  rw [hy,hy] at e1
  rw [RS,OX] at e2 e3
  have E6:iN g (v:Int):=⟨by omega,by omega⟩
  have S0:iN g (z:Int):=⟨by omega,by omega⟩
  have nr:∀a b:Nat,a≠b→(fU g).getD a 0=(fU g).getD b 0→¬(aY g p).mB (a:Int) (b:Int):=fun a b hab he hr=>by
   have:=(sn hrun hI h0 gW hr).2 (by omega)
   rw [Int.toNat_natCast,Int.toNat_natCast] at this
   omega
  have n1:=nr z v (by omega) e1
  have n2:=nr v z (by omega) e1.symm
  obtain ⟨i1,i2,i3,i4⟩:=HJ hrun hI S0 E6 n1 n2
  rw [← dg S0] at i3
  rw [← dg E6] at i4
  have Ol:∀a b:Int,(aY g p).RN (Lf g p) (Rf g p) a b→tB (gF g p) a<fB (gF g p) b:=fun a b hl=>by
   obtain ⟨u,e,f,w,h1,h2,h3⟩:=hl
   have h4:=AO hrun hI h0 gW h3
   obtain ⟨a1,b1,_,_,_,q2,_,⟨u',tO⟩,_,_⟩:=oq hrun hI h0 gW (x:=a) (e:=e) (by rw [h1];simp)
   obtain ⟨a2,b2,_,_,q3,_,⟨v',Dt⟩,_,_,_⟩:=oq hrun hI h0 gW (x:=b) (e:=f) (by rw [h2];simp)
   have c1:e=b1:=by
    rw [h1] at tO
    have:=congrArg List.getLast? tO
    simpa using this
   have c2:f=a2:=by rw [h2] at Dt;injection Dt
   subst c1;subst c2
   omega
  rcases EI hO hF i1 i2 n1 n2 i3 i4 with h|h
  ·have:=Ol _ _ h;omega
  ·have:=Ol _ _ h;omega
 ·have htr:=bL hm hi
  have Rg:=bQ hm hi
  have zm:=nL hrun hI h0 gW (hE i hi)
  have h3:=k3 i hi
  obtain ⟨a,b,_,_,q1,q2,_,_,r1,r2⟩:=oq hrun hI h0 gW (hout i hi)
  obtain ⟨a',b',⟨v',Dt⟩,⟨u',tO⟩,r3,r4⟩:=HN hrun hI h0 gW (RU i hi)
  have ft:(gF g p).fr.getD (tl g i).toNat 0=fB (gF g p) (tl g i):=rfl
  have tt:(gF g p).to.getD (tl g i).toNat 0=tB (gF g p) (tl g i):=rfl
  have fh:(gF g p).fr.getD (hd g i).toNat 0=fB (gF g p) (hd g i):=rfl
  have th:(gF g p).to.getD (hd g i).toNat 0=tB (gF g p) (hd g i):=rfl
  rw [hx i hi,hy,hy,ft,tt,fh,th,q1,q2]
  have hle:=HL hrun hI h0 gW (hE i hi)
  refine ⟨by omega,⟨r1,by omega⟩, ?_⟩
  by_cases hno:(aY g p).outs (hd g i)= []
  ·have B5:=Hz (hd g i).toNat (by omega) (by rw [show (((hd g i).toNat:Nat):Int)=hd g i by omega];exact hno)
   rw [← fh, ← th,B5,w2,w4]
   omega
  ·obtain ⟨c,hc⟩:=List.exists_mem_of_ne_nil _ hno
   obtain ⟨a2,b2,_,_,q3,q4,⟨v2,Bq⟩,⟨u2,N6⟩,_,_⟩:=oq hrun hI h0 gW hc
   have c1:=hF.fst Dt Bq
   have c2:=hF.EV tO N6
   rw [q3,q4, ← c1, ← c2]
   omega
 ·rw [LN] at hv
  rintro ⟨e1,e2,e3,e4⟩
  rw [hy,hy] at e1
  rw [hy,hy] at e2
  rw [RS,hx i hi] at e3
  rw [OX,hx i hi] at e4
  have hne:(aY g p).outs (v:Int)≠ []:=fun h=>by
   have B5:=Hz v hv h
   have Rg:=bQ hm hi
   have:=(RT (hd g i).toNat (by omega)).1
   subst B5;omega
  exact HO hrun hI h0 gW hne (hE i hi) (by rw [Int.toNat_natCast];exact e1) (by rw [Int.toNat_natCast];exact e2) ⟨e3,e4⟩
 ·rintro ⟨e1,e2,e3⟩
  rw [hx i hi,hx k (by omega)] at e1
  rw [hy,hy] at e2 e3
  have u1:=nL hrun hI h0 gW (hE i hi)
  have u2:=nL hrun hI h0 gW (hE k (by omega))
  rcases kI hO hF (hE i hi) (hE k (by omega)) (by omega) with h|h|h|h
  ·have:=(sn hrun hI h0 gW h).1
   have d1:(aY g p).hd (i:Int)=hd g i:=rfl
   have d2:(aY g p).tl (k:Int)=tl g k:=rfl
   rw [d1,d2] at this
   omega
  ·have:=(sn hrun hI h0 gW h).1
   have d1:(aY g p).hd (k:Int)=hd g k:=rfl
   have d2:(aY g p).tl (i:Int)=tl g i:=rfl
   rw [d1,d2] at this
   omega
  ·have:=AO hrun hI h0 gW h;omega
  ·have:=AO hrun hI h0 gW h;omega
end
end Go.Ab
end
section
namespace Go.Ab
open Go.Proofs
set_option maxRecDepth 10000
set_option linter.unusedSectionVars false
theorem AQ {g:Gr} {p:Pl} (hr:bH g p) {v:Nat} (hv:v<g.n.toNat):qR g p v=(p.outs.getD v []).map (fun i=>2*i)++(b8 g p (v:Int)).reverse.map fun i=>2*i+1:=by
 unfold qR b8
 rw [Int.toNat_natCast]
 congr 1
 have h1:=(y3 hr hv).2
 generalize (dM g p g.n.toNat).getD v []=l at h1
 rw [← List.map_reverse,List.map_map]
 have e:(fS l).reverse=l.reverse.filter fun t=> !decide (t.1= -1):=by
  unfold fS
  rw [List.filter_reverse]
  congr 1
  refine List.filter_congr fun t ht=> ?_
  rcases h1 t ht with h2|h2
  ·rw [decide_eq_false (by omega),decide_eq_true h2];rfl
  ·rw [decide_eq_true h2.1,decide_eq_false (by omega)];rfl
 rw [e]
 rfl
theorem HP {g:Gr} {p:Pl} (hr:bH g p) {f:Int→Int} (hL:Df g p fun _ i k=>f i<f k) {x:Int} (hx:iN g x):(b8 g p x).Pairwise fun a b=>f a<f b:=by
 have oN:=hr.2.1
 have hm:=an hr.1
 obtain ⟨k,hk,ek⟩:=dH oN hx.1 hx.2
 obtain ⟨hi,_,_⟩:=c7 hm oN (k:=k) (by omega) fun j hj=>hr.2.2 j (by omega)
 obtain ⟨_,ih2,_⟩:=vt hr.1 oN hL (k:=k) (by omega)
 have hR:aD g (fK g p k) (aj p k)=true:=hr.2.2 k (by omega)
 have k9:=aF oN (k:=k) (by omega)
 rw [← ek,yK hr hk]
 unfold pP
 by_cases hn0:bw g (aj p k)=0
 ·rw [gv _ (ir hm hi.toiU k9.1 hn0)];simp [fS]
 ·obtain ⟨A,X,C,hrw,nA,nC,hX,cX⟩:=cr hm hi.toiU hR hn0
  rw [iw _ hrw nA nC hX]
  show ((fS X).map (·.1)).Pairwise _
  rw [hrw,jT,jT,List.pairwise_append,List.pairwise_append] at ih2
  rw [List.pairwise_map]
  exact ih2.1.2.1
section
variable {g:Gr} {p:Pl} (hrun:bH g p) (hI:j8 g=true) (h0:0<g.es.length) (gW:g.es.length≤60)
include hrun hI h0 gW
theorem Lr {x:Int} (hx:iN g x):(bn p x).Pairwise fun a b=>xB (gF g p) a<xB (gF g p) b:=by
 have hO:=si hrun hI
 have hF:=cU hrun hI
 have hall:∀f∈bn p x,(aY g p).E f:=fun f hf=>((hO.bE x f).1 (by rw [dg hx];exact hf)).1
 have h1:=AN (ac:=iy g p) (L:=Lf g p) (R:=Rf g p) (l:=bn p x) (fun hs=>hF.fk (x:=x) (by rw [dg hx];exact hs)) (fun f hf=>nL hrun hI h0 gW (hall f hf))
 refine List.Pairwise.imp_of_mem (fun {a b} ha hb h=> ?_) h1
 rw [Jw hrun hI h0 gW (hall a ha),Jw hrun hI h0 gW (hall b hb)];exact h
theorem Om {x:Int} (hx:iN g x):(b8 g p x).Pairwise fun a b=>xB (gF g p) a<xB (gF g p) b:=by
 have hO:=si hrun hI
 have hF:=cU hrun hI
 have hall:∀f∈b8 g p x,(aY g p).E f:=fun f hf=>((hO.bW x f).1 (by rw [fT hx];exact hf)).1
 have h1:=AN (ac:=iy g p) (L:=Lf g p) (R:=Rf g p) (l:=b8 g p x) (fun hs=>hF.lN (x:=x) (by rw [fT hx];exact hs)) (fun f hf=>nL hrun hI h0 gW (hall f hf))
 refine List.Pairwise.imp_of_mem (fun {a b} ha hb h=> ?_) h1
 rw [Jw hrun hI h0 gW (hall a ha),Jw hrun hI h0 gW (hall b hb)];exact h
theorem EJ {q:Pl} (hq:sV g (gF g p) q):bH g q∧eZ g q=eZ g p:=by
 have hR:=AP hrun hI h0 gW
 have Ma:=EH hR hq
 have U1:=xK hR hq
 have hlen:=hrun.2.1.1
 refine ⟨Ma, ?_⟩
 unfold eZ
 rw [hq.len,hlen]
 refine List.map_congr_left fun v hv=> ?_
 have hv:=List.mem_range.1 hv
 have E6:iN g (v:Int):=⟨by omega,by omega⟩
 rw [AQ Ma hv,AQ hrun hv]
 have e1:q.outs.getD v []=p.outs.getD v []:=by
  have h1:=hq.outs v hv
  have h2:=bN hrun.2.1 E6.1 E6.2
  have h3:=Lr hrun hI h0 gW E6
  unfold bn at h2 h3
  rw [Int.toNat_natCast] at h2 h3
  exact vA (h1.trans h2.symm) (hq.HG v hv) h3
 have e2:b8 g q (v:Int)=b8 g p (v:Int):=by
  have h1:=HP Ma U1 E6
  have h2:=Om hrun hI h0 gW E6
  obtain ⟨n1,m1⟩:=gN Ma E6
  obtain ⟨n2,m2⟩:=gN hrun E6
  exact vA ((List.perm_ext_iff_of_nodup n1 n2).2 fun e=>by rw [m1,m2]) h1 h2
 rw [e1,e2]
end
end Go.Ab
end
section
namespace Go.Ab
open Go.Proofs
set_option maxRecDepth 10000
set_option linter.unusedSectionVars false
def Dl (lt:Int→Int→Bool) (us:List Int):Nat→Int
 |0=> -1
 |k+1=>if (!decide ((k:Int)∈us))&&(decide (Dl lt us k<0)||lt k (Dl lt us k)) then k else Dl lt us k
def On (lt:Int→Int→Bool) (n:Nat):Nat→List Int
 |0=> []
 |j+1=>On lt n j++ [Dl lt (On lt n j) n]
def U2 (lt:Int→Int→Bool) (u v:Int):Prop:=lt u v=true∧lt v u=false
section
variable {lt:Int→Int→Bool} {n:Nat} {ord:List Int} (hp:ord.Perm (ff n)) (hs:ord.Pairwise (U2 lt))
include hp hs
end
def vV (sw:Int→Int→Bool):Int→List Int→Int × List Int
 |a, []=>(a, [])
 |a,c::r=>if sw a c then ((vV sw c r).1,a::(vV sw c r).2) else ((vV sw a r).1,c::(vV sw a r).2)
def J6 (sw:Int→Int→Bool):Nat→List Int→List Int
 |0,l=>l
 |_+1, []=> []
 |n+1,a::r=>(vV sw a r).1::J6 sw n (vV sw a r).2
theorem jH {sw:Int→Int→Bool} :∀ {l:List Int} {a:Int},((vV sw a l).1::(vV sw a l).2).Perm (a::l)
 | [],a=>List.Perm.refl _
 |c::r,a=>by
  rw [vV]
  split
  ·exact (List.Perm.swap ..).trans ((List.Perm.cons a (jH (l:=r) (a:=c))))
  ·exact (List.Perm.swap ..).trans ((List.Perm.cons c (jH (l:=r) (a:=a))).trans (List.Perm.swap ..))
theorem Jy {sw:Int→Int→Bool} {l:List Int} {a:Int} :(vV sw a l).2.length=l.length:=by
 have:=(jH (sw:=sw) (l:=l) (a:=a)).length_eq
 simpa using this
theorem qS {sw:Int→Int→Bool} :∀ {n:Nat} {l:List Int},(J6 sw n l).Perm l
 |0,l=>List.Perm.refl _
 |_+1, []=>List.Perm.refl _
 |n+1,a::r=>by
  rw [J6]
  exact (List.Perm.cons _ qS).trans jH
section
variable {sw:Int→Int→Bool} {R:Int→Int→Prop} {S:Int→Prop} (htr:∀a b c,S a→S b→S c→R a b→R b c→R a c) (hsw:∀a c,S a→S c→a≠c→if sw a c=true then R c a else R a c)
include htr hsw
theorem y6:∀ {l:List Int} {a:Int},(a::l).Nodup→(∀x∈a::l,S x)→((vV sw a l).1=a∨R (vV sw a l).1 a)∧∀y∈(vV sw a l).2,R (vV sw a l).1 y
 | [],a,_,_=>⟨.inl rfl,fun y hy=>by cases hy⟩
 |c::r,a,hn,hS=>by
  have hac:a≠c:=fun e=>by subst e;simp at hn
  have h0:=hsw a c (hS a (by simp)) (hS c (by simp)) hac
  have n1:(c::r).Nodup:=(List.nodup_cons.1 hn).2
  have n2:(a::r).Nodup:=by
   rw [List.nodup_cons] at hn ⊢
   exact ⟨fun h=>hn.1 (by simp [h]),(List.nodup_cons.1 hn.2).2⟩
  rw [vV]
  split at h0<;>rename_i hs
  ·rw [if_pos hs]
   obtain ⟨h1,h2⟩:=y6 (l:=r) (a:=c) n1 fun x hx=>hS x (by simp at hx ⊢;rcases hx with h|h<;>simp [h])
   have Oo:S (vV sw c r).1:=hS _ (by have:=(jH (sw:=sw) (l:=r) (a:=c)).mem_iff.1 (List.mem_cons_self ..);simp at this ⊢;rcases this with h|h<;>simp [h])
   have hma:R (vV sw c r).1 a:=by
    rcases h1 with h1|h1
    ·rw [h1];exact h0
    ·exact htr _ _ _ Oo (hS c (by simp)) (hS a (by simp)) h1 h0
   exact ⟨.inr hma,fun y hy=>(List.mem_cons.1 hy).elim (fun e=>e ▸ hma) (h2 y)⟩
  ·rw [if_neg hs]
   obtain ⟨h1,h2⟩:=y6 (l:=r) (a:=a) n2 fun x hx=>hS x (by simp at hx ⊢;rcases hx with h|h<;>simp [h])
   have Oo:S (vV sw a r).1:=hS _ (by have:=(jH (sw:=sw) (l:=r) (a:=a)).mem_iff.1 (List.mem_cons_self ..);simp at this ⊢;rcases this with h|h<;>simp [h])
   have Ih:R (vV sw a r).1 c:=by
    rcases h1 with h1|h1
    ·rw [h1];exact h0
    ·exact htr _ _ _ Oo (hS a (by simp)) (hS c (by simp)) h1 h0
   exact ⟨h1,fun y hy=>(List.mem_cons.1 hy).elim (fun e=>e ▸ Ih) (h2 y)⟩
theorem pV:∀ {n:Nat} {l:List Int},l.length≤n→l.Nodup→(∀x∈l,S x)→(J6 sw n l).Pairwise R
 |0,l,h,_,_=>by
  have:l= []:=List.eq_nil_of_length_eq_zero (by omega)
  subst this;exact List.Pairwise.nil
 |n+1, [],_,_,_=>List.Pairwise.nil
 |n+1,a::r,h,hn,hS=>by
  rw [J6,List.pairwise_cons]
  have hp:=jH (sw:=sw) (l:=r) (a:=a)
  refine ⟨fun y hy=>(y6 htr hsw hn hS).2 y (qS.mem_iff.1 hy),pV (by rw [Jy];simpa using h) (List.nodup_cons.1 (hp.nodup_iff.2 hn)).2 fun x hx=>hS x (hp.mem_iff.1 (by simp [hx]))⟩
end
def VV (sw:Int→Int→Bool) (a:Int) (done todo:List Int):List Int:=(vV sw a todo).1::J6 sw (done.length+todo.length) (done++(vV sw a todo).2)
end Go.Ab
end
