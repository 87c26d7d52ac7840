/- A part of the proof. -/
import Derived.Test.YtameldglfobjkaaGreatL1P16
set_option linter.unusedSimpArgs false
set_option linter.unusedVariables false
section
namespace Go.Ab
open Go.Proofs
attribute [local congr] ACall.congr gd.congr Nx.congr
set_option maxRecDepth 20000
set_option maxHeartbeats 32000000
def uz (b:Br) (g:Gr):Bool:=decide ((b.y.length:Int)=g.n)&&decide ((b.fr.length:Int)=g.n)&&decide ((b.to.length:Int)=g.n)&&decide ((b.x.length:Int)=(g.es.length:Int))
theorem BK (b:Br) (g:Gr):Spec Tryz.prog 96 (Args [dG b,eG g]) [] (eB (uz b g)) []:=by
 have hf:uz b g=(decide ((b.y.length:Int)=g.n)&&decide ((b.fr.length:Int)=g.n)&&decide ((b.to.length:Int)=g.n)&&decide ((b.x.length:Int)=(g.es.length:Int))):=rfl
 cases h1:decide ((b.y.length:Int)=g.n)<;>cases h2:decide ((b.fr.length:Int)=g.n)<;>cases h3:decide ((b.to.length:Int)=g.n)<;>rw [h1,h2,h3] at hf<;>simp only [Bool.and_true,Bool.and_false,Bool.true_and,Bool.false_and] at hf<;>rw [hf]
 all_goals (
 (refine Spec.hd (C:=T.cfg [] []) (rs:= [.t 4]) (T.ai _ _) Tryz.func96 rfl rfl Tryz.ntmps96 Tryz.results96 (by simp [AObj.isNest]) (by simp [AObj.isNest]) (by kernel_rfl) T.mixed fun X hX hP hC aH bU=> ?_)
 repeat' (first|refine Rn.p ?_|(with_reducible apply And.intro)|((first|(refine hK _ ?_;clear hK K)|with_reducible intro K hK|refine Rs.p ?_|((with_reducible first|apply oP|apply oQ);exact rfl));try simp only [go_sem,simprocAttr,dG,h1,h2,h3])|((with_reducible refine oD ?_ ?_);kernel_rfl)|((with_reducible intro h);try simp only [go_sem,simprocAttr,dG,h1,h2,h3] at h)|omega|intro h))
def Es (b:Br) (lo hi q:Int) (x:Nat):Bool:=decide (lo<b.y.getD x 0)&&decide (b.y.getD x 0<hi)&&hasB b x q
def ga (b:Br) (s t:Nat) (q:Int):Bool:=decide (b.y.getD s 0<b.y.getD t 0)&&hasB b s q&&hasB b t q&&(List.range b.y.length).all fun x=> !Es b (b.y.getD s 0) (b.y.getD t 0) q x
theorem y9 (b:Br) (s t:Nat) (q:Int) (h1:b.fr.length=b.y.length) (h2:b.to.length=b.y.length) (hl:b.y.length≤100000) (hs:s<b.y.length) (ht:t<b.y.length):Spec Tryz.prog 98 (Args [dG b, .agg [eN s,eN t],eN q]) [] (eB (ga b s t q)) []:=by
 have hH:=fun x (hx:x<b.y.length)=>y8 b x q (by omega) (by omega) (by omega)
 have JR:=hH s hs
 have Ki:=hH t ht
 by_cases hc:b.y.getD s 0<b.y.getD t 0
 rotate_left
 ·have hr:ga b s t q=false:=by unfold ga;rw [decide_eq_false hc];rfl
  have hc1:decide (b.y.getD t 0≤b.y.getD s 0)=true:=decide_eq_true (by omega)
  rw [hr]
  (refine Spec.hd (C:=T.cfg [] []) (rs:= [.t 6]) (T.ai _ _) Tryz.func98 rfl rfl Tryz.ntmps98 Tryz.results98 (by simp [AObj.isNest]) (by simp [AObj.isNest]) (by kernel_rfl) T.mixed fun X hX hP hC aH bU=> ?_)
  repeat' (first|refine Rn.p ?_|(with_reducible apply And.intro)|((first|(refine hK _ ?_;clear hK K)|with_reducible intro K hK|refine Rs.p ?_|((with_reducible first|apply oP|apply oQ);exact rfl));try simp only [go_sem,simprocAttr,dG,hc1])|((with_reducible refine oD ?_ ?_);kernel_rfl)|((with_reducible intro h);try simp only [go_sem,simprocAttr,dG,hc1] at h)|omega|intro h)
 have hc1:decide (b.y.getD t 0≤b.y.getD s 0)=false:=decide_eq_false (by omega)
 cases hvs:hasB b s q with
 |false=>
  have hr:ga b s t q=false:=by unfold ga;rw [hvs];simp
  rw [hr]
  rw [hvs] at JR
  (refine Spec.hd (C:=T.cfg [] []) (rs:= [.t 6]) (T.ai _ _) Tryz.func98 rfl rfl Tryz.ntmps98 Tryz.results98 (by simp [AObj.isNest]) (by simp [AObj.isNest]) (by kernel_rfl) T.mixed fun X hX hP hC aH bU=> ?_)
  repeat' (first|refine Rn.p ?_|(with_reducible apply And.intro)|((first|(refine hK _ ?_;clear hK K)|with_reducible intro K hK|refine Rs.p ?_|((with_reducible first|apply oP|apply oQ);exact rfl)|refine aa hX hC hP (JR) rfl rfl rfl (by simp only [go_sem,simprocAttr,dG,hc1]) rfl ?_);try simp only [go_sem,simprocAttr,dG,hc1])|((with_reducible refine oD ?_ ?_);kernel_rfl)|((with_reducible intro h);try simp only [go_sem,simprocAttr,dG,hc1] at h)|omega|intro h)
 |true=>
 rw [hvs] at JR
 cases Kj:hasB b t q with
 |false=>
  have hr:ga b s t q=false:=by unfold ga;rw [Kj];simp
  rw [hr]
  rw [Kj] at Ki
  (refine Spec.hd (C:=T.cfg [] []) (rs:= [.t 6]) (T.ai _ _) Tryz.func98 rfl rfl Tryz.ntmps98 Tryz.results98 (by simp [AObj.isNest]) (by simp [AObj.isNest]) (by kernel_rfl) T.mixed fun X hX hP hC aH bU=> ?_)
  repeat' (first|refine Rn.p ?_|(with_reducible apply And.intro)|((first|(refine hK _ ?_;clear hK K)|with_reducible intro K hK|refine Rs.p ?_|((with_reducible first|apply oP|apply oQ);exact rfl)|refine aa hX hC hP (JR) rfl rfl rfl (by simp only [go_sem,simprocAttr,dG,hc1]) rfl ?_|refine aa hX hC hP (Ki) rfl rfl rfl (by simp only [go_sem,simprocAttr,dG,hc1]) rfl ?_);try simp only [go_sem,simprocAttr,dG,hc1])|((with_reducible refine oD ?_ ?_);kernel_rfl)|((with_reducible intro h);try simp only [go_sem,simprocAttr,dG,hc1] at h)|omega|intro h)
 |true=>
 rw [Kj] at Ki
 have hr:ga b s t q=(List.range b.y.length).all fun x=> !Es b (b.y.getD s 0) (b.y.getD t 0) q x:=by unfold ga;rw [hvs,Kj,decide_eq_true hc];rfl
 rw [hr]
 (refine Spec.hd (C:=T.cfg [] []) (rs:= [.t 6]) (T.ai _ _) Tryz.func98 rfl rfl Tryz.ntmps98 Tryz.results98 (by simp [AObj.isNest]) (by simp [AObj.isNest]) (by kernel_rfl) T.mixed fun X hX hP hC aH bU=> ?_)
 repeat' (first|refine Rn.p ?_|(with_reducible apply And.intro)|((first|(refine hK _ ?_;clear hK K)|with_reducible intro K hK|refine Rs.p ?_|((with_reducible first|apply oP|apply oQ);exact rfl)|refine aa hX hC hP (JR) rfl rfl rfl (by simp only [go_sem,simprocAttr,dG,hc1]) rfl ?_|refine aa hX hC hP (Ki) rfl rfl rfl (by simp only [go_sem,simprocAttr,dG,hc1]) rfl ?_);try simp only [go_sem,simprocAttr,dG,hc1])|((with_reducible refine oD ?_ ?_);kernel_rfl)|((with_reducible intro h);try simp only [go_sem,simprocAttr,dG,hc1] at h)|omega|intro h)
 refine ag (fun k:Nat=>k≤b.y.length∧∀j,j<k→Es b (b.y.getD s 0) (b.y.getD t 0) q j=false) (fun k=>⟨[(2,eN q),(3, .ptr 3 0),(7,eN (b.y.getD s 0)),(8,eN (b.y.getD t 0)),(43, .d (sI b.y)),(44,eN b.y.length),(45,eN k)], [(3, .box [.d (sI b.y), .d (sI b.fr), .d (sI b.to), .d (sI b.x)])]⟩) (fun k=>b.y.length - k) 0 ⟨by omega,fun j hj=>by omega⟩ ?_ ?_
 ·refine Le.of ?_ ?_<;>simp [go_sem,simprocAttr]
 rintro k ⟨hk,hin⟩
 rcases Nat.lt_or_ge k b.y.length with bM|zj
 rotate_left
 ·have hb:decide ((k:Int)<(b.y.length:Int))=false:=decide_eq_false (by omega)
  obtain rfl:k=b.y.length:=by omega
  rw [oR (f:=fun x=> !Es b (b.y.getD s 0) (b.y.getD t 0) q x) (fun i hi=>by rw [hin i hi];rfl)]
  repeat' (first|refine Rn.p ?_|(with_reducible apply And.intro)|((first|(refine hK _ ?_;clear hK K)|with_reducible intro K hK|refine Rs.p ?_|((with_reducible first|apply oP|apply oQ);exact rfl));try simp only [go_sem,simprocAttr,hb])|((with_reducible refine oD ?_ ?_);kernel_rfl)|((with_reducible intro h);try simp only [go_sem,simprocAttr,hb] at h)|omega|intro h)
 have hb:decide ((k:Int)<(b.y.length:Int))=true:=decide_eq_true (by omega)
 have ND:=hH k bM
 have hap:Es b (b.y.getD s 0) (b.y.getD t 0) q k=(decide (b.y.getD s 0<b.y.getD k 0)&&decide (b.y.getD k 0<b.y.getD t 0)&&hasB b k q):=rfl
 have hno:Es b (b.y.getD s 0) (b.y.getD t 0) q k=true→((List.range b.y.length).all fun x=> !Es b (b.y.getD s 0) (b.y.getD t 0) q x)=false:=fun h1=>nr bM (by rw [h1];rfl)
 have hyes:Es b (b.y.getD s 0) (b.y.getD t 0) q k=false→∀j,j<k+1→Es b (b.y.getD s 0) (b.y.getD t 0) q j=false:=fun h1 j hj=>by
  by_cases As:j=k
  ·subst As;exact h1
  ·exact hin j (by omega)
 generalize Es b (b.y.getD s 0) (b.y.getD t 0) q k=av at*
 cases BT:decide (b.y.getD s 0<b.y.getD k 0)<;>cases BU:decide (b.y.getD k 0<b.y.getD t 0)<;>cases Er:hasB b k q<;>rw [BT,BU,Er] at hap<;>simp only [Bool.and_true,Bool.and_false,Bool.true_and,Bool.false_and] at hap<;>subst hap<;>rw [Er] at ND
 all_goals (
 repeat' (first|refine Rn.p ?_|(with_reducible apply And.intro)|((first|(refine hK _ ?_;clear hK K)|with_reducible intro K hK|refine Rs.p ?_|((with_reducible first|apply oP|apply oQ);exact rfl)|(refine aZ hX hC hP (ND) rfl rfl rfl ?_ ?_ rfl ?_;iterate 2 (focus (simp only [go_sem,simprocAttr,dG,hb,BT,BU];done))));try simp only [go_sem,simprocAttr,dG,hb,BT,BU])|((with_reducible refine oD ?_ ?_);kernel_rfl)|((with_reducible intro h);try simp only [go_sem,simprocAttr,dG,hb,BT,BU] at h)|omega|intro h))
 all_goals (first|(exact hno rfl)|(exact (hno rfl).symm)|(refine ⟨k+1,⟨by omega,hyes rfl⟩, ?_,by omega⟩;refine Le.of ?_ ?_<;>simp [go_sem];done)|trace_state)
def Ec (g:Gr) (b:Br) (i k:Nat):Bool:=decide (b.x.getD k 0=b.x.getD i 0)&&decide (b.y.getD (tl g i).toNat 0<b.y.getD (hd g k).toNat 0)&&decide (b.y.getD (tl g k).toNat 0<b.y.getD (hd g i).toNat 0)
def Ho (g:Gr) (b:Br) (i:Nat):Bool:=ga b (tl g i).toNat (hd g i).toNat (b.x.getD i 0)&&(List.range i).all fun k=> !Ec g b i k
def eC (g:Gr) (b:Br):Bool:=decide ((bF g).1=0)&&uz b g&&pW b&&(List.range g.es.length).all (Ho g b)
theorem vP (g:Gr) (b:Br) (hl:g.es.length≤1000) (au:b.y.length≤1000) (aq:b.x.length≤1000):Spec Tryz.prog 52 (Args [eG g,dG b]) [] (eB (eC g b)) []:=by
 have Kk:=ir g hl
 have JS:=BK b g
 by_cases hc:(bF g).1=0
 rotate_left
 ·have hr:eC g b=false:=by unfold eC;rw [decide_eq_false hc];rfl
  have hc0:decide ((bF g).1=0)=false:=decide_eq_false hc
  rw [hr]
  (refine Spec.hd (C:=T.cfg [] []) (rs:= [.t 4]) (T.ai _ _) Tryz.func52 rfl rfl Tryz.ntmps52 Tryz.results52 (by simp [AObj.isNest]) (by simp [AObj.isNest]) (by kernel_rfl) T.mixed fun X hX hP hC aH bU=> ?_)
  repeat' (first|refine Rn.p ?_|(with_reducible apply And.intro)|((first|(refine hK _ ?_;clear hK K)|with_reducible intro K hK|refine Rs.p ?_|((with_reducible first|apply oP|apply oQ);exact rfl)|refine aa hX hC hP (Kk) rfl rfl rfl (by simp only [go_sem,simprocAttr,eF,dG,hc0]) rfl ?_);try simp only [go_sem,simprocAttr,eF,dG,hc0])|((with_reducible refine oD ?_ ?_);kernel_rfl)|((with_reducible intro h);try simp only [go_sem,simprocAttr,eF,dG,hc0] at h)|omega|intro h)
 have hc0:decide ((bF g).1=0)=true:=decide_eq_true hc
 cases JT:uz b g with
 |false=>
  have hr:eC g b=false:=by unfold eC;rw [JT];simp
  rw [hr]
  rw [JT] at JS
  (refine Spec.hd (C:=T.cfg [] []) (rs:= [.t 4]) (T.ai _ _) Tryz.func52 rfl rfl Tryz.ntmps52 Tryz.results52 (by simp [AObj.isNest]) (by simp [AObj.isNest]) (by kernel_rfl) T.mixed fun X hX hP hC aH bU=> ?_)
  repeat' (first|refine Rn.p ?_|(with_reducible apply And.intro)|((first|(refine hK _ ?_;clear hK K)|with_reducible intro K hK|refine Rs.p ?_|((with_reducible first|apply oP|apply oQ);exact rfl)|refine aa hX hC hP (Kk) rfl rfl rfl (by simp only [go_sem,simprocAttr,eF,dG,hc0]) rfl ?_|refine aa hX hC hP (JS) rfl rfl rfl (by simp only [go_sem,simprocAttr,eF,dG,hc0]) rfl ?_);try simp only [go_sem,simprocAttr,eF,dG,hc0])|((with_reducible refine oD ?_ ?_);kernel_rfl)|((with_reducible intro h);try simp only [go_sem,simprocAttr,eF,dG,hc0] at h)|omega|intro h)
 |true=>
 rw [JT] at JS
 have hm:=aE hc
 have hn:=aT hm
 have JU:=JT
 simp only [uz,Bool.and_eq_true,decide_eq_true_eq] at JU
 obtain ⟨⟨⟨l1,l2⟩,l3⟩,l4⟩:=JU
 have Kl:=apart_spec b (by omega) (by omega) (by omega)
 cases hap:pW b with
 |false=>
  have hr:eC g b=false:=by unfold eC;rw [hap];simp
  rw [hr]
  rw [hap] at Kl
  (refine Spec.hd (C:=T.cfg [] []) (rs:= [.t 4]) (T.ai _ _) Tryz.func52 rfl rfl Tryz.ntmps52 Tryz.results52 (by simp [AObj.isNest]) (by simp [AObj.isNest]) (by kernel_rfl) T.mixed fun X hX hP hC aH bU=> ?_)
  repeat' (first|refine Rn.p ?_|(with_reducible apply And.intro)|((first|(refine hK _ ?_;clear hK K)|with_reducible intro K hK|refine Rs.p ?_|((with_reducible first|apply oP|apply oQ);exact rfl)|refine aa hX hC hP (Kk) rfl rfl rfl (by simp only [go_sem,simprocAttr,eF,dG,hc0]) rfl ?_|refine aa hX hC hP (JS) rfl rfl rfl (by simp only [go_sem,simprocAttr,eF,dG,hc0]) rfl ?_|refine aa hX hC hP (Kl) rfl rfl rfl (by simp only [go_sem,simprocAttr,eF,dG,hc0]) rfl ?_);try simp only [go_sem,simprocAttr,eF,dG,hc0])|((with_reducible refine oD ?_ ?_);kernel_rfl)|((with_reducible intro h);try simp only [go_sem,simprocAttr,eF,dG,hc0] at h)|omega|intro h)
 |true=>
 rw [hap] at Kl
 have hr:eC g b=(List.range g.es.length).all (Ho g b):=by unfold eC;rw [hc0,JT,hap];rfl
 rw [hr]
 (refine Spec.hd (C:=T.cfg [] []) (rs:= [.t 4]) (T.ai _ _) Tryz.func52 rfl rfl Tryz.ntmps52 Tryz.results52 (by simp [AObj.isNest]) (by simp [AObj.isNest]) (by kernel_rfl) T.mixed fun X hX hP hC aH bU=> ?_)
 repeat' (first|refine Rn.p ?_|(with_reducible apply And.intro)|((first|(refine hK _ ?_;clear hK K)|with_reducible intro K hK|refine Rs.p ?_|((with_reducible first|apply oP|apply oQ);exact rfl)|refine aa hX hC hP (Kk) rfl rfl rfl (by simp only [go_sem,simprocAttr,eF,dG,hc0]) rfl ?_|refine aa hX hC hP (JS) rfl rfl rfl (by simp only [go_sem,simprocAttr,eF,dG,hc0]) rfl ?_|refine aa hX hC hP (Kl) rfl rfl rfl (by simp only [go_sem,simprocAttr,eF,dG,hc0]) rfl ?_);try simp only [go_sem,simprocAttr,eF,dG,hc0])|((with_reducible refine oD ?_ ?_);kernel_rfl)|((with_reducible intro h);try simp only [go_sem,simprocAttr,eF,dG,hc0] at h)|omega|intro h)
 refine ag (fun i:Nat=>i≤g.es.length∧∀j,j<i→Ho g b j=true) (fun i=>⟨[(2, .ptr 2 0),(3, .ptr 3 0),(25, .d (sE g.es)),(26,eN g.es.length),(27,eN i)], [(2, .box [eN g.n, .d (sE g.es)]),(3, .box [.d (sI b.y), .d (sI b.fr), .d (sI b.to), .d (sI b.x)])]⟩) (fun i=>g.es.length - i) 0 ⟨by omega,fun j hj=>by omega⟩ ?_ ?_
 ·refine Le.of ?_ ?_<;>simp [go_sem,simprocAttr,dG]
 rintro i ⟨hi,hin⟩
 rcases Nat.lt_or_ge i g.es.length with hil|J7
 rotate_left
 ·have vJ:decide ((i:Int)<(g.es.length:Int))=false:=decide_eq_false (by omega)
  obtain rfl:i=g.es.length:=by omega
  rw [oR hin]
  repeat' (first|refine Rn.p ?_|(with_reducible apply And.intro)|((first|(refine hK _ ?_;clear hK K)|with_reducible intro K hK|refine Rs.p ?_|((with_reducible first|apply oP|apply oQ);exact rfl));try simp only [go_sem,simprocAttr,vJ])|((with_reducible refine oD ?_ ?_);kernel_rfl)|((with_reducible intro h);try simp only [go_sem,simprocAttr,vJ] at h)|omega|intro h)
 have vJ:decide ((i:Int)<(g.es.length:Int))=true:=decide_eq_true (by omega)
 obtain ⟨t1,t2⟩:=ej hm hil
 obtain ⟨s,hs⟩:∃s:Nat,(g.es.getD i (0,0)).1=s:=⟨(g.es.getD i (0,0)).1.toNat,by omega⟩
 obtain ⟨t,ht⟩:∃t:Nat,(g.es.getD i (0,0)).2=t:=⟨(g.es.getD i (0,0)).2.toNat,by omega⟩
 have hts:(tl g i).toNat=s:=by show ((g.es.getD i (0,0)).1).toNat=s;rw [hs];rfl
 have Cj:(hd g i).toNat=t:=by show ((g.es.getD i (0,0)).2).toNat=t;rw [ht];rfl
 have F8:=y9 b s t (b.x.getD i 0) (by omega) (by omega) (by omega) (by omega) (by omega)
 have qp:Ho g b i=(ga b s t (b.x.getD i 0)&&(List.range i).all fun k=> !Ec g b i k):=by unfold Ho;rw [hts,Cj]
 cases gy:ga b s t (b.x.getD i 0) with
 |false=>
  rw [gy] at F8
  rw [nr hil (f:=Ho g b) (by rw [qp,gy];rfl)]
  repeat' (first|refine Rn.p ?_|(with_reducible apply And.intro)|((first|(refine hK _ ?_;clear hK K)|with_reducible intro K hK|refine Rs.p ?_|((with_reducible first|apply oP|apply oQ);exact rfl)|(refine aZ hX hC hP (F8) rfl rfl rfl ?_ ?_ rfl ?_;iterate 2 (focus (simp only [go_sem,simprocAttr,dG,vJ,hs,ht];done))));try simp only [go_sem,simprocAttr,dG,vJ,hs,ht])|((with_reducible refine oD ?_ ?_);kernel_rfl)|((with_reducible intro h);try simp only [go_sem,simprocAttr,dG,vJ,hs,ht] at h)|omega|intro h)
 |true=>
 rw [gy] at F8 qp
 rw [Bool.true_and] at qp
 repeat' (first|refine Rn.p ?_|(with_reducible apply And.intro)|((first|(refine hK _ ?_;clear hK K)|with_reducible intro K hK|refine Rs.p ?_|((with_reducible first|apply oP|apply oQ);exact rfl)|(refine aZ hX hC hP (F8) rfl rfl rfl ?_ ?_ rfl ?_;iterate 2 (focus (simp only [go_sem,simprocAttr,dG,vJ,hs,ht];done))));try simp only [go_sem,simprocAttr,dG,vJ,hs,ht])|((with_reducible refine oD ?_ ?_);kernel_rfl)|((with_reducible intro h);try simp only [go_sem,simprocAttr,dG,vJ,hs,ht] at h)|omega|intro h)
 refine ag (fun k:Nat=>k≤i∧∀j,j<k→Ec g b i j=false) (fun k=>⟨[(2, .ptr 2 0),(3, .ptr 3 0),(5,eN i),(6, .ptr 6 0),(25, .d (sE g.es)),(26,eN g.es.length),(27,eN i),(44, .d (.sl 2 ((g.es.map rE).take i))),(45,eN i),(46,eN k)], [(2, .box [eN g.n, .d (sE g.es)]),(3, .box [.d (sI b.y), .d (sI b.fr), .d (sI b.to), .d (sI b.x)]),(6, .box [eN s,eN t])]⟩) (fun k=>i - k) 0 ⟨by omega,fun j hj=>by omega⟩ ?_ ?_
 ·refine Le.of ?_ ?_<;>simp [go_sem,simprocAttr]
  all_goals omega
 rintro k ⟨hk,JV⟩
 rcases Nat.lt_or_ge k i with bM|zj
 rotate_left
 ·have gB:decide ((k:Int)<(i:Int))=false:=decide_eq_false (by omega)
  obtain rfl:k=i:=by omega
  repeat' (first|refine Rn.p ?_|(with_reducible apply And.intro)|((first|(refine hK _ ?_;clear hK K)|with_reducible intro K hK|refine Rs.p ?_|((with_reducible first|apply oP|apply oQ);exact rfl));try simp only [go_sem,simprocAttr,gB])|((with_reducible refine oD ?_ ?_);kernel_rfl)|((with_reducible intro h);try simp only [go_sem,simprocAttr,gB] at h)|omega|intro h)
  refine ⟨k+1,⟨by omega,fun j hj=> ?_⟩, ?_,by omega⟩
  ·by_cases hjk:j=k
   ·subst hjk
    rw [qp,oR (f:=fun z=> !Ec g b j z) (fun z hz=>by rw [JV z hz];rfl)]
   ·exact hin j (by omega)
  ·refine Le.of ?_ ?_<;>simp [go_sem,simprocAttr,gB]
 have gB:decide ((k:Int)<(i:Int))=true:=decide_eq_true (by omega)
 obtain ⟨t3,t4⟩:=ej hm (k:=k) (by omega)
 obtain ⟨s',hs'⟩:∃s':Nat,(g.es.getD k (0,0)).1=s':=⟨(g.es.getD k (0,0)).1.toNat,by omega⟩
 obtain ⟨t',ht'⟩:∃t':Nat,(g.es.getD k (0,0)).2=t':=⟨(g.es.getD k (0,0)).2.toNat,by omega⟩
 have MJ:(tl g k).toNat=s':=by show ((g.es.getD k (0,0)).1).toNat=s';rw [hs'];rfl
 have MK:(hd g k).toNat=t':=by show ((g.es.getD k (0,0)).2).toNat=t';rw [ht'];rfl
 have vR:∀d,((g.es.map rE).take i).getD k d= [.sc (.int .i64 (s':Int)), .sc (.int .i64 (t':Int))]:=fun d=>by
  rw [List.getD_eq_getElem?_getD,List.getElem?_take,if_pos bM,List.getElem?_map]
  have e:g.es[k]? =some (g.es.getD k (0,0)):=by rw [List.getD_eq_getElem?_getD,List.getElem?_eq_getElem (by omega)];rfl
  rw [e]
  show rE (g.es.getD k (0,0))=_
  rw [show g.es.getD k (0,0)=((s':Int),(t':Int)) from Prod.ext hs' ht'];rfl
 have x3:((g.es.map rE).take i).length=i:=by rw [List.length_take,List.length_map];omega
 have ML:Ec g b i k=(decide (b.x.getD k 0=b.x.getD i 0)&&decide (b.y.getD s 0<b.y.getD t' 0)&&decide (b.y.getD s' 0<b.y.getD t 0)):=by unfold Ec;rw [hts,Cj,MJ,MK]
 have hno:Ec g b i k=true→(List.range g.es.length).all (Ho g b)=false:=fun h1=>nr hil (by rw [qp];exact nr (f:=fun z=> !Ec g b i z) bM (by rw [h1];rfl))
 have hyes:Ec g b i k=false→∀j,j<k+1→Ec g b i j=false:=fun h1 j hj=>by
  by_cases As:j=k
  ·subst As;exact h1
  ·exact JV j (by omega)
 generalize Ec g b i k=av at*
 generalize (g.es.map rE).take i=T1 at*
 cases BT:decide (b.x.getD k 0=b.x.getD i 0)<;>cases BU:decide (b.y.getD s 0<b.y.getD t' 0)<;>cases Er:decide (b.y.getD s' 0<b.y.getD t 0)<;>rw [BT,BU,Er] at ML<;>simp only [Bool.and_true,Bool.and_false,Bool.true_and,Bool.false_and] at ML<;>subst ML
 all_goals (
 repeat' (first|refine Rn.p ?_|(with_reducible apply And.intro)|((first|(refine hK _ ?_;clear hK K)|with_reducible intro K hK|refine Rs.p ?_|((with_reducible first|apply oP|apply oQ);exact rfl));try simp only [go_sem,simprocAttr,gB,BT,BU,Er,vR,x3])|((with_reducible refine oD ?_ ?_);kernel_rfl)|((with_reducible intro h);try simp only [go_sem,simprocAttr,gB,BT,BU,Er,vR,x3] at h)|omega|intro h))
 all_goals (first|(exact hno rfl)|(exact (hno rfl).symm)|(refine ⟨k+1,⟨by omega,hyes rfl⟩, ?_,by omega⟩;refine Le.of ?_ ?_<;>simp [go_sem];done)|trace_state)
end Go.Ab
end
section
namespace Go.Ab
open Go.Proofs
attribute [local congr] ACall.congr gd.congr Nx.congr
set_option maxRecDepth 20000
set_option maxHeartbeats 32000000
def Pw (b:Br) (x z:Nat):Bool:= !decide ((x:Int)=(z:Int))&&decide (b.y.getD x 0=b.y.getD z 0)&& !(decide (b.to.getD x 0<b.fr.getD z 0)||decide (b.to.getD z 0<b.fr.getD x 0))
def Px (b:Br) (n x:Nat):Bool:=decide (b.fr.getD x 0≤b.to.getD x 0)&&(List.range n).all fun z=> !Pw b x z
def Py (g:Gr) (b:Br) (i k:Nat):Bool:= !decide ((k:Int)=(i:Int))&&decide (b.x.getD k 0=b.x.getD i 0)&& !(decide (b.y.getD (hd g i).toNat 0≤b.y.getD (tl g k).toNat 0)||decide (b.y.getD (hd g k).toNat 0≤b.y.getD (tl g i).toNat 0))
def Pz (g:Gr) (b:Br) (i:Nat):Bool:=ga b (tl g i).toNat (hd g i).toNat (b.x.getD i 0)&&(List.range g.es.length).all fun k=> !Py g b i k
def HN (g:Gr) (b:Br):Bool:=decide ((bF g).1=0)&&uz b g&&(List.range b.y.length).all (Px b b.y.length)&&(List.range g.es.length).all (Pz g b)
end Go.Ab
end
section
namespace Go.Ab
open Go.Proofs
attribute [local congr] ACall.congr gd.congr Nx.congr
set_option maxRecDepth 20000
set_option maxHeartbeats 32000000
end Go.Ab
end
section
namespace Go.Ab
open Go.Proofs
attribute [local congr] ACall.congr gd.congr Nx.congr
set_option maxRecDepth 20000
set_option maxHeartbeats 8000000
def NF (g:Gr) (b:Br):Bool:=decide (80<(g.es.length:Int))||decide (70<(b.y.length:Int))||decide (70<(b.fr.length:Int))||decide (70<(b.to.length:Int))||decide (80<(b.x.length:Int))
theorem MM:oW Fy HM=⟨[0,1,1,2], [0,0,1,0], [1,0,1,1], [0,0,1,1]⟩:=by rfl
theorem MN:eC Fy ⟨[0,1,1,2], [0,0,1,0], [1,0,1,1], [0,0,1,1]⟩=true:=by rfl
theorem JW:cu Fy HM:=(pO JL (b:=true) rfl).1
theorem mF:Spec Tryz.prog 15 (Args []) [] (eB true) []:=by
 have HF:=uv Fy HM (by decide) JW (by decide) (by decide) (by decide) true JL
 rw [MM] at HF
 have NG:=vP Fy ⟨[0,1,1,2], [0,0,1,0], [1,0,1,1], [0,0,1,1]⟩ (by decide) (by decide) (by decide)
 rw [MN] at NG
 have e1:Fy.es.map rE= [[.sc (.int .i64 0), .sc (.int .i64 1)], [.sc (.int .i64 1), .sc (.int .i64 3)], [.sc (.int .i64 0), .sc (.int .i64 2)], [.sc (.int .i64 2), .sc (.int .i64 3)]]:=rfl
 have e2:HM.ord.map rI= [[.sc (.int .i64 0)], [.sc (.int .i64 1)], [.sc (.int .i64 2)], [.sc (.int .i64 3)]]:=rfl
 have e3:vI HM.outs= [[.sl 1 [[.sc (.int .i64 0)], [.sc (.int .i64 2)]]], [.sl 1 [[.sc (.int .i64 1)]]], [.sl 1 [[.sc (.int .i64 3)]]], [.sl 1 []]]:=rfl
 have e4:Fy.n=4:=rfl
 (refine Spec.hd (C:=T.cfg [] []) (rs:= [.t 0]) (T.ai _ _) Tryz.func15 rfl rfl Tryz.ntmps15 Tryz.results15 (by simp [AObj.isNest]) (by simp [AObj.isNest]) (by kernel_rfl) T.mixed fun X hX hP hC aH bU=> ?_)
 repeat' (first|refine Rn.p ?_|(with_reducible apply And.intro)|((first|(refine hK _ ?_;clear hK K)|with_reducible intro K hK|refine Rs.p ?_|((with_reducible first|apply oP|apply oQ);exact rfl)|(refine aZ hX hC hP (HF) rfl rfl rfl ?_ ?_ rfl ?_;iterate 2 (focus (simp only [go_sem,simprocAttr,dG,e1,e2,e3,e4,List.map_cons,List.map_nil,rI,decide_true];done)))|(refine aZ hX hC hP (iX [0,1,1,2] [0,1,1,2] (by decide)) rfl rfl rfl ?_ ?_ rfl ?_;iterate 2 (focus (simp only [go_sem,simprocAttr,dG,e1,e2,e3,e4,List.map_cons,List.map_nil,rI,decide_true];done)))|(refine aZ hX hC hP (iX [1,0,1,1] [1,0,1,1] (by decide)) rfl rfl rfl ?_ ?_ rfl ?_;iterate 2 (focus (simp only [go_sem,simprocAttr,dG,e1,e2,e3,e4,List.map_cons,List.map_nil,rI,decide_true];done)))|(refine aZ hX hC hP (iX [0,0,1,1] [0,0,1,1] (by decide)) rfl rfl rfl ?_ ?_ rfl ?_;iterate 2 (focus (simp only [go_sem,simprocAttr,dG,e1,e2,e3,e4,List.map_cons,List.map_nil,rI,decide_true];done)))|(refine aZ hX hC hP (NG) rfl rfl rfl ?_ ?_ rfl ?_;iterate 2 (focus (simp only [go_sem,simprocAttr,dG,e1,e2,e3,e4,List.map_cons,List.map_nil,rI,decide_true];done))));try simp only [go_sem,simprocAttr,dG,e1,e2,e3,e4,List.map_cons,List.map_nil,rI,decide_true])|((with_reducible refine oD ?_ ?_);kernel_rfl)|((with_reducible intro h);try simp only [go_sem,simprocAttr,dG,e1,e2,e3,e4,List.map_cons,List.map_nil,rI,decide_true] at h)|omega|intro h)
end Go.Ab
end
section
namespace Go.Ab
open Go.Proofs
attribute [local congr] ACall.congr gd.congr Nx.congr
set_option maxRecDepth 40000
set_option maxHeartbeats 32000000
theorem tr (g:Gr) (p:Pl) (hl:g.es.length≤9223372036854775807) (hp:zU p):Spec Tryz.prog 4 (Args [eG g,ePl p]) [] (eB true) []:=by
 obtain ⟨b,hr⟩:=O9 g p
 have Km:=vK g hl p hp b hr
 (refine Spec.hd (C:=T.cfg [] []) (rs:= [.t 4]) (T.ai _ _) Tryz.func4 rfl rfl Tryz.ntmps4 Tryz.results4 (by simp [AObj.isNest]) (by simp [AObj.isNest]) (by kernel_rfl) T.mixed fun X hX hP hC aH bU=> ?_)
 cases ha:xU b g p with
 |false=>
  rw [ha] at Km
  repeat' (first|refine Rn.p ?_|(with_reducible apply And.intro)|((first|(refine hK _ ?_;clear hK K)|with_reducible intro K hK|refine Rs.p ?_|((with_reducible first|apply oP|apply oQ);exact rfl)|refine aa hX hC hP (mF) rfl rfl rfl (by simp only [go_sem,simprocAttr]) rfl ?_|refine aa hX hC hP (Km) rfl rfl rfl (by simp only [go_sem,simprocAttr]) rfl ?_);try simp only [go_sem,simprocAttr])|((with_reducible refine oD ?_ ?_);kernel_rfl)|((with_reducible intro h);try simp only [go_sem,simprocAttr] at h)|omega|intro h)
 |true=>
 rw [ha] at Km
 obtain ⟨hB,hI,hrun,h0,Hl⟩:=Hh hr ha
 have hm:=aE hrun.1
 have hn:=aT hm
 have hD:=uv g p hB hrun hI h0 Hl b hr
 obtain ⟨s,t,L,H,hS,hT,hs,ht,wh,Mo,hx1,hx2,hy1,hy2,w1,w2,w3,w4,w5,w6,Qs,Qt⟩:=FA hrun hI h0 Hl
 have NH:=bP g true (by omega) (by omega)
 have NI:=bP g false (by omega) (by omega)
 have e1:aV (iY (!true)) g= [(s:Int)]:=hS
 have e2:aV (iY (!false)) g= [(t:Int)]:=hT
 rw [e1] at NH
 rw [e2] at NI
 have l1:(oW g p).x.length=g.es.length:=cC
 have l2:(oW g p).y.length=g.n.toNat:=(nj hm (vM hrun.1)).1
 have l3:(oW g p).fr.length=g.n.toNat:=by show (p.outs.map _).length=_;rw [List.length_map,wh]
 have l4:(oW g p).to.length=g.n.toNat:=by show (p.outs.map _).length=_;rw [List.length_map,wh]
 obtain ⟨c1,c2⟩:=Al hx1 hx2
 obtain ⟨c3,c4⟩:=Al hy1 hy2
 have Kf:dG (oW g p)= .agg [.d (sI (oW g p).y), .d (sI (oW g p).fr), .d (sI (oW g p).to), .d (sI (oW g p).x)]:=rfl
 rw [Kf] at hD
 clear hx1 hx2 hy1 hy2 Kf e1 e2
 generalize (oW g p).x=xs at*
 generalize (oW g p).y=ys at*
 generalize (oW g p).fr=fs at*
 generalize (oW g p).to=ts at*
 have yV:decide ((xs.length:Int)=(g.es.length:Int))=true:=decide_eq_true (by omega)
 have hn2:decide ((ys.length:Int)=g.n)=true:=decide_eq_true (by omega)
 have G9:decide ((fs.length:Int)=g.n)=true:=decide_eq_true (by omega)
 have JX:decide ((ts.length:Int)=g.n)=true:=decide_eq_true (by omega)
 repeat' (first|refine Rn.p ?_|(with_reducible apply And.intro)|((first|(refine hK _ ?_;clear hK K)|with_reducible intro K hK|refine Rs.p ?_|((with_reducible first|apply oP|apply oQ);exact rfl)|refine aa hX hC hP (mF) rfl rfl rfl (by simp only [go_sem,simprocAttr,yV,hn2,G9,JX]) rfl ?_|refine aa hX hC hP (Km) rfl rfl rfl (by simp only [go_sem,simprocAttr,yV,hn2,G9,JX]) rfl ?_|refine aa hX hC hP (hD) rfl rfl rfl (by simp only [go_sem,simprocAttr,yV,hn2,G9,JX]) rfl ?_);try simp only [go_sem,simprocAttr,yV,hn2,G9,JX])|((with_reducible refine oD ?_ ?_);kernel_rfl)|((with_reducible intro h);try simp only [go_sem,simprocAttr,yV,hn2,G9,JX] at h)|omega|intro h)
 refine ag (fun j:Nat=>j≤xs.length) (fun j=>⟨[(2, .ptr 2 0),(5, .ptr 5 0),(7, .mref 64),(8, .mref 65),(67, .d (sI xs)),(68,eN xs.length),(69,eN j)], [(2, .box [eN g.n, .d (sE g.es)]),(5, .box [.d (sI ys), .d (sI fs), .d (sI ts), .d (sI xs)]),(64, .mp 0 (iD xs j)),(65, .mp 0 [])]⟩) (fun j=>xs.length - j) 0 (by omega) ?_ ?_
 ·refine Le.of ?_ ?_<;>simp [go_sem,simprocAttr,iD]
 rintro j hj
 rcases Nat.lt_or_ge j xs.length with hjl|GL
 ·have hb:decide ((j:Int)<(xs.length:Int))=true:=decide_eq_true (by omega)
  obtain ⟨v1,v2,_⟩:=(vN (l:=xs) (j:=j) (by omega)).val (xs.getD j 0)
  have dI:iD xs (j+1)=qo (iD xs j) [xs.getD j 0] (fu (iD xs j) [xs.getD j 0]+1):=rfl
  generalize iD xs j=M at*
  generalize hx:xs.getD j 0=x at*
  repeat' (first|refine Rn.p ?_|(with_reducible apply And.intro)|((first|(refine hK _ ?_;clear hK K)|with_reducible intro K hK|refine Rs.p ?_|((with_reducible first|apply oP|apply oQ);exact rfl));try simp only [go_sem,simprocAttr,hb,hx])|((with_reducible refine oD ?_ ?_);kernel_rfl)|((with_reducible intro h);try simp only [go_sem,simprocAttr,hb,hx] at h)|omega|intro h)
  refine ⟨j+1,by omega, ?_,by omega⟩
  rw [dI]
  refine Le.of ?_ ?_<;>simp [go_sem,simprocAttr,hb,hx]
 have hb:decide ((j:Int)<(xs.length:Int))=false:=decide_eq_false (by omega)
 obtain rfl:j=xs.length:=by omega
 repeat' (first|refine Rn.p ?_|(with_reducible apply And.intro)|((first|(refine hK _ ?_;clear hK K)|with_reducible intro K hK|refine Rs.p ?_|((with_reducible first|apply oP|apply oQ);exact rfl));try simp only [go_sem,simprocAttr,hb])|((with_reducible refine oD ?_ ?_);kernel_rfl)|((with_reducible intro h);try simp only [go_sem,simprocAttr,hb] at h)|omega|intro h)
 generalize Qu:iD xs xs.length=Mx at*
 refine ag (fun j:Nat=>j≤ys.length) (fun j=>⟨[(2, .ptr 2 0),(5, .ptr 5 0),(7, .mref 64),(8, .mref 65),(79, .d (sI ys)),(80,eN ys.length),(81,eN j)], [(2, .box [eN g.n, .d (sE g.es)]),(5, .box [.d (sI ys), .d (sI fs), .d (sI ts), .d (sI xs)]),(64, .mp 0 Mx),(65, .mp 0 (iD ys j))]⟩) (fun j=>ys.length - j) 0 (by omega) ?_ ?_
 ·refine Le.of ?_ ?_<;>simp [go_sem,simprocAttr,iD]
 rintro j hj
 rcases Nat.lt_or_ge j ys.length with hjl|GL
 ·have hb:decide ((j:Int)<(ys.length:Int))=true:=decide_eq_true (by omega)
  obtain ⟨v1,v2,_⟩:=(vN (l:=ys) (j:=j) (by omega)).val (ys.getD j 0)
  have dI:iD ys (j+1)=qo (iD ys j) [ys.getD j 0] (fu (iD ys j) [ys.getD j 0]+1):=rfl
  generalize iD ys j=M at dI v1 v2 ⊢
  generalize hx:ys.getD j 0=x at*
  repeat' (first|refine Rn.p ?_|(with_reducible apply And.intro)|((first|(refine hK _ ?_;clear hK K)|with_reducible intro K hK|refine Rs.p ?_|((with_reducible first|apply oP|apply oQ);exact rfl));try simp only [go_sem,simprocAttr,hb,hx])|((with_reducible refine oD ?_ ?_);kernel_rfl)|((with_reducible intro h);try simp only [go_sem,simprocAttr,hb,hx] at h)|omega|intro h)
  refine ⟨j+1,by omega, ?_,by omega⟩
  rw [dI]
  refine Le.of ?_ ?_<;>simp [go_sem,simprocAttr,hb,hx]
 have hb:decide ((j:Int)<(ys.length:Int))=false:=decide_eq_false (by omega)
 obtain rfl:j=ys.length:=by omega
 repeat' (first|refine Rn.p ?_|(with_reducible apply And.intro)|((first|(refine hK _ ?_;clear hK K)|with_reducible intro K hK|refine Rs.p ?_|((with_reducible first|apply oP|apply oQ);exact rfl));try simp only [go_sem,simprocAttr,hb])|((with_reducible refine oD ?_ ?_);kernel_rfl)|((with_reducible intro h);try simp only [go_sem,simprocAttr,hb] at h)|omega|intro h)
 generalize Qv:iD ys ys.length=My at*
 refine ag (fun k:Nat=>k≤L) (fun k=>⟨[(2, .ptr 2 0),(5, .ptr 5 0),(7, .mref 64),(8, .mref 65),(91,eN L),(92,eN k)], [(2, .box [eN g.n, .d (sE g.es)]),(5, .box [.d (sI ys), .d (sI fs), .d (sI ts), .d (sI xs)]),(64, .mp 0 Mx),(65, .mp 0 My)]⟩) (fun k=>L - k) 0 (by omega) ?_ ?_
 ·refine Le.of ?_ ?_<;>simp [go_sem,simprocAttr,c1,c3]
 rintro k hk
 rcases Nat.lt_or_ge k L with bM|zj
 ·have hb:decide ((k:Int)<((L:Nat):Int))=true:=decide_eq_true (by omega)
  have aq:decide (fu Mx [(k:Int)]=0)=false:=decide_eq_false (c2 k bM)
  repeat' (first|refine Rn.p ?_|(with_reducible apply And.intro)|((first|(refine hK _ ?_;clear hK K)|with_reducible intro K hK|refine Rs.p ?_|((with_reducible first|apply oP|apply oQ);exact rfl));try simp only [go_sem,simprocAttr,c1,c3,hb,aq])|((with_reducible refine oD ?_ ?_);kernel_rfl)|((with_reducible intro h);try simp only [go_sem,simprocAttr,c1,c3,hb,aq] at h)|omega|intro h)
  refine ⟨k+1,by omega, ?_,by omega⟩
  refine Le.of ?_ ?_<;>simp [go_sem,simprocAttr,c1,c3,hb,aq]
 have hb:decide ((k:Int)<((L:Nat):Int))=false:=decide_eq_false (by omega)
 obtain rfl:L=k:=by omega
 repeat' (first|refine Rn.p ?_|(with_reducible apply And.intro)|((first|(refine hK _ ?_;clear hK K)|with_reducible intro K hK|refine Rs.p ?_|((with_reducible first|apply oP|apply oQ);exact rfl));try simp only [go_sem,simprocAttr,c1,c3,hb])|((with_reducible refine oD ?_ ?_);kernel_rfl)|((with_reducible intro h);try simp only [go_sem,simprocAttr,c1,c3,hb] at h)|omega|intro h)
 refine ag (fun k:Nat=>k≤H) (fun k=>⟨[(2, .ptr 2 0),(5, .ptr 5 0),(7, .mref 64),(8, .mref 65),(101,eN H),(102,eN k)], [(2, .box [eN g.n, .d (sE g.es)]),(5, .box [.d (sI ys), .d (sI fs), .d (sI ts), .d (sI xs)]),(64, .mp 0 Mx),(65, .mp 0 My)]⟩) (fun k=>H - k) 0 (by omega) ?_ ?_
 ·refine Le.of ?_ ?_<;>simp [go_sem,simprocAttr,c1,c3]
 rintro k hk
 rcases Nat.lt_or_ge k H with bM|zj
 ·have hb:decide ((k:Int)<((H:Nat):Int))=true:=decide_eq_true (by omega)
  have aq:decide (fu My [(k:Int)]=0)=false:=decide_eq_false (c4 k bM)
  repeat' (first|refine Rn.p ?_|(with_reducible apply And.intro)|((first|(refine hK _ ?_;clear hK K)|with_reducible intro K hK|refine Rs.p ?_|((with_reducible first|apply oP|apply oQ);exact rfl));try simp only [go_sem,simprocAttr,c1,c3,hb,aq])|((with_reducible refine oD ?_ ?_);kernel_rfl)|((with_reducible intro h);try simp only [go_sem,simprocAttr,c1,c3,hb,aq] at h)|omega|intro h)
  refine ⟨k+1,by omega, ?_,by omega⟩
  refine Le.of ?_ ?_<;>simp [go_sem,simprocAttr,c1,c3,hb,aq]
 have hb:decide ((k:Int)<((H:Nat):Int))=false:=decide_eq_false (by omega)
 obtain rfl:H=k:=by omega
 have d1:decide (fs.getD s 0=0)=true:=decide_eq_true w1
 have d2:decide (fs.getD t 0=0)=true:=decide_eq_true w2
 have d3:decide (ts.getD s 0=(L:Int) - 1)=true:=decide_eq_true w3
 have d4:decide (ts.getD t 0=(L:Int) - 1)=true:=decide_eq_true w4
 have d5:decide (ys.getD s 0=0)=true:=decide_eq_true w5
 have d6:decide (ys.getD t 0=(H:Int) - 1)=true:=decide_eq_true w6
 repeat' (first|refine Rn.p ?_|(with_reducible apply And.intro)|((first|(refine hK _ ?_;clear hK K)|with_reducible intro K hK|refine Rs.p ?_|((with_reducible first|apply oP|apply oQ);exact rfl)|refine aa hX hC hP (NH) rfl rfl rfl (by simp only [go_sem,simprocAttr,c1,c3,hb,d1,d2,d3,d4,d5,d6]) rfl ?_|refine aa hX hC hP (NI) rfl rfl rfl (by simp only [go_sem,simprocAttr,c1,c3,hb,d1,d2,d3,d4,d5,d6]) rfl ?_);try simp only [go_sem,simprocAttr,c1,c3,hb,d1,d2,d3,d4,d5,d6])|((with_reducible refine oD ?_ ?_);kernel_rfl)|((with_reducible intro h);try simp only [go_sem,simprocAttr,c1,c3,hb,d1,d2,d3,d4,d5,d6] at h)|omega|intro h)
end Go.Ab
end
