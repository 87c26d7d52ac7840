/- A part of the proof. -/
import Derived.Test.YtjmaiddbinlooaaGreatL6P15
set_option linter.unusedSimpArgs false
set_option linter.unusedVariables false
section
namespace Go.Ab
open Go.Proofs
attribute [local congr] ACall.congr
set_option maxRecDepth 20000
set_option maxHeartbeats 32000000
theorem sG (g:Gr) (b:Br) (hl:g.es.length≤1000) (au:b.y.length≤1000) (an:b.x.length≤1000):Spec Tryz.prog 40 (Args [eG g,aF b]) [] (eB (bX g b)) []:=by
 rw [← wX]
 have FH:=sF g (by omega)
 by_cases hc:(bH g).1=0
 rotate_left
 ·have hr:eH g b=false:=by unfold eH;rw [decide_eq_false hc];rfl
  rw [hr]
  rw [decide_eq_false hc] at FH
  (refine Spec.intro (C:=T.cfg [] []) (rs:= [.t 4]) (T.ak _ _) Tryz.func40 rfl rfl Tryz.ntmps40 Tryz.results40 (by simp [AObj.isNest]) (by simp [AObj.isNest]) (by kernel_rfl) ?_;intro X hX hP hC aK aL vals hA;refine ⟨_,by simp,hA, ?_⟩;have af:X.P.follows .mixedOrders=true:=(by rw [hP];exact T.mixed);clear aK aL)
  repeat' (first|fail|((first|((with_reducible (first|apply oA|apply oB));exact rfl;intro K hK)|(refine hK _ ?_;clear hK K)|((with_reducible (first|apply oG|apply oH));iterate 3 exact rfl)|((with_reducible apply oI);(iterate 2 exact rfl);intro K hK)|(with_reducible (first|apply wI|apply wJ|apply wK)));try simp only [go_sem,simprocAttr,aF])|fail|(with_reducible (first|apply oC|apply oJ|exact oK|apply wA|apply wB|apply wC hX hC|apply wD hX hC|apply wE hX hC af|apply wF hX hC af|apply wG|apply wH|apply And.intro))|((with_reducible refine oD ?_ ?_);first|fail|kernel_rfl)|((with_reducible (first|apply oE|apply oF));(iterate 3 exact rfl);all_goals (intro h;first|(exact absurd h (by decide))|((try simp only [go_sem,simprocAttr,aF] at h);(try with_reducible intro K hK);simp only [go_sem,simprocAttr,aF])))|((first|((with_reducible apply wL);exact rfl)|((with_reducible apply wM);exact rfl));all_goals (try ((with_reducible intro h);first|(exact absurd h (by decide))|(try simp only [go_sem,simprocAttr,aF] at h))))|omega|((first|first|refine aa hX hC hP (FH) rfl rfl rfl (by simp only [go_sem,simprocAttr,aF]) rfl ?_);try simp only [go_sem,simprocAttr,aF])|(intro h))
 rw [decide_eq_true hc] at FH
 cases C3:lH b g with
 |false=>
  have hr:eH g b=false:=by unfold eH;rw [C3];simp
  rw [hr]
  have hf:lH b g=(decide ((b.y.length:Int)=g.n)&&decide ((b.fr.length:Int)=g.n)&&decide ((b.to.length:Int)=g.n)&&decide ((b.x.length:Int)=(g.es.length:Int))):=rfl
  rw [C3] at hf
  cases h1:decide ((b.y.length:Int)=g.n)<;>cases h2:decide ((b.fr.length:Int)=g.n)<;>cases h3:decide ((b.to.length:Int)=g.n)<;>cases h4:decide ((b.x.length:Int)=(g.es.length:Int))<;>rw [h1,h2,h3,h4] at hf<;>simp only [Bool.and_true,Bool.and_false,Bool.true_and,Bool.false_and] at hf
  all_goals (first|(exact absurd hf (by decide))|skip)
  all_goals (
  (refine Spec.intro (C:=T.cfg [] []) (rs:= [.t 4]) (T.ak _ _) Tryz.func40 rfl rfl Tryz.ntmps40 Tryz.results40 (by simp [AObj.isNest]) (by simp [AObj.isNest]) (by kernel_rfl) ?_;intro X hX hP hC aK aL vals hA;refine ⟨_,by simp,hA, ?_⟩;have af:X.P.follows .mixedOrders=true:=(by rw [hP];exact T.mixed);clear aK aL)
  repeat' (first|fail|((first|((with_reducible (first|apply oA|apply oB));exact rfl;intro K hK)|(refine hK _ ?_;clear hK K)|((with_reducible (first|apply oG|apply oH));iterate 3 exact rfl)|((with_reducible apply oI);(iterate 2 exact rfl);intro K hK)|(with_reducible (first|apply wI|apply wJ|apply wK)));try simp only [go_sem,simprocAttr,aF,h1,h2,h3,h4])|fail|(with_reducible (first|apply oC|apply oJ|exact oK|apply wA|apply wB|apply wC hX hC|apply wD hX hC|apply wE hX hC af|apply wF hX hC af|apply wG|apply wH|apply And.intro))|((with_reducible refine oD ?_ ?_);first|fail|kernel_rfl)|((with_reducible (first|apply oE|apply oF));(iterate 3 exact rfl);all_goals (intro h;first|(exact absurd h (by decide))|((try simp only [go_sem,simprocAttr,aF,h1,h2,h3,h4] at h);(try with_reducible intro K hK);simp only [go_sem,simprocAttr,aF,h1,h2,h3,h4])))|((first|((with_reducible apply wL);exact rfl)|((with_reducible apply wM);exact rfl));all_goals (try ((with_reducible intro h);first|(exact absurd h (by decide))|(try simp only [go_sem,simprocAttr,aF,h1,h2,h3,h4] at h))))|omega|((first|first|refine aa hX hC hP (FH) rfl rfl rfl (by simp only [go_sem,simprocAttr,aF,h1,h2,h3,h4]) rfl ?_);try simp only [go_sem,simprocAttr,aF,h1,h2,h3,h4])|(intro h)))
 |true=>
 have hm:=aC hc
 have hn:=aW hm
 have CL:=C3
 simp only [lH,Bool.and_eq_true,decide_eq_true_eq] at CL
 obtain ⟨⟨⟨l1,l2⟩,l3⟩,l4⟩:=CL
 have l5:b.fr.length=b.y.length:=by omega
 have l6:b.to.length=b.y.length:=by omega
 have l7:b.x.length=g.es.length:=by omega
 have m1:decide ((b.y.length:Int)=g.n)=true:=decide_eq_true l1
 have Dw:g.n=(b.y.length:Int):=by omega
 have hr:eH g b=((List.range b.y.length).all (CN b b.y.length)&&(List.range g.es.length).all (CO g b)):=by
  unfold eH;rw [decide_eq_true hc,C3];rfl
 rw [hr]
 (refine Spec.intro (C:=T.cfg [] []) (rs:= [.t 4]) (T.ak _ _) Tryz.func40 rfl rfl Tryz.ntmps40 Tryz.results40 (by simp [AObj.isNest]) (by simp [AObj.isNest]) (by kernel_rfl) ?_;intro X hX hP hC aK aL vals hA;refine ⟨_,by simp,hA, ?_⟩;have af:X.P.follows .mixedOrders=true:=(by rw [hP];exact T.mixed);clear aK aL)
 repeat' (first|fail|((first|((with_reducible (first|apply oA|apply oB));exact rfl;intro K hK)|(refine hK _ ?_;clear hK K)|((with_reducible (first|apply oG|apply oH));iterate 3 exact rfl)|((with_reducible apply oI);(iterate 2 exact rfl);intro K hK)|(with_reducible (first|apply wI|apply wJ|apply wK)));try simp only [go_sem,simprocAttr,aF,l5,l6,l7,m1,decide_true])|fail|(with_reducible (first|apply oC|apply oJ|exact oK|apply wA|apply wB|apply wC hX hC|apply wD hX hC|apply wE hX hC af|apply wF hX hC af|apply wG|apply wH|apply And.intro))|((with_reducible refine oD ?_ ?_);first|fail|kernel_rfl)|((with_reducible (first|apply oE|apply oF));(iterate 3 exact rfl);all_goals (intro h;first|(exact absurd h (by decide))|((try simp only [go_sem,simprocAttr,aF,l5,l6,l7,m1,decide_true] at h);(try with_reducible intro K hK);simp only [go_sem,simprocAttr,aF,l5,l6,l7,m1,decide_true])))|((first|((with_reducible apply wL);exact rfl)|((with_reducible apply wM);exact rfl));all_goals (try ((with_reducible intro h);first|(exact absurd h (by decide))|(try simp only [go_sem,simprocAttr,aF,l5,l6,l7,m1,decide_true] at h))))|omega|((first|first|refine aa hX hC hP (FH) rfl rfl rfl (by simp only [go_sem,simprocAttr,aF,l5,l6,l7,m1,decide_true]) rfl ?_);try simp only [go_sem,simprocAttr,aF,l5,l6,l7,m1,decide_true])|(intro h))
 refine aj (fun k:Nat=>k≤b.y.length∧∀j,j<k→CN b b.y.length j=true) (fun k=>⟨[(2, .ptr 2 0),(3, .ptr 3 0),(5,eN k)], [(2, .box [eN g.n, .d (sE g.es)]),(3, .box [.d (sI b.y), .d (sI b.fr), .d (sI b.to), .d (sI b.x)])]⟩) (fun k=>b.y.length - k) 0 ⟨by omega,fun j hj=>by omega⟩ ?_ ?_
 ·refine Le.of ?_ ?_<;>simp [go_sem,simprocAttr,aF]
 rintro k ⟨hk,hin⟩
 rcases Nat.lt_or_ge k b.y.length with bD|xo
 ·have hb:decide ((k:Int)<g.n)=true:=decide_eq_true (by omega)
  by_cases yB:b.fr.getD k 0≤b.to.getD k 0
  rotate_left
  ·have hc1:decide (b.to.getD k 0<b.fr.getD k 0)=true:=decide_eq_true (by omega)
   rw [eX bD (f:=CN b b.y.length) (by unfold CN;rw [decide_eq_false yB];rfl),Bool.false_and]
   repeat' (first|fail|((first|((with_reducible (first|apply oA|apply oB));exact rfl;intro K hK)|(refine hK _ ?_;clear hK K)|((with_reducible (first|apply oG|apply oH));iterate 3 exact rfl)|((with_reducible apply oI);(iterate 2 exact rfl);intro K hK)|(with_reducible (first|apply wI|apply wJ|apply wK)));try simp only [go_sem,simprocAttr,hb,hc1,l5,l6])|fail|(with_reducible (first|apply oC|apply oJ|exact oK|apply wA|apply wB|apply wC hX hC|apply wD hX hC|apply wE hX hC af|apply wF hX hC af|apply wG|apply wH|apply And.intro))|((with_reducible refine oD ?_ ?_);first|fail|kernel_rfl)|((with_reducible (first|apply oE|apply oF));(iterate 3 exact rfl);all_goals (intro h;first|(exact absurd h (by decide))|((try simp only [go_sem,simprocAttr,hb,hc1,l5,l6] at h);(try with_reducible intro K hK);simp only [go_sem,simprocAttr,hb,hc1,l5,l6])))|((first|((with_reducible apply wL);exact rfl)|((with_reducible apply wM);exact rfl));all_goals (try ((with_reducible intro h);first|(exact absurd h (by decide))|(try simp only [go_sem,simprocAttr,hb,hc1,l5,l6] at h))))|omega|((first|fail);try simp only [go_sem,simprocAttr,hb,hc1,l5,l6])|(intro h))
  have hc1:decide (b.to.getD k 0<b.fr.getD k 0)=false:=decide_eq_false (by omega)
  repeat' (first|fail|((first|((with_reducible (first|apply oA|apply oB));exact rfl;intro K hK)|(refine hK _ ?_;clear hK K)|((with_reducible (first|apply oG|apply oH));iterate 3 exact rfl)|((with_reducible apply oI);(iterate 2 exact rfl);intro K hK)|(with_reducible (first|apply wI|apply wJ|apply wK)));try simp only [go_sem,simprocAttr,hb,hc1,l5,l6])|fail|(with_reducible (first|apply oC|apply oJ|exact oK|apply wA|apply wB|apply wC hX hC|apply wD hX hC|apply wE hX hC af|apply wF hX hC af|apply wG|apply wH|apply And.intro))|((with_reducible refine oD ?_ ?_);first|fail|kernel_rfl)|((with_reducible (first|apply oE|apply oF));(iterate 3 exact rfl);all_goals (intro h;first|(exact absurd h (by decide))|((try simp only [go_sem,simprocAttr,hb,hc1,l5,l6] at h);(try with_reducible intro K hK);simp only [go_sem,simprocAttr,hb,hc1,l5,l6])))|((first|((with_reducible apply wL);exact rfl)|((with_reducible apply wM);exact rfl));all_goals (try ((with_reducible intro h);first|(exact absurd h (by decide))|(try simp only [go_sem,simprocAttr,hb,hc1,l5,l6] at h))))|omega|((first|fail);try simp only [go_sem,simprocAttr,hb,hc1,l5,l6])|(intro h))
  refine aj (fun z:Nat=>z≤b.y.length∧∀j,j<z→C4 b k j=false) (fun z=>⟨[(2, .ptr 2 0),(3, .ptr 3 0),(5,eN k),(6,eN z)], [(2, .box [eN g.n, .d (sE g.es)]),(3, .box [.d (sI b.y), .d (sI b.fr), .d (sI b.to), .d (sI b.x)])]⟩) (fun z=>b.y.length - z) 0 ⟨by omega,fun j hj=>by omega⟩ ?_ ?_
  ·refine Le.of ?_ ?_<;>simp [go_sem,simprocAttr]
  rintro z ⟨hz,CK⟩
  rcases Nat.lt_or_ge z b.y.length with hzl|LS
  rotate_left
  ·have hbz:decide ((z:Int)<g.n)=false:=decide_eq_false (by omega)
   obtain rfl:z=b.y.length:=by omega
   repeat' (first|fail|((first|((with_reducible (first|apply oA|apply oB));exact rfl;intro K hK)|(refine hK _ ?_;clear hK K)|((with_reducible (first|apply oG|apply oH));iterate 3 exact rfl)|((with_reducible apply oI);(iterate 2 exact rfl);intro K hK)|(with_reducible (first|apply wI|apply wJ|apply wK)));try simp only [go_sem,simprocAttr,hbz])|fail|(with_reducible (first|apply oC|apply oJ|exact oK|apply wA|apply wB|apply wC hX hC|apply wD hX hC|apply wE hX hC af|apply wF hX hC af|apply wG|apply wH|apply And.intro))|((with_reducible refine oD ?_ ?_);first|fail|kernel_rfl)|((with_reducible (first|apply oE|apply oF));(iterate 3 exact rfl);all_goals (intro h;first|(exact absurd h (by decide))|((try simp only [go_sem,simprocAttr,hbz] at h);(try with_reducible intro K hK);simp only [go_sem,simprocAttr,hbz])))|((first|((with_reducible apply wL);exact rfl)|((with_reducible apply wM);exact rfl));all_goals (try ((with_reducible intro h);first|(exact absurd h (by decide))|(try simp only [go_sem,simprocAttr,hbz] at h))))|omega|((first|fail);try simp only [go_sem,simprocAttr,hbz])|(intro h))
   refine ⟨k+1,⟨by omega,fun j hj=> ?_⟩, ?_,by omega⟩
   ·by_cases sq:j=k
    ·subst sq
     unfold CN
     rw [decide_eq_true yB,fJ (f:=fun z=> !C4 b j z) (fun i hi=>by rw [CK i hi];rfl)];rfl
    ·exact hin j (by omega)
   ·refine Le.of ?_ ?_<;>simp [go_sem,simprocAttr,hbz]
  have hbz:decide ((z:Int)<g.n)=true:=decide_eq_true (by omega)
  have hap:C4 b k z=(!decide ((k:Int)=(z:Int))&&decide (b.y.getD k 0=b.y.getD z 0)&& !(decide (b.to.getD k 0<b.fr.getD z 0)||decide (b.to.getD z 0<b.fr.getD k 0))):=rfl
  have hno:C4 b k z=true→((List.range b.y.length).all (CN b b.y.length)&&(List.range g.es.length).all (CO g b))=false:=fun h1=>by
   rw [eX bD (f:=CN b b.y.length) (by unfold CN;rw [eX (f:=fun z=> !C4 b k z) hzl (by rw [h1];rfl),Bool.and_false]),Bool.false_and]
  have hyes:C4 b k z=false→∀j,j<z+1→C4 b k j=false:=fun h1 j hj=>by
   by_cases sq:j=z
   ·subst sq;exact h1
   ·exact CK j (by omega)
  generalize C4 b k z=av at*
  cases Gi:decide ((k:Int)=(z:Int))<;>cases dm:decide (b.y.getD k 0=b.y.getD z 0)<;>cases fk:decide (b.to.getD k 0<b.fr.getD z 0)<;>cases jQ:decide (b.to.getD z 0<b.fr.getD k 0)<;>rw [Gi,dm,fk,jQ] at hap<;>simp only [Bool.and_true,Bool.and_false,Bool.true_and,Bool.false_and,Bool.not_true,Bool.not_false,Bool.or_true,Bool.or_false] at hap<;>subst hap
  all_goals (
  repeat' (first|fail|((first|((with_reducible (first|apply oA|apply oB));exact rfl;intro K hK)|(refine hK _ ?_;clear hK K)|((with_reducible (first|apply oG|apply oH));iterate 3 exact rfl)|((with_reducible apply oI);(iterate 2 exact rfl);intro K hK)|(with_reducible (first|apply wI|apply wJ|apply wK)));try simp only [go_sem,simprocAttr,hbz,Gi,dm,fk,jQ,l5,l6])|fail|(with_reducible (first|apply oC|apply oJ|exact oK|apply wA|apply wB|apply wC hX hC|apply wD hX hC|apply wE hX hC af|apply wF hX hC af|apply wG|apply wH|apply And.intro))|((with_reducible refine oD ?_ ?_);first|fail|kernel_rfl)|((with_reducible (first|apply oE|apply oF));(iterate 3 exact rfl);all_goals (intro h;first|(exact absurd h (by decide))|((try simp only [go_sem,simprocAttr,hbz,Gi,dm,fk,jQ,l5,l6] at h);(try with_reducible intro K hK);simp only [go_sem,simprocAttr,hbz,Gi,dm,fk,jQ,l5,l6])))|((first|((with_reducible apply wL);exact rfl)|((with_reducible apply wM);exact rfl));all_goals (try ((with_reducible intro h);first|(exact absurd h (by decide))|(try simp only [go_sem,simprocAttr,hbz,Gi,dm,fk,jQ,l5,l6] at h))))|omega|((first|fail);try simp only [go_sem,simprocAttr,hbz,Gi,dm,fk,jQ,l5,l6])|(intro h)))
  all_goals (first|(exact hno rfl)|(exact (hno rfl).symm)|(refine ⟨z+1,⟨by omega,hyes rfl⟩, ?_,by omega⟩;refine Le.of ?_ ?_<;>simp [go_sem];done)|trace_state)
 have hb:decide ((k:Int)<g.n)=false:=decide_eq_false (by omega)
 obtain rfl:k=b.y.length:=by omega
 rw [fJ hin,Bool.true_and]
 repeat' (first|fail|((first|((with_reducible (first|apply oA|apply oB));exact rfl;intro K hK)|(refine hK _ ?_;clear hK K)|((with_reducible (first|apply oG|apply oH));iterate 3 exact rfl)|((with_reducible apply oI);(iterate 2 exact rfl);intro K hK)|(with_reducible (first|apply wI|apply wJ|apply wK)));try simp only [go_sem,simprocAttr,hb])|fail|(with_reducible (first|apply oC|apply oJ|exact oK|apply wA|apply wB|apply wC hX hC|apply wD hX hC|apply wE hX hC af|apply wF hX hC af|apply wG|apply wH|apply And.intro))|((with_reducible refine oD ?_ ?_);first|fail|kernel_rfl)|((with_reducible (first|apply oE|apply oF));(iterate 3 exact rfl);all_goals (intro h;first|(exact absurd h (by decide))|((try simp only [go_sem,simprocAttr,hb] at h);(try with_reducible intro K hK);simp only [go_sem,simprocAttr,hb])))|((first|((with_reducible apply wL);exact rfl)|((with_reducible apply wM);exact rfl));all_goals (try ((with_reducible intro h);first|(exact absurd h (by decide))|(try simp only [go_sem,simprocAttr,hb] at h))))|omega|((first|fail);try simp only [go_sem,simprocAttr,hb])|(intro h))
 refine aj (fun i:Nat=>i≤g.es.length∧∀j,j<i→CO g b j=true) (fun i=>⟨[(2, .ptr 2 0),(3, .ptr 3 0),(7,eN i)], [(2, .box [eN g.n, .d (sE g.es)]),(3, .box [.d (sI b.y), .d (sI b.fr), .d (sI b.to), .d (sI b.x)])]⟩) (fun i=>g.es.length - i) 0 ⟨by omega,fun j hj=>by omega⟩ ?_ ?_
 ·refine Le.of ?_ ?_<;>simp [go_sem,simprocAttr]
 rintro i ⟨hi,JA⟩
 rcases Nat.lt_or_ge i g.es.length with hil|IW
 rotate_left
 ·have dI:decide ((i:Int)<(g.es.length:Int))=false:=decide_eq_false (by omega)
  obtain rfl:i=g.es.length:=by omega
  rw [fJ JA]
  repeat' (first|fail|((first|((with_reducible (first|apply oA|apply oB));exact rfl;intro K hK)|(refine hK _ ?_;clear hK K)|((with_reducible (first|apply oG|apply oH));iterate 3 exact rfl)|((with_reducible apply oI);(iterate 2 exact rfl);intro K hK)|(with_reducible (first|apply wI|apply wJ|apply wK)));try simp only [go_sem,simprocAttr,dI])|fail|(with_reducible (first|apply oC|apply oJ|exact oK|apply wA|apply wB|apply wC hX hC|apply wD hX hC|apply wE hX hC af|apply wF hX hC af|apply wG|apply wH|apply And.intro))|((with_reducible refine oD ?_ ?_);first|fail|kernel_rfl)|((with_reducible (first|apply oE|apply oF));(iterate 3 exact rfl);all_goals (intro h;first|(exact absurd h (by decide))|((try simp only [go_sem,simprocAttr,dI] at h);(try with_reducible intro K hK);simp only [go_sem,simprocAttr,dI])))|((first|((with_reducible apply wL);exact rfl)|((with_reducible apply wM);exact rfl));all_goals (try ((with_reducible intro h);first|(exact absurd h (by decide))|(try simp only [go_sem,simprocAttr,dI] at h))))|omega|((first|fail);try simp only [go_sem,simprocAttr,dI])|(intro h))
 have dI:decide ((i:Int)<(g.es.length:Int))=true:=decide_eq_true (by omega)
 obtain ⟨t1,t2⟩:=c9 hm hil
 obtain ⟨s,hs⟩:∃s:Nat,(g.es.getD i (0,0)).1=s:=⟨(g.es.getD i (0,0)).1.toNat,by omega⟩
 obtain ⟨t,ht⟩:∃t:Nat,(g.es.getD i (0,0)).2=t:=⟨(g.es.getD i (0,0)).2.toNat,by omega⟩
 have hts:(tl g i).toNat=s:=by show ((g.es.getD i (0,0)).1).toNat=s;rw [hs];rfl
 have vi:(hd g i).toNat=t:=by show ((g.es.getD i (0,0)).2).toNat=t;rw [ht];rfl
 have kM:CO g b i=(dc b s t (b.x.getD i 0)&&(List.range g.es.length).all fun k=> !AD g b i k):=by unfold CO;rw [hts,vi]
 have hW:=fun x (hx:x<b.y.length)=>wW b x (b.x.getD i 0) (by omega) (by omega) (by omega)
 have JB:=hW s (by omega)
 have J4:=hW t (by omega)
 have mj:dc b s t (b.x.getD i 0)=(decide (b.y.getD s 0<b.y.getD t 0)&&hasB b s (b.x.getD i 0)&&hasB b t (b.x.getD i 0)&&(List.range b.y.length).all fun x=> !uX b (b.y.getD s 0) (b.y.getD t 0) (b.x.getD i 0) x):=rfl
 have D7:dc b s t (b.x.getD i 0)=false→(List.range g.es.length).all (CO g b)=false:=fun h1=>eX hil (by rw [kM,h1];rfl)
 generalize hq:b.x.getD i 0=q at*
 by_cases hc1:b.y.getD s 0<b.y.getD t 0
 rotate_left
 ·have dm:decide (b.y.getD t 0≤b.y.getD s 0)=true:=decide_eq_true (by omega)
  rw [D7 (by rw [mj,decide_eq_false hc1];rfl)]
  repeat' (first|fail|((first|((with_reducible (first|apply oA|apply oB));exact rfl;intro K hK)|(refine hK _ ?_;clear hK K)|((with_reducible (first|apply oG|apply oH));iterate 3 exact rfl)|((with_reducible apply oI);(iterate 2 exact rfl);intro K hK)|(with_reducible (first|apply wI|apply wJ|apply wK)));try simp only [go_sem,simprocAttr,dI,hs,ht,dm])|fail|(with_reducible (first|apply oC|apply oJ|exact oK|apply wA|apply wB|apply wC hX hC|apply wD hX hC|apply wE hX hC af|apply wF hX hC af|apply wG|apply wH|apply And.intro))|((with_reducible refine oD ?_ ?_);first|fail|kernel_rfl)|((with_reducible (first|apply oE|apply oF));(iterate 3 exact rfl);all_goals (intro h;first|(exact absurd h (by decide))|((try simp only [go_sem,simprocAttr,dI,hs,ht,dm] at h);(try with_reducible intro K hK);simp only [go_sem,simprocAttr,dI,hs,ht,dm])))|((first|((with_reducible apply wL);exact rfl)|((with_reducible apply wM);exact rfl));all_goals (try ((with_reducible intro h);first|(exact absurd h (by decide))|(try simp only [go_sem,simprocAttr,dI,hs,ht,dm] at h))))|omega|((first|fail);try simp only [go_sem,simprocAttr,dI,hs,ht,dm])|(intro h))
 have dm:decide (b.y.getD t 0≤b.y.getD s 0)=false:=decide_eq_false (by omega)
 rw [decide_eq_true hc1,Bool.true_and] at mj
 cases hvs:hasB b s q with
 |false=>
  rw [hvs] at JB
  rw [D7 (by rw [mj,hvs];rfl)]
  repeat' (first|fail|((first|((with_reducible (first|apply oA|apply oB));exact rfl;intro K hK)|(refine hK _ ?_;clear hK K)|((with_reducible (first|apply oG|apply oH));iterate 3 exact rfl)|((with_reducible apply oI);(iterate 2 exact rfl);intro K hK)|(with_reducible (first|apply wI|apply wJ|apply wK)));try simp only [go_sem,simprocAttr,aF,dI,hs,ht,dm,hq,l7])|fail|(with_reducible (first|apply oC|apply oJ|exact oK|apply wA|apply wB|apply wC hX hC|apply wD hX hC|apply wE hX hC af|apply wF hX hC af|apply wG|apply wH|apply And.intro))|((with_reducible refine oD ?_ ?_);first|fail|kernel_rfl)|((with_reducible (first|apply oE|apply oF));(iterate 3 exact rfl);all_goals (intro h;first|(exact absurd h (by decide))|((try simp only [go_sem,simprocAttr,aF,dI,hs,ht,dm,hq,l7] at h);(try with_reducible intro K hK);simp only [go_sem,simprocAttr,aF,dI,hs,ht,dm,hq,l7])))|((first|((with_reducible apply wL);exact rfl)|((with_reducible apply wM);exact rfl));all_goals (try ((with_reducible intro h);first|(exact absurd h (by decide))|(try simp only [go_sem,simprocAttr,aF,dI,hs,ht,dm,hq,l7] at h))))|omega|((first|first|refine aa hX hC hP (JB) rfl rfl rfl (by simp only [go_sem,simprocAttr,aF,dI,hs,ht,dm,hq,l7]) rfl ?_);try simp only [go_sem,simprocAttr,aF,dI,hs,ht,dm,hq,l7])|(intro h))
 |true=>
 rw [hvs] at JB mj
 cases EE:hasB b t q with
 |false=>
  rw [EE] at J4
  rw [D7 (by rw [mj,EE];rfl)]
  repeat' (first|fail|((first|((with_reducible (first|apply oA|apply oB));exact rfl;intro K hK)|(refine hK _ ?_;clear hK K)|((with_reducible (first|apply oG|apply oH));iterate 3 exact rfl)|((with_reducible apply oI);(iterate 2 exact rfl);intro K hK)|(with_reducible (first|apply wI|apply wJ|apply wK)));try simp only [go_sem,simprocAttr,aF,dI,hs,ht,dm,hq,l7])|fail|(with_reducible (first|apply oC|apply oJ|exact oK|apply wA|apply wB|apply wC hX hC|apply wD hX hC|apply wE hX hC af|apply wF hX hC af|apply wG|apply wH|apply And.intro))|((with_reducible refine oD ?_ ?_);first|fail|kernel_rfl)|((with_reducible (first|apply oE|apply oF));(iterate 3 exact rfl);all_goals (intro h;first|(exact absurd h (by decide))|((try simp only [go_sem,simprocAttr,aF,dI,hs,ht,dm,hq,l7] at h);(try with_reducible intro K hK);simp only [go_sem,simprocAttr,aF,dI,hs,ht,dm,hq,l7])))|((first|((with_reducible apply wL);exact rfl)|((with_reducible apply wM);exact rfl));all_goals (try ((with_reducible intro h);first|(exact absurd h (by decide))|(try simp only [go_sem,simprocAttr,aF,dI,hs,ht,dm,hq,l7] at h))))|omega|((first|first|refine aa hX hC hP (JB) rfl rfl rfl (by simp only [go_sem,simprocAttr,aF,dI,hs,ht,dm,hq,l7]) rfl ?_|refine aa hX hC hP (J4) rfl rfl rfl (by simp only [go_sem,simprocAttr,aF,dI,hs,ht,dm,hq,l7]) rfl ?_);try simp only [go_sem,simprocAttr,aF,dI,hs,ht,dm,hq,l7])|(intro h))
 |true=>
 rw [EE] at J4 mj
 rw [Bool.true_and,Bool.true_and] at mj
 repeat' (first|fail|((first|((with_reducible (first|apply oA|apply oB));exact rfl;intro K hK)|(refine hK _ ?_;clear hK K)|((with_reducible (first|apply oG|apply oH));iterate 3 exact rfl)|((with_reducible apply oI);(iterate 2 exact rfl);intro K hK)|(with_reducible (first|apply wI|apply wJ|apply wK)));try simp only [go_sem,simprocAttr,aF,dI,hs,ht,dm,hq,l7])|fail|(with_reducible (first|apply oC|apply oJ|exact oK|apply wA|apply wB|apply wC hX hC|apply wD hX hC|apply wE hX hC af|apply wF hX hC af|apply wG|apply wH|apply And.intro))|((with_reducible refine oD ?_ ?_);first|fail|kernel_rfl)|((with_reducible (first|apply oE|apply oF));(iterate 3 exact rfl);all_goals (intro h;first|(exact absurd h (by decide))|((try simp only [go_sem,simprocAttr,aF,dI,hs,ht,dm,hq,l7] at h);(try with_reducible intro K hK);simp only [go_sem,simprocAttr,aF,dI,hs,ht,dm,hq,l7])))|((first|((with_reducible apply wL);exact rfl)|((with_reducible apply wM);exact rfl));all_goals (try ((with_reducible intro h);first|(exact absurd h (by decide))|(try simp only [go_sem,simprocAttr,aF,dI,hs,ht,dm,hq,l7] at h))))|omega|((first|first|refine aa hX hC hP (JB) rfl rfl rfl (by simp only [go_sem,simprocAttr,aF,dI,hs,ht,dm,hq,l7]) rfl ?_|refine aa hX hC hP (J4) rfl rfl rfl (by simp only [go_sem,simprocAttr,aF,dI,hs,ht,dm,hq,l7]) rfl ?_);try simp only [go_sem,simprocAttr,aF,dI,hs,ht,dm,hq,l7])|(intro h))
 refine aj (fun x:Nat=>x≤b.y.length∧∀j,j<x→uX b (b.y.getD s 0) (b.y.getD t 0) q j=false) (fun x=>⟨[(2, .ptr 2 0),(3, .ptr 3 0),(7,eN i),(8, .ptr 8 0),(9,eN x)], [(2, .box [eN g.n, .d (sE g.es)]),(3, .box [.d (sI b.y), .d (sI b.fr), .d (sI b.to), .d (sI b.x)]),(8, .box [eN s,eN t])]⟩) (fun x=>b.y.length - x) 0 ⟨by omega,fun j hj=>by omega⟩ ?_ ?_
 ·refine Le.of ?_ ?_<;>simp [go_sem,simprocAttr]
 rintro x ⟨hx,JC⟩
 rcases Nat.lt_or_ge x b.y.length with hxl|CZ
 ·have mo:decide ((x:Int)<g.n)=true:=decide_eq_true (by omega)
  have NA:=hW x hxl
  have hap:uX b (b.y.getD s 0) (b.y.getD t 0) q x=(decide (b.y.getD s 0<b.y.getD x 0)&&decide (b.y.getD x 0<b.y.getD t 0)&&hasB b x q):=rfl
  have hno:uX b (b.y.getD s 0) (b.y.getD t 0) q x=true→(List.range g.es.length).all (CO g b)=false:=fun h1=>D7 (by rw [mj];exact eX (f:=fun x=> !uX b (b.y.getD s 0) (b.y.getD t 0) q x) hxl (by rw [h1];rfl))
  have hyes:uX b (b.y.getD s 0) (b.y.getD t 0) q x=false→∀j,j<x+1→uX b (b.y.getD s 0) (b.y.getD t 0) q j=false:=fun h1 j hj=>by
   by_cases sq:j=x
   ·subst sq;exact h1
   ·exact JC j (by omega)
  generalize uX b (b.y.getD s 0) (b.y.getD t 0) q x=av at*
  cases fk:decide (b.y.getD s 0<b.y.getD x 0)<;>cases jQ:decide (b.y.getD x 0<b.y.getD t 0)<;>cases D8:hasB b x q<;>rw [fk,jQ,D8] at hap<;>simp only [Bool.and_true,Bool.and_false,Bool.true_and,Bool.false_and] at hap<;>subst hap<;>rw [D8] at NA
  all_goals (
  repeat' (first|fail|((first|((with_reducible (first|apply oA|apply oB));exact rfl;intro K hK)|(refine hK _ ?_;clear hK K)|((with_reducible (first|apply oG|apply oH));iterate 3 exact rfl)|((with_reducible apply oI);(iterate 2 exact rfl);intro K hK)|(with_reducible (first|apply wI|apply wJ|apply wK)));try simp only [go_sem,simprocAttr,aF,mo,fk,jQ,hq,l7])|fail|(with_reducible (first|apply oC|apply oJ|exact oK|apply wA|apply wB|apply wC hX hC|apply wD hX hC|apply wE hX hC af|apply wF hX hC af|apply wG|apply wH|apply And.intro))|((with_reducible refine oD ?_ ?_);first|fail|kernel_rfl)|((with_reducible (first|apply oE|apply oF));(iterate 3 exact rfl);all_goals (intro h;first|(exact absurd h (by decide))|((try simp only [go_sem,simprocAttr,aF,mo,fk,jQ,hq,l7] at h);(try with_reducible intro K hK);simp only [go_sem,simprocAttr,aF,mo,fk,jQ,hq,l7])))|((first|((with_reducible apply wL);exact rfl)|((with_reducible apply wM);exact rfl));all_goals (try ((with_reducible intro h);first|(exact absurd h (by decide))|(try simp only [go_sem,simprocAttr,aF,mo,fk,jQ,hq,l7] at h))))|omega|((first|first|refine aa hX hC hP (NA) rfl rfl rfl (by simp only [go_sem,simprocAttr,aF,mo,fk,jQ,hq,l7]) rfl ?_);try simp only [go_sem,simprocAttr,aF,mo,fk,jQ,hq,l7])|(intro h)))
  all_goals (first|(exact hno rfl)|(exact (hno rfl).symm)|(refine ⟨x+1,⟨by omega,hyes rfl⟩, ?_,by omega⟩;refine Le.of ?_ ?_<;>simp [go_sem];done)|trace_state)
 have mo:decide ((x:Int)<g.n)=false:=decide_eq_false (by omega)
 obtain rfl:x=b.y.length:=by omega
 have ME:dc b s t q=true:=by rw [mj];exact fJ fun j hj=>by rw [JC j hj];rfl
 rw [ME,Bool.true_and] at kM
 repeat' (first|fail|((first|((with_reducible (first|apply oA|apply oB));exact rfl;intro K hK)|(refine hK _ ?_;clear hK K)|((with_reducible (first|apply oG|apply oH));iterate 3 exact rfl)|((with_reducible apply oI);(iterate 2 exact rfl);intro K hK)|(with_reducible (first|apply wI|apply wJ|apply wK)));try simp only [go_sem,simprocAttr,mo])|fail|(with_reducible (first|apply oC|apply oJ|exact oK|apply wA|apply wB|apply wC hX hC|apply wD hX hC|apply wE hX hC af|apply wF hX hC af|apply wG|apply wH|apply And.intro))|((with_reducible refine oD ?_ ?_);first|fail|kernel_rfl)|((with_reducible (first|apply oE|apply oF));(iterate 3 exact rfl);all_goals (intro h;first|(exact absurd h (by decide))|((try simp only [go_sem,simprocAttr,mo] at h);(try with_reducible intro K hK);simp only [go_sem,simprocAttr,mo])))|((first|((with_reducible apply wL);exact rfl)|((with_reducible apply wM);exact rfl));all_goals (try ((with_reducible intro h);first|(exact absurd h (by decide))|(try simp only [go_sem,simprocAttr,mo] at h))))|omega|((first|fail);try simp only [go_sem,simprocAttr,mo])|(intro h))
 refine aj (fun k:Nat=>k≤g.es.length∧∀j,j<k→AD g b i j=false) (fun k=>⟨[(2, .ptr 2 0),(3, .ptr 3 0),(7,eN i),(8, .ptr 8 0),(10,eN k)], [(2, .box [eN g.n, .d (sE g.es)]),(3, .box [.d (sI b.y), .d (sI b.fr), .d (sI b.to), .d (sI b.x)]),(8, .box [eN s,eN t])]⟩) (fun k=>g.es.length - k) 0 ⟨by omega,fun j hj=>by omega⟩ ?_ ?_
 ·refine Le.of ?_ ?_<;>simp [go_sem,simprocAttr]
 rintro k ⟨hk2,CM⟩
 rcases Nat.lt_or_ge k g.es.length with bD|xo
 rotate_left
 ·have nP:decide ((k:Int)<(g.es.length:Int))=false:=decide_eq_false (by omega)
  obtain rfl:k=g.es.length:=by omega
  repeat' (first|fail|((first|((with_reducible (first|apply oA|apply oB));exact rfl;intro K hK)|(refine hK _ ?_;clear hK K)|((with_reducible (first|apply oG|apply oH));iterate 3 exact rfl)|((with_reducible apply oI);(iterate 2 exact rfl);intro K hK)|(with_reducible (first|apply wI|apply wJ|apply wK)));try simp only [go_sem,simprocAttr,nP])|fail|(with_reducible (first|apply oC|apply oJ|exact oK|apply wA|apply wB|apply wC hX hC|apply wD hX hC|apply wE hX hC af|apply wF hX hC af|apply wG|apply wH|apply And.intro))|((with_reducible refine oD ?_ ?_);first|fail|kernel_rfl)|((with_reducible (first|apply oE|apply oF));(iterate 3 exact rfl);all_goals (intro h;first|(exact absurd h (by decide))|((try simp only [go_sem,simprocAttr,nP] at h);(try with_reducible intro K hK);simp only [go_sem,simprocAttr,nP])))|((first|((with_reducible apply wL);exact rfl)|((with_reducible apply wM);exact rfl));all_goals (try ((with_reducible intro h);first|(exact absurd h (by decide))|(try simp only [go_sem,simprocAttr,nP] at h))))|omega|((first|fail);try simp only [go_sem,simprocAttr,nP])|(intro h))
  refine ⟨i+1,⟨by omega,fun j hj=> ?_⟩, ?_,by omega⟩
  ·by_cases hjk:j=i
   ·subst hjk
    rw [kM,fJ (f:=fun z=> !AD g b j z) (fun z hz=>by rw [CM z hz];rfl)]
   ·exact JA j (by omega)
  ·refine Le.of ?_ ?_<;>simp [go_sem,simprocAttr,nP]
 have nP:decide ((k:Int)<(g.es.length:Int))=true:=decide_eq_true (by omega)
 obtain ⟨t3,t4⟩:=c9 hm (k:=k) (by omega)
 obtain ⟨s',hs'⟩:∃s':Nat,(g.es.getD k (0,0)).1=s':=⟨(g.es.getD k (0,0)).1.toNat,by omega⟩
 obtain ⟨t',ht'⟩:∃t':Nat,(g.es.getD k (0,0)).2=t':=⟨(g.es.getD k (0,0)).2.toNat,by omega⟩
 have FO:(tl g k).toNat=s':=by show ((g.es.getD k (0,0)).1).toNat=s';rw [hs'];rfl
 have FP:(hd g k).toNat=t':=by show ((g.es.getD k (0,0)).2).toNat=t';rw [ht'];rfl
 have hap:AD g b i k=(!decide ((k:Int)=(i:Int))&&decide (b.x.getD k 0=q)&& !(decide (b.y.getD t 0≤b.y.getD s' 0)||decide (b.y.getD t' 0≤b.y.getD s 0))):=by unfold AD;rw [hts,vi,FO,FP,hq]
 have hno:AD g b i k=true→(List.range g.es.length).all (CO g b)=false:=fun h1=>eX hil (by rw [kM];exact eX (f:=fun z=> !AD g b i z) bD (by rw [h1];rfl))
 have hyes:AD g b i k=false→∀j,j<k+1→AD g b i j=false:=fun h1 j hj=>by
  by_cases sq:j=k
  ·subst sq;exact h1
  ·exact CM j (by omega)
 generalize AD g b i k=av at*
 cases fk:decide ((k:Int)=(i:Int))<;>cases jQ:decide (b.x.getD k 0=q)<;>cases D8:decide (b.y.getD t 0≤b.y.getD s' 0)<;>cases Gj:decide (b.y.getD t' 0≤b.y.getD s 0)<;>rw [fk,jQ,D8,Gj] at hap<;>simp only [Bool.and_true,Bool.and_false,Bool.true_and,Bool.false_and,Bool.not_true,Bool.not_false,Bool.or_true,Bool.or_false] at hap<;>subst hap
 all_goals (
 repeat' (first|fail|((first|((with_reducible (first|apply oA|apply oB));exact rfl;intro K hK)|(refine hK _ ?_;clear hK K)|((with_reducible (first|apply oG|apply oH));iterate 3 exact rfl)|((with_reducible apply oI);(iterate 2 exact rfl);intro K hK)|(with_reducible (first|apply wI|apply wJ|apply wK)));try simp only [go_sem,simprocAttr,nP,hs',ht',fk,jQ,D8,Gj,hq,l7])|fail|(with_reducible (first|apply oC|apply oJ|exact oK|apply wA|apply wB|apply wC hX hC|apply wD hX hC|apply wE hX hC af|apply wF hX hC af|apply wG|apply wH|apply And.intro))|((with_reducible refine oD ?_ ?_);first|fail|kernel_rfl)|((with_reducible (first|apply oE|apply oF));(iterate 3 exact rfl);all_goals (intro h;first|(exact absurd h (by decide))|((try simp only [go_sem,simprocAttr,nP,hs',ht',fk,jQ,D8,Gj,hq,l7] at h);(try with_reducible intro K hK);simp only [go_sem,simprocAttr,nP,hs',ht',fk,jQ,D8,Gj,hq,l7])))|((first|((with_reducible apply wL);exact rfl)|((with_reducible apply wM);exact rfl));all_goals (try ((with_reducible intro h);first|(exact absurd h (by decide))|(try simp only [go_sem,simprocAttr,nP,hs',ht',fk,jQ,D8,Gj,hq,l7] at h))))|omega|((first|fail);try simp only [go_sem,simprocAttr,nP,hs',ht',fk,jQ,D8,Gj,hq,l7])|(intro h)))
 all_goals (first|(exact hno rfl)|(exact (hno rfl).symm)|(refine ⟨k+1,⟨by omega,hyes rfl⟩, ?_,by omega⟩;refine Le.of ?_ ?_<;>simp [go_sem];done)|trace_state)
end Go.Ab
end
section
namespace Go.Ab
open Go.Proofs
attribute [local congr] ACall.congr
set_option maxRecDepth 20000
set_option maxHeartbeats 8000000
def za (g:Gr) (b:Br):Bool:=decide (80<(g.es.length:Int))||decide (70<(b.y.length:Int))||decide (70<(b.fr.length:Int))||decide (70<(b.to.length:Int))||decide (80<(b.x.length:Int))
theorem uY (g:Gr) (b:Br):Spec Tryz.prog 39 (Args [eG g,aF b]) [] (eB (za g b)) []:=by
 have hf:za g b=(decide (80<(g.es.length:Int))||decide (70<(b.y.length:Int))||decide (70<(b.fr.length:Int))||decide (70<(b.to.length:Int))||decide (80<(b.x.length:Int))):=rfl
 cases h1:decide (80<(g.es.length:Int))<;>cases h2:decide (70<(b.y.length:Int))<;>cases h3:decide (70<(b.fr.length:Int))<;>cases h4:decide (70<(b.to.length:Int))<;>rw [h1,h2,h3,h4] at hf<;>simp only [Bool.or_true,Bool.or_false,Bool.true_or,Bool.false_or] at hf<;>rw [hf]
 all_goals (
 (refine Spec.intro (C:=T.cfg [] []) (rs:= [.t 4]) (T.ak _ _) Tryz.func39 rfl rfl Tryz.ntmps39 Tryz.results39 (by simp [AObj.isNest]) (by simp [AObj.isNest]) (by kernel_rfl) ?_;intro X hX hP hC aK aL vals hA;refine ⟨_,by simp,hA, ?_⟩;have af:X.P.follows .mixedOrders=true:=(by rw [hP];exact T.mixed);clear aK aL)
 repeat' (first|fail|((first|((with_reducible (first|apply oA|apply oB));exact rfl;intro K hK)|(refine hK _ ?_;clear hK K)|((with_reducible (first|apply oG|apply oH));iterate 3 exact rfl)|((with_reducible apply oI);(iterate 2 exact rfl);intro K hK)|(with_reducible (first|apply wI|apply wJ|apply wK)));try simp only [go_sem,simprocAttr,aF,h1,h2,h3,h4])|fail|(with_reducible (first|apply oC|apply oJ|exact oK|apply wA|apply wB|apply wC hX hC|apply wD hX hC|apply wE hX hC af|apply wF hX hC af|apply wG|apply wH|apply And.intro))|((with_reducible refine oD ?_ ?_);first|fail|kernel_rfl)|((with_reducible (first|apply oE|apply oF));(iterate 3 exact rfl);all_goals (intro h;first|(exact absurd h (by decide))|((try simp only [go_sem,simprocAttr,aF,h1,h2,h3,h4] at h);(try with_reducible intro K hK);simp only [go_sem,simprocAttr,aF,h1,h2,h3,h4])))|((first|((with_reducible apply wL);exact rfl)|((with_reducible apply wM);exact rfl));all_goals (try ((with_reducible intro h);first|(exact absurd h (by decide))|(try simp only [go_sem,simprocAttr,aF,h1,h2,h3,h4] at h))))|omega|((first|fail);try simp only [go_sem,simprocAttr,aF,h1,h2,h3,h4])|(intro h)))
theorem MF:MB D5 Gg=⟨[0,1,1,2], [0,0,1,0], [1,0,1,1], [0,0,1,1]⟩:=by rfl
theorem MG:bX D5 ⟨[0,1,1,2], [0,0,1,0], [1,0,1,1], [0,0,1,1]⟩=true:=by rfl
theorem JD:cj D5 Gg:=(tr Jw (b:=true) rfl).1
theorem iI:Spec Tryz.prog 35 (Args []) [] (eB true) []:=by
 have JW:=Aq D5 Gg (by decide) JD (by decide) (by decide) (by decide) true Jw
 rw [MF] at JW
 have NB:=jK D5 ⟨[0,1,1,2], [0,0,1,0], [1,0,1,1], [0,0,1,1]⟩ (by decide) (by decide) (by decide)
 rw [MG] at NB
 have e1:D5.es.map rE= [[.sc (.int .i64 0), .sc (.int .i64 1)], [.sc (.int .i64 1), .sc (.int .i64 3)], [.sc (.int .i64 0), .sc (.int .i64 2)], [.sc (.int .i64 2), .sc (.int .i64 3)]]:=rfl
 have e2:Gg.ord.map rI= [[.sc (.int .i64 0)], [.sc (.int .i64 1)], [.sc (.int .i64 2)], [.sc (.int .i64 3)]]:=rfl
 have e3:vI Gg.outs= [[.sl 1 [[.sc (.int .i64 0)], [.sc (.int .i64 2)]]], [.sl 1 [[.sc (.int .i64 1)]]], [.sl 1 [[.sc (.int .i64 3)]]], [.sl 1 []]]:=rfl
 have e4:D5.n=4:=rfl
 (refine Spec.intro (C:=T.cfg [] []) (rs:= [.t 0]) (T.ak _ _) Tryz.func35 rfl rfl Tryz.ntmps35 Tryz.results35 (by simp [AObj.isNest]) (by simp [AObj.isNest]) (by kernel_rfl) ?_;intro X hX hP hC aK aL vals hA;refine ⟨_,by simp,hA, ?_⟩;have af:X.P.follows .mixedOrders=true:=(by rw [hP];exact T.mixed);clear aK aL)
 repeat' (first|fail|((first|((with_reducible (first|apply oA|apply oB));exact rfl;intro K hK)|(refine hK _ ?_;clear hK K)|((with_reducible (first|apply oG|apply oH));iterate 3 exact rfl)|((with_reducible apply oI);(iterate 2 exact rfl);intro K hK)|(with_reducible (first|apply wI|apply wJ|apply wK)));try simp only [go_sem,simprocAttr,aF,e1,e2,e3,e4,List.map_cons,List.map_nil,rI,decide_true])|fail|(with_reducible (first|apply oC|apply oJ|exact oK|apply wA|apply wB|apply wC hX hC|apply wD hX hC|apply wE hX hC af|apply wF hX hC af|apply wG|apply wH|apply And.intro))|((with_reducible refine oD ?_ ?_);first|fail|kernel_rfl)|((with_reducible (first|apply oE|apply oF));(iterate 3 exact rfl);all_goals (intro h;first|(exact absurd h (by decide))|((try simp only [go_sem,simprocAttr,aF,e1,e2,e3,e4,List.map_cons,List.map_nil,rI,decide_true] at h);(try with_reducible intro K hK);simp only [go_sem,simprocAttr,aF,e1,e2,e3,e4,List.map_cons,List.map_nil,rI,decide_true])))|((first|((with_reducible apply wL);exact rfl)|((with_reducible apply wM);exact rfl));all_goals (try ((with_reducible intro h);first|(exact absurd h (by decide))|(try simp only [go_sem,simprocAttr,aF,e1,e2,e3,e4,List.map_cons,List.map_nil,rI,decide_true] at h))))|omega|((first|first|(refine aS hX hC hP (JW) rfl rfl rfl ?_ ?_ rfl ?_;iterate 2 (focus (simp only [go_sem,simprocAttr,aF,e1,e2,e3,e4,List.map_cons,List.map_nil,rI,decide_true];done)))|(refine aS hX hC hP (iA [0,1,1,2] [0,1,1,2] (by decide)) rfl rfl rfl ?_ ?_ rfl ?_;iterate 2 (focus (simp only [go_sem,simprocAttr,aF,e1,e2,e3,e4,List.map_cons,List.map_nil,rI,decide_true];done)))|(refine aS hX hC hP (iA [1,0,1,1] [1,0,1,1] (by decide)) rfl rfl rfl ?_ ?_ rfl ?_;iterate 2 (focus (simp only [go_sem,simprocAttr,aF,e1,e2,e3,e4,List.map_cons,List.map_nil,rI,decide_true];done)))|(refine aS hX hC hP (iA [0,0,1,1] [0,0,1,1] (by decide)) rfl rfl rfl ?_ ?_ rfl ?_;iterate 2 (focus (simp only [go_sem,simprocAttr,aF,e1,e2,e3,e4,List.map_cons,List.map_nil,rI,decide_true];done)))|(refine aS hX hC hP (NB) rfl rfl rfl ?_ ?_ rfl ?_;iterate 2 (focus (simp only [go_sem,simprocAttr,aF,e1,e2,e3,e4,List.map_cons,List.map_nil,rI,decide_true];done))));try simp only [go_sem,simprocAttr,aF,e1,e2,e3,e4,List.map_cons,List.map_nil,rI,decide_true])|(intro h))
end Go.Ab
end
section
namespace Go.Ab
open Go.Proofs
set_option maxRecDepth 10000
structure sg (g:Gr) (b:Br):Prop where
 w6:(bH g).1=0
 ly:(b.y.length:Int)=g.n
 lf:(b.fr.length:Int)=g.n
 lt:(b.to.length:Int)=g.n
 lx:b.x.length=g.es.length
 NC:∀v,v<b.y.length→b.fr.getD v 0≤b.to.getD v 0
 apart:∀v,v<b.y.length→∀z,z<v→¬(b.y.getD z 0=b.y.getD v 0∧b.fr.getD z 0≤b.to.getD v 0∧b.fr.getD v 0≤b.to.getD z 0)
 up:∀i,i<g.es.length→b.y.getD (tl g i).toNat 0<b.y.getD (hd g i).toNat 0∧(b.fr.getD (tl g i).toNat 0≤b.x.getD i 0∧b.x.getD i 0≤b.to.getD (tl g i).toNat 0)∧(b.fr.getD (hd g i).toNat 0≤b.x.getD i 0∧b.x.getD i 0≤b.to.getD (hd g i).toNat 0)
 clear:∀i,i<g.es.length→∀v,v<b.y.length→¬(b.y.getD (tl g i).toNat 0<b.y.getD v 0∧b.y.getD v 0<b.y.getD (hd g i).toNat 0∧b.fr.getD v 0≤b.x.getD i 0∧b.x.getD i 0≤b.to.getD v 0)
 EF:∀i,i<g.es.length→∀k,k<i→¬(b.x.getD k 0=b.x.getD i 0∧b.y.getD (tl g i).toNat 0<b.y.getD (hd g k).toNat 0∧b.y.getD (tl g k).toNat 0<b.y.getD (hd g i).toNat 0)
theorem oL {g:Gr} {b:Br} :bX g b=true↔sg g b:=by
 unfold bX lH jJ
 simp only [List.all_eq_true,List.mem_range,Bool.and_eq_true,decide_eq_true_eq,FN,CJ,C2,As,dc,uX,hasB,Bool.not_eq_true',Bool.and_eq_false_iff,decide_eq_false_iff_not]
 constructor
 ·rintro ⟨⟨⟨h1,⟨⟨h2,h3⟩,h4⟩,h5⟩,h6⟩,h7⟩
  exact ⟨h1,h2,h3,h4,by omega,fun v hv=>(h6 v hv).1,fun v hv z hz=>by have:=(h6 v hv).2 z hz;omega,fun i hi=>by have:=(h7 i hi).1.1;omega,fun i hi v hv=>by have:=(h7 i hi).1.2 v hv;omega,fun i hi k hk=>by have:=(h7 i hi).2 k hk;omega⟩
 ·rintro ⟨h1,h2,h3,h4,h5,h6,h7,h8,h9,L0⟩
  exact ⟨⟨⟨h1,⟨⟨h2,h3⟩,h4⟩,by omega⟩,fun v hv=>⟨h6 v hv,fun z hz=>by have:=h7 v hv z hz;omega⟩⟩,fun i hi=>⟨⟨by have:=h8 i hi;omega,fun v hv=>by have:=h9 i hi v hv;omega⟩,fun k hk=>by have:=L0 i hi k hk;omega⟩⟩
def iu (b:Br):Br:=⟨b.y.map fun y=>3*y - 7,(List.range b.y.length).map fun v=>5*b.fr.getD v 0+1,(List.range b.y.length).map fun v=>5*b.to.getD v 0+2,b.x.map fun x=>5*x+1⟩
def jR (b:Br):Br:=⟨b.y,(List.range b.y.length).map fun v=> -b.to.getD v 0,(List.range b.y.length).map fun v=> -b.fr.getD v 0,b.x.map fun x=> -x⟩
theorem oM {f:Int→Int} {l:List Int} {i:Nat} (h:i<l.length):(l.map f).getD i 0=f (l.getD i 0):=by
 rw [List.getD_eq_getElem?_getD,List.getElem?_map,List.getElem?_eq_getElem h,List.getD_eq_getElem?_getD,List.getElem?_eq_getElem h];rfl
theorem nE {f:Nat→Int} {n i:Nat} (h:i<n):((List.range n).map f).getD i 0=f i:=by
 rw [List.getD_eq_getElem?_getD,List.getElem?_map,List.getElem?_range h];rfl
theorem x6 {g:Gr} {b:Br} (h:sg g b):sg g (iu b):=by
 have hm:=aC h.w6
 have hy:∀v,v<b.y.length→(iu b).y.getD v 0=3*b.y.getD v 0 - 7:=fun v hv=>oM (f:=fun y=>3*y - 7) hv
 have hf:∀v,v<b.y.length→(iu b).fr.getD v 0=5*b.fr.getD v 0+1:=fun v hv=>nE hv
 have ht:∀v,v<b.y.length→(iu b).to.getD v 0=5*b.to.getD v 0+2:=fun v hv=>nE hv
 have hx:∀i,i<g.es.length→(iu b).x.getD i 0=5*b.x.getD i 0+1:=fun i hi=>oM (f:=fun x=>5*x+1) (by have:=h.lx;omega)
 have hl:(iu b).y.length=b.y.length:=by simp [iu]
 have ly:=h.ly
 have hT:=fun i (hi:i<g.es.length)=>bw hm hi
 have hH:=fun i (hi:i<g.es.length)=>bL hm hi
 refine ⟨h.w6,by rw [hl];exact h.ly,by simp [iu];exact h.ly,by simp [iu];exact h.ly,by simp [iu];exact h.lx,fun v hv=> ?_,fun v hv z hz=> ?_,fun i hi=> ?_,fun i hi v hv=> ?_,fun i hi k hk=> ?_⟩
 ·rw [hl] at hv;rw [hf v hv,ht v hv];have:=h.NC v hv;omega
 ·rw [hl] at hv;rw [hy v hv,hy z (by omega),hf v hv,hf z (by omega),ht v hv,ht z (by omega)];have:=h.apart v hv z hz;omega
 ·have t1:=hT i hi;have t2:=hH i hi
  rw [hy _ (by omega),hy _ (by omega),hf _ (by omega),hf _ (by omega),ht _ (by omega),ht _ (by omega),hx i hi];have:=h.up i hi;omega
 ·rw [hl] at hv
  have t1:=hT i hi;have t2:=hH i hi
  rw [hy (tl g i).toNat (by omega),hy (hd g i).toNat (by omega),hy v hv,hf v hv,ht v hv,hx i hi];have:=h.clear i hi v hv;omega
 ·have t1:=hT i hi;have t2:=hH i hi;have t3:=hT k (by omega);have t4:=hH k (by omega)
  rw [hy _ (by omega),hy _ (by omega),hy _ (by omega),hy _ (by omega),hx i hi,hx k (by omega)];have:=h.EF i hi k hk;omega
theorem x7 {g:Gr} {b:Br} (h:sg g b):sg g (jR b):=by
 have hm:=aC h.w6
 have hf:∀v,v<b.y.length→(jR b).fr.getD v 0= -b.to.getD v 0:=fun v hv=>nE hv
 have ht:∀v,v<b.y.length→(jR b).to.getD v 0= -b.fr.getD v 0:=fun v hv=>nE hv
 have hx:∀i,i<g.es.length→(jR b).x.getD i 0= -b.x.getD i 0:=fun i hi=>oM (f:=fun x=> -x) (by have:=h.lx;omega)
 have hy:(jR b).y=b.y:=rfl
 have ly:=h.ly
 have hT:=fun i (hi:i<g.es.length)=>bw hm hi
 have hH:=fun i (hi:i<g.es.length)=>bL hm hi
 refine ⟨h.w6,h.ly,by simp [jR];exact h.ly,by simp [jR];exact h.ly,by simp [jR];exact h.lx,fun v hv=> ?_,fun v hv z hz=> ?_,fun i hi=> ?_,fun i hi v hv=> ?_,fun i hi k hk=> ?_⟩
 ·rw [hy] at hv;rw [hf v hv,ht v hv];have:=h.NC v hv;omega
 ·rw [hy] at hv;rw [hy,hf v hv,hf z (by omega),ht v hv,ht z (by omega)];have:=h.apart v hv z hz;omega
 ·have t1:=hT i hi;have t2:=hH i hi
  rw [hy,hf _ (by omega),hf _ (by omega),ht _ (by omega),ht _ (by omega),hx i hi];have:=h.up i hi;omega
 ·rw [hy] at hv
  rw [hy,hf v hv,ht v hv,hx i hi];have:=h.clear i hi v hv;omega
 ·rw [hy,hx i hi,hx k (by omega)];have:=h.EF i hi k hk;omega
end Go.Ab
end
section
namespace Go.Ab
open Go.Proofs
attribute [local congr] ACall.congr
set_option maxRecDepth 20000
set_option maxHeartbeats 32000000
def x8 (l:List Int):Prop:=∀i,i<l.length→ -1073741824≤l.getD i 0∧l.getD i 0≤1073741824
def tJ (b:Br) (k:Nat):List Int:=match k with|0=>b.y|1=>b.fr|2=>b.to|_=>b.x
theorem si {f:Int→Int} {l:List Int} {k:Nat} (h:k<l.length):((l.take (k+1)).map f).map rI=((l.take k).map f).map rI++ [rI (f (l.getD k 0))]:=by
 rw [mc (d:=0) h,List.map_append];rfl
theorem qa {f:Nat→Int} {k:Nat} :((List.range (k+1)).map f).map rI=((List.range k).map f).map rI++ [rI (f k)]:=by simp [List.range_succ]
theorem sj (g:Gr) (b:Br) (hl:g.es.length≤9223372036854775807):Spec Tryz.prog 11 (Args [eG g,aF b]) [] (eB true) []:=by
 have JE:=uY g b
 cases dM:za g b with
 |true=>
  rw [dM] at JE
  (refine Spec.intro (C:=T.cfg [] []) (rs:= [.t 4]) (T.ak _ _) Tryz.func11 rfl rfl Tryz.ntmps11 Tryz.results11 (by simp [AObj.isNest]) (by simp [AObj.isNest]) (by kernel_rfl) ?_;intro X hX hP hC aK aL vals hA;refine ⟨_,by simp,hA, ?_⟩;have af:X.P.follows .mixedOrders=true:=(by rw [hP];exact T.mixed);clear aK aL)
  repeat' (first|fail|((first|((with_reducible (first|apply oA|apply oB));exact rfl;intro K hK)|(refine hK _ ?_;clear hK K)|((with_reducible (first|apply oG|apply oH));iterate 3 exact rfl)|((with_reducible apply oI);(iterate 2 exact rfl);intro K hK)|(with_reducible (first|apply wI|apply wJ|apply wK)));try simp only [go_sem,simprocAttr,aF])|fail|(with_reducible (first|apply oC|apply oJ|exact oK|apply wA|apply wB|apply wC hX hC|apply wD hX hC|apply wE hX hC af|apply wF hX hC af|apply wG|apply wH|apply And.intro))|((with_reducible refine oD ?_ ?_);first|fail|kernel_rfl)|((with_reducible (first|apply oE|apply oF));(iterate 3 exact rfl);all_goals (intro h;first|(exact absurd h (by decide))|((try simp only [go_sem,simprocAttr,aF] at h);(try with_reducible intro K hK);simp only [go_sem,simprocAttr,aF])))|((first|((with_reducible apply wL);exact rfl)|((with_reducible apply wM);exact rfl));all_goals (try ((with_reducible intro h);first|(exact absurd h (by decide))|(try simp only [go_sem,simprocAttr,aF] at h))))|omega|((first|first|refine aa hX hC hP (iI) rfl rfl rfl (by simp only [go_sem,simprocAttr,aF]) rfl ?_|refine aa hX hC hP (JE) rfl rfl rfl (by simp only [go_sem,simprocAttr,aF]) rfl ?_);try simp only [go_sem,simprocAttr,aF])|(intro h))
 |false=>
 rw [dM] at JE
 have MH:=dM
 simp only [za,Bool.or_eq_false_iff,decide_eq_false_iff_not] at MH
 have Gh:=sG g b (by omega) (by omega) (by omega)
 cases kM:bX g b with
 |false=>
  rw [kM] at Gh
  (refine Spec.intro (C:=T.cfg [] []) (rs:= [.t 4]) (T.ak _ _) Tryz.func11 rfl rfl Tryz.ntmps11 Tryz.results11 (by simp [AObj.isNest]) (by simp [AObj.isNest]) (by kernel_rfl) ?_;intro X hX hP hC aK aL vals hA;refine ⟨_,by simp,hA, ?_⟩;have af:X.P.follows .mixedOrders=true:=(by rw [hP];exact T.mixed);clear aK aL)
  repeat' (first|fail|((first|((with_reducible (first|apply oA|apply oB));exact rfl;intro K hK)|(refine hK _ ?_;clear hK K)|((with_reducible (first|apply oG|apply oH));iterate 3 exact rfl)|((with_reducible apply oI);(iterate 2 exact rfl);intro K hK)|(with_reducible (first|apply wI|apply wJ|apply wK)));try simp only [go_sem,simprocAttr,aF])|fail|(with_reducible (first|apply oC|apply oJ|exact oK|apply wA|apply wB|apply wC hX hC|apply wD hX hC|apply wE hX hC af|apply wF hX hC af|apply wG|apply wH|apply And.intro))|((with_reducible refine oD ?_ ?_);first|fail|kernel_rfl)|((with_reducible (first|apply oE|apply oF));(iterate 3 exact rfl);all_goals (intro h;first|(exact absurd h (by decide))|((try simp only [go_sem,simprocAttr,aF] at h);(try with_reducible intro K hK);simp only [go_sem,simprocAttr,aF])))|((first|((with_reducible apply wL);exact rfl)|((with_reducible apply wM);exact rfl));all_goals (try ((with_reducible intro h);first|(exact absurd h (by decide))|(try simp only [go_sem,simprocAttr,aF] at h))))|omega|((first|first|refine aa hX hC hP (iI) rfl rfl rfl (by simp only [go_sem,simprocAttr,aF]) rfl ?_|refine aa hX hC hP (JE) rfl rfl rfl (by simp only [go_sem,simprocAttr,aF]) rfl ?_|refine aa hX hC hP (Gh) rfl rfl rfl (by simp only [go_sem,simprocAttr,aF]) rfl ?_);try simp only [go_sem,simprocAttr,aF])|(intro h))
 |true=>
 rw [kM] at Gh
 have hP:=oL.1 kM
 have MI:=jK g (iu b) (by omega) (by simp [iu];omega) (by simp [iu];omega)
 have Fs:=jK g (jR b) (by omega) (by simp [jR];omega) (by simp [jR];omega)
 rw [oL.2 (x6 hP)] at MI
 rw [oL.2 (x7 hP)] at Fs
 have l1:b.fr.length=b.y.length:=by have:=hP.ly;have:=hP.lf;omega
 have l2:b.to.length=b.y.length:=by have:=hP.ly;have:=hP.lt;omega
 clear hP
 (refine Spec.intro (C:=T.cfg [] []) (rs:= [.t 4]) (T.ak _ _) Tryz.func11 rfl rfl Tryz.ntmps11 Tryz.results11 (by simp [AObj.isNest]) (by simp [AObj.isNest]) (by kernel_rfl) ?_;intro X hX hP hC aK aL vals hA;refine ⟨_,by simp,hA, ?_⟩;have af:X.P.follows .mixedOrders=true:=(by rw [hP];exact T.mixed);clear aK aL)
 repeat' (first|fail|((first|((with_reducible (first|apply oA|apply oB));exact rfl;intro K hK)|(refine hK _ ?_;clear hK K)|((with_reducible (first|apply oG|apply oH));iterate 3 exact rfl)|((with_reducible apply oI);(iterate 2 exact rfl);intro K hK)|(with_reducible (first|apply wI|apply wJ|apply wK)));try simp only [go_sem,simprocAttr,aF])|fail|(with_reducible (first|apply oC|apply oJ|exact oK|apply wA|apply wB|apply wC hX hC|apply wD hX hC|apply wE hX hC af|apply wF hX hC af|apply wG|apply wH|apply And.intro))|((with_reducible refine oD ?_ ?_);first|fail|kernel_rfl)|((with_reducible (first|apply oE|apply oF));(iterate 3 exact rfl);all_goals (intro h;first|(exact absurd h (by decide))|((try simp only [go_sem,simprocAttr,aF] at h);(try with_reducible intro K hK);simp only [go_sem,simprocAttr,aF])))|((first|((with_reducible apply wL);exact rfl)|((with_reducible apply wM);exact rfl));all_goals (try ((with_reducible intro h);first|(exact absurd h (by decide))|(try simp only [go_sem,simprocAttr,aF] at h))))|omega|((first|first|refine aa hX hC hP (iI) rfl rfl rfl (by simp only [go_sem,simprocAttr,aF]) rfl ?_|refine aa hX hC hP (JE) rfl rfl rfl (by simp only [go_sem,simprocAttr,aF]) rfl ?_|refine aa hX hC hP (Gh) rfl rfl rfl (by simp only [go_sem,simprocAttr,aF]) rfl ?_);try simp only [go_sem,simprocAttr,aF])|(intro h))
 refine aj (fun k:Nat=>k≤4∧∀j,j<k→x8 (tJ b j)) (fun k=>⟨[(2, .ptr 2 0),(3, .ptr 3 0),(35, .ref 35),(36,eN 4),(37,eN k)], [(35, .tip 25 1 [[sI b.y], [sI b.fr], [sI b.to], [sI b.x]]),(2, .box [eN g.n, .d (sE g.es)]),(3, .box [.d (sI b.y), .d (sI b.fr), .d (sI b.to), .d (sI b.x)])]⟩) (fun k=>4 - k) 0 ⟨by omega,fun j hj=>by omega⟩ ?_ ?_
 ·refine Le.of ?_ ?_<;>simp [go_sem,simprocAttr]
 rintro k ⟨hk,hin⟩
 rcases Nat.lt_or_ge k 4 with bD|xo
 ·have hb:decide ((k:Int)<4)=true:=decide_eq_true (by omega)
  have hv:∀d, [[D.sl 1 (b.y.map rI)], [D.sl 1 (b.fr.map rI)], [D.sl 1 (b.to.map rI)], [D.sl 1 (b.x.map rI)]].getD k d= [D.sl 1 ((tJ b k).map rI)]:=fun d=>by
   match k,bD with
   |0,_=>rfl
   |1,_=>rfl
   |2,_=>rfl
   |3,_=>rfl
  have hfl:(tJ b k).length≤1000:=by
   match k,bD with
   |0,_=>show b.y.length≤1000;omega
   |1,_=>show b.fr.length≤1000;omega
   |2,_=>show b.to.length≤1000;omega
   |3,_=>show b.x.length≤1000;omega
  have fc:x8 (tJ b k)→∀j,j<k+1→x8 (tJ b j):=fun h1 j hj=>by
   by_cases hjk:j=k
   ·subst hjk;exact h1
   ·exact hin j (by omega)
  generalize tJ b k=l at hv hfl fc
  repeat' (first|fail|((first|((with_reducible (first|apply oA|apply oB));exact rfl;intro K hK)|(refine hK _ ?_;clear hK K)|((with_reducible (first|apply oG|apply oH));iterate 3 exact rfl)|((with_reducible apply oI);(iterate 2 exact rfl);intro K hK)|(with_reducible (first|apply wI|apply wJ|apply wK)));try simp only [go_sem,simprocAttr,hb,hv])|fail|(with_reducible (first|apply oC|apply oJ|exact oK|apply wA|apply wB|apply wC hX hC|apply wD hX hC|apply wE hX hC af|apply wF hX hC af|apply wG|apply wH|apply And.intro))|((with_reducible refine oD ?_ ?_);first|fail|kernel_rfl)|((with_reducible (first|apply oE|apply oF));(iterate 3 exact rfl);all_goals (intro h;first|(exact absurd h (by decide))|((try simp only [go_sem,simprocAttr,hb,hv] at h);(try with_reducible intro K hK);simp only [go_sem,simprocAttr,hb,hv])))|((first|((with_reducible apply wL);exact rfl)|((with_reducible apply wM);exact rfl));all_goals (try ((with_reducible intro h);first|(exact absurd h (by decide))|(try simp only [go_sem,simprocAttr,hb,hv] at h))))|omega|((first|fail);try simp only [go_sem,simprocAttr,hb,hv])|(intro h))
  refine aj (fun j:Nat=>j≤l.length∧∀i,i<j→ -1073741824≤l.getD i 0∧l.getD i 0≤1073741824) (fun j=>⟨[(2, .ptr 2 0),(3, .ptr 3 0),(35, .ref 35),(36,eN 4),(37,eN k),(41, .d (sI l)),(42,eN l.length),(43,eN j)], [(35, .tip 25 1 [[sI b.y], [sI b.fr], [sI b.to], [sI b.x]]),(2, .box [eN g.n, .d (sE g.es)]),(3, .box [.d (sI b.y), .d (sI b.fr), .d (sI b.to), .d (sI b.x)])]⟩) (fun j=>l.length - j) 0 ⟨by omega,fun j hj=>by omega⟩ ?_ ?_
  ·refine Le.of ?_ ?_<;>simp [go_sem,simprocAttr]
  rintro j ⟨hj,JF⟩
  rcases Nat.lt_or_ge j l.length with hjl|F4
  rotate_left
  ·have jW:decide ((j:Int)<(l.length:Int))=false:=decide_eq_false (by omega)
   obtain rfl:j=l.length:=by omega
   repeat' (first|fail|((first|((with_reducible (first|apply oA|apply oB));exact rfl;intro K hK)|(refine hK _ ?_;clear hK K)|((with_reducible (first|apply oG|apply oH));iterate 3 exact rfl)|((with_reducible apply oI);(iterate 2 exact rfl);intro K hK)|(with_reducible (first|apply wI|apply wJ|apply wK)));try simp only [go_sem,simprocAttr,jW])|fail|(with_reducible (first|apply oC|apply oJ|exact oK|apply wA|apply wB|apply wC hX hC|apply wD hX hC|apply wE hX hC af|apply wF hX hC af|apply wG|apply wH|apply And.intro))|((with_reducible refine oD ?_ ?_);first|fail|kernel_rfl)|((with_reducible (first|apply oE|apply oF));(iterate 3 exact rfl);all_goals (intro h;first|(exact absurd h (by decide))|((try simp only [go_sem,simprocAttr,jW] at h);(try with_reducible intro K hK);simp only [go_sem,simprocAttr,jW])))|((first|((with_reducible apply wL);exact rfl)|((with_reducible apply wM);exact rfl));all_goals (try ((with_reducible intro h);first|(exact absurd h (by decide))|(try simp only [go_sem,simprocAttr,jW] at h))))|omega|((first|fail);try simp only [go_sem,simprocAttr,jW])|(intro h))
   refine ⟨k+1,⟨by omega,fc JF⟩, ?_,by omega⟩
   refine Le.of ?_ ?_<;>simp [go_sem,simprocAttr,jW]
  have jW:decide ((j:Int)<(l.length:Int))=true:=decide_eq_true (by omega)
  by_cases hc1:l.getD j 0< -1073741824
  ·have dm:decide (l.getD j 0< -1073741824)=true:=decide_eq_true hc1
   repeat' (first|fail|((first|((with_reducible (first|apply oA|apply oB));exact rfl;intro K hK)|(refine hK _ ?_;clear hK K)|((with_reducible (first|apply oG|apply oH));iterate 3 exact rfl)|((with_reducible apply oI);(iterate 2 exact rfl);intro K hK)|(with_reducible (first|apply wI|apply wJ|apply wK)));try simp only [go_sem,simprocAttr,jW,dm])|fail|(with_reducible (first|apply oC|apply oJ|exact oK|apply wA|apply wB|apply wC hX hC|apply wD hX hC|apply wE hX hC af|apply wF hX hC af|apply wG|apply wH|apply And.intro))|((with_reducible refine oD ?_ ?_);first|fail|kernel_rfl)|((with_reducible (first|apply oE|apply oF));(iterate 3 exact rfl);all_goals (intro h;first|(exact absurd h (by decide))|((try simp only [go_sem,simprocAttr,jW,dm] at h);(try with_reducible intro K hK);simp only [go_sem,simprocAttr,jW,dm])))|((first|((with_reducible apply wL);exact rfl)|((with_reducible apply wM);exact rfl));all_goals (try ((with_reducible intro h);first|(exact absurd h (by decide))|(try simp only [go_sem,simprocAttr,jW,dm] at h))))|omega|((first|fail);try simp only [go_sem,simprocAttr,jW,dm])|(intro h))
  have dm:decide (l.getD j 0< -1073741824)=false:=decide_eq_false hc1
  by_cases yB:1073741824<l.getD j 0
  ·have fk:decide (1073741824<l.getD j 0)=true:=decide_eq_true yB
   repeat' (first|fail|((first|((with_reducible (first|apply oA|apply oB));exact rfl;intro K hK)|(refine hK _ ?_;clear hK K)|((with_reducible (first|apply oG|apply oH));iterate 3 exact rfl)|((with_reducible apply oI);(iterate 2 exact rfl);intro K hK)|(with_reducible (first|apply wI|apply wJ|apply wK)));try simp only [go_sem,simprocAttr,jW,dm,fk])|fail|(with_reducible (first|apply oC|apply oJ|exact oK|apply wA|apply wB|apply wC hX hC|apply wD hX hC|apply wE hX hC af|apply wF hX hC af|apply wG|apply wH|apply And.intro))|((with_reducible refine oD ?_ ?_);first|fail|kernel_rfl)|((with_reducible (first|apply oE|apply oF));(iterate 3 exact rfl);all_goals (intro h;first|(exact absurd h (by decide))|((try simp only [go_sem,simprocAttr,jW,dm,fk] at h);(try with_reducible intro K hK);simp only [go_sem,simprocAttr,jW,dm,fk])))|((first|((with_reducible apply wL);exact rfl)|((with_reducible apply wM);exact rfl));all_goals (try ((with_reducible intro h);first|(exact absurd h (by decide))|(try simp only [go_sem,simprocAttr,jW,dm,fk] at h))))|omega|((first|fail);try simp only [go_sem,simprocAttr,jW,dm,fk])|(intro h))
  have fk:decide (1073741824<l.getD j 0)=false:=decide_eq_false yB
  repeat' (first|fail|((first|((with_reducible (first|apply oA|apply oB));exact rfl;intro K hK)|(refine hK _ ?_;clear hK K)|((with_reducible (first|apply oG|apply oH));iterate 3 exact rfl)|((with_reducible apply oI);(iterate 2 exact rfl);intro K hK)|(with_reducible (first|apply wI|apply wJ|apply wK)));try simp only [go_sem,simprocAttr,jW,dm,fk])|fail|(with_reducible (first|apply oC|apply oJ|exact oK|apply wA|apply wB|apply wC hX hC|apply wD hX hC|apply wE hX hC af|apply wF hX hC af|apply wG|apply wH|apply And.intro))|((with_reducible refine oD ?_ ?_);first|fail|kernel_rfl)|((with_reducible (first|apply oE|apply oF));(iterate 3 exact rfl);all_goals (intro h;first|(exact absurd h (by decide))|((try simp only [go_sem,simprocAttr,jW,dm,fk] at h);(try with_reducible intro K hK);simp only [go_sem,simprocAttr,jW,dm,fk])))|((first|((with_reducible apply wL);exact rfl)|((with_reducible apply wM);exact rfl));all_goals (try ((with_reducible intro h);first|(exact absurd h (by decide))|(try simp only [go_sem,simprocAttr,jW,dm,fk] at h))))|omega|((first|fail);try simp only [go_sem,simprocAttr,jW,dm,fk])|(intro h))
  refine ⟨j+1,⟨by omega,fun i hi=> ?_⟩, ?_,by omega⟩
  ·by_cases hij:i=j
   ·subst hij;omega
   ·exact JF i (by omega)
  ·refine Le.of ?_ ?_<;>simp [go_sem,simprocAttr,jW,dm,fk]
 have hb:decide ((k:Int)<4)=false:=decide_eq_false (by omega)
 have i0:x8 b.y:=hin 0 (by omega)
 have i1:x8 b.fr:=hin 1 (by omega)
 have i2:x8 b.to:=hin 2 (by omega)
 have i3:x8 b.x:=hin 3 (by omega)
 repeat' (first|fail|((first|((with_reducible (first|apply oA|apply oB));exact rfl;intro K hK)|(refine hK _ ?_;clear hK K)|((with_reducible (first|apply oG|apply oH));iterate 3 exact rfl)|((with_reducible apply oI);(iterate 2 exact rfl);intro K hK)|(with_reducible (first|apply wI|apply wJ|apply wK)));try simp only [go_sem,simprocAttr,hb])|fail|(with_reducible (first|apply oC|apply oJ|exact oK|apply wA|apply wB|apply wC hX hC|apply wD hX hC|apply wE hX hC af|apply wF hX hC af|apply wG|apply wH|apply And.intro))|((with_reducible refine oD ?_ ?_);first|fail|kernel_rfl)|((with_reducible (first|apply oE|apply oF));(iterate 3 exact rfl);all_goals (intro h;first|(exact absurd h (by decide))|((try simp only [go_sem,simprocAttr,hb] at h);(try with_reducible intro K hK);simp only [go_sem,simprocAttr,hb])))|((first|((with_reducible apply wL);exact rfl)|((with_reducible apply wM);exact rfl));all_goals (try ((with_reducible intro h);first|(exact absurd h (by decide))|(try simp only [go_sem,simprocAttr,hb] at h))))|omega|((first|fail);try simp only [go_sem,simprocAttr,hb])|(intro h))
 (refine cW hX 9 0 200 (.tip 3 1 []) rfl rfl rfl (by simp only [go_sem,simprocAttr,hb]) (by decide) (by simp [go_sem,simprocAttr,hb]) ⟨3,1,by decide, .inr rfl⟩ ?_;simp only [LA.app,ASt.put,ASt.kill,subT,rmk,putM,rml,kl,AV.sub,AV.subs,AObj.sub,List.set_cons_zero,List.set_cons_succ,go_sem,simprocAttr,hb])
 (refine cW hX 9 1 201 (.tip 3 1 []) rfl rfl rfl (by simp only [go_sem,simprocAttr,hb]) (by decide) (by simp [go_sem,simprocAttr,hb]) ⟨3,1,by decide, .inr rfl⟩ ?_;simp only [LA.app,ASt.put,ASt.kill,subT,rmk,putM,rml,kl,AV.sub,AV.subs,AObj.sub,List.set_cons_zero,List.set_cons_succ,go_sem,simprocAttr,hb])
 (refine cW hX 9 2 202 (.tip 3 1 []) rfl rfl rfl (by simp only [go_sem,simprocAttr,hb]) (by decide) (by simp [go_sem,simprocAttr,hb]) ⟨3,1,by decide, .inr rfl⟩ ?_;simp only [LA.app,ASt.put,ASt.kill,subT,rmk,putM,rml,kl,AV.sub,AV.subs,AObj.sub,List.set_cons_zero,List.set_cons_succ,go_sem,simprocAttr,hb])
 (refine cW hX 9 3 203 (.tip 3 1 []) rfl rfl rfl (by simp only [go_sem,simprocAttr,hb]) (by decide) (by simp [go_sem,simprocAttr,hb]) ⟨3,1,by decide, .inr rfl⟩ ?_;simp only [LA.app,ASt.put,ASt.kill,subT,rmk,putM,rml,kl,AV.sub,AV.subs,AObj.sub,List.set_cons_zero,List.set_cons_succ,go_sem,simprocAttr,hb])
 (refine cW hX 10 1 204 (.tip 3 1 []) rfl rfl rfl (by simp only [go_sem,simprocAttr,hb]) (by decide) (by simp [go_sem,simprocAttr,hb]) ⟨3,1,by decide, .inr rfl⟩ ?_;simp only [LA.app,ASt.put,ASt.kill,subT,rmk,putM,rml,kl,AV.sub,AV.subs,AObj.sub,List.set_cons_zero,List.set_cons_succ,go_sem,simprocAttr,hb])
 (refine cW hX 10 2 205 (.tip 3 1 []) rfl rfl rfl (by simp only [go_sem,simprocAttr,hb]) (by decide) (by simp [go_sem,simprocAttr,hb]) ⟨3,1,by decide, .inr rfl⟩ ?_;simp only [LA.app,ASt.put,ASt.kill,subT,rmk,putM,rml,kl,AV.sub,AV.subs,AObj.sub,List.set_cons_zero,List.set_cons_succ,go_sem,simprocAttr,hb])
 (refine cW hX 10 3 206 (.tip 3 1 []) rfl rfl rfl (by simp only [go_sem,simprocAttr,hb]) (by decide) (by simp [go_sem,simprocAttr,hb]) ⟨3,1,by decide, .inr rfl⟩ ?_;simp only [LA.app,ASt.put,ASt.kill,subT,rmk,putM,rml,kl,AV.sub,AV.subs,AObj.sub,List.set_cons_zero,List.set_cons_succ,go_sem,simprocAttr,hb])
 refine aj (fun k:Nat=>k≤b.y.length) (fun k=>⟨[(2, .ptr 2 0),(3, .ptr 3 0),(9, .ptr 9 0),(10, .ptr 10 0),(60, .d (sI b.y)),(61,eN b.y.length),(62,eN k)], [(2, .box [eN g.n, .d (sE g.es)]),(3, .box [.d (sI b.y), .d (sI b.fr), .d (sI b.to), .d (sI b.x)]),(9, .box [.ref 200, .ref 201, .ref 202, .ref 203]),(10, .box [.d (sI b.y), .ref 204, .ref 205, .ref 206]),(200, .tip 3 1 (((b.y.take (k)).map fun y=>3*y - 7).map rI)),(201, .tip 3 1 (((List.range (0)).map fun v=>5*b.fr.getD v 0+1).map rI)),(202, .tip 3 1 (((List.range (0)).map fun v=>5*b.to.getD v 0+2).map rI)),(203, .tip 3 1 (((b.x.take (0)).map fun x=>5*x+1).map rI)),(204, .tip 3 1 (((List.range (0)).map fun v=> -b.to.getD v 0).map rI)),(205, .tip 3 1 (((List.range (0)).map fun v=> -b.fr.getD v 0).map rI)),(206, .tip 3 1 (((b.x.take (0)).map fun x=> -x).map rI))]⟩) (fun k=>b.y.length - k) 0 (by omega) ?_ ?_
 ·refine Le.of ?_ ?_<;>simp [go_sem,simprocAttr]
 rintro k1 ya
 rcases Nat.lt_or_ge k1 b.y.length with bD|xo
 ·have hb:decide ((k1:Int)<(b.y.length:Int))=true:=decide_eq_true (by omega)
  have fc:=si (f:=fun y=>3*y - 7) bD
  have hbd:=i0 k1 bD
  have uo:((b.y.take k1).map fun y=>3*y - 7).length=k1:=by rw [List.length_map,List.length_take];omega
  generalize (b.y.take k1).map (fun y=>3*y - 7)=T1 at fc uo
  repeat' (first|fail|((first|((with_reducible (first|apply oA|apply oB));exact rfl;intro K hK)|(refine hK _ ?_;clear hK K)|((with_reducible (first|apply oG|apply oH));iterate 3 exact rfl)|((with_reducible apply oI);(iterate 2 exact rfl);intro K hK)|(with_reducible (first|apply wI|apply wJ|apply wK)));try simp only [go_sem,simprocAttr,hb,uo])|(show cV _ (.region 20 _ _) _ _;(refine bU hX 9 0 72 200 rfl rfl rfl (by first|exact .inl rfl|exact .inr rfl) (by decide) (by decide) ?_;simp only [LA.app,ASt.put,ASt.kill,subT,rmk,putM,rml,kl,AV.sub,AV.subs,AObj.sub,List.set_cons_zero,List.set_cons_succ,go_sem,simprocAttr,hb,uo]))|(with_reducible (first|apply oC|apply oJ|exact oK|apply wA|apply wB|apply wC hX hC|apply wD hX hC|apply wE hX hC af|apply wF hX hC af|apply wG|apply wH|apply And.intro))|((with_reducible refine oD ?_ ?_);first|fail|kernel_rfl)|((with_reducible (first|apply oE|apply oF));(iterate 3 exact rfl);all_goals (intro h;first|(exact absurd h (by decide))|((try simp only [go_sem,simprocAttr,hb,uo] at h);(try with_reducible intro K hK);simp only [go_sem,simprocAttr,hb,uo])))|((first|((with_reducible apply wL);exact rfl)|((with_reducible apply wM);exact rfl));all_goals (try ((with_reducible intro h);first|(exact absurd h (by decide))|(try simp only [go_sem,simprocAttr,hb,uo] at h))))|omega|((first|fail);try simp only [go_sem,simprocAttr,hb,uo])|(intro h))
  refine ⟨k1+1,by omega, ?_,by omega⟩
  rw [fc]
  refine Le.of ?_ ?_<;>simp [go_sem,simprocAttr,hb,uo,rI]
 have hb:decide ((k1:Int)<(b.y.length:Int))=false:=decide_eq_false (by omega)
 obtain rfl:k1=b.y.length:=by omega
 repeat' (first|fail|((first|((with_reducible (first|apply oA|apply oB));exact rfl;intro K hK)|(refine hK _ ?_;clear hK K)|((with_reducible (first|apply oG|apply oH));iterate 3 exact rfl)|((with_reducible apply oI);(iterate 2 exact rfl);intro K hK)|(with_reducible (first|apply wI|apply wJ|apply wK)));try simp only [go_sem,simprocAttr,hb])|fail|(with_reducible (first|apply oC|apply oJ|exact oK|apply wA|apply wB|apply wC hX hC|apply wD hX hC|apply wE hX hC af|apply wF hX hC af|apply wG|apply wH|apply And.intro))|((with_reducible refine oD ?_ ?_);first|fail|kernel_rfl)|((with_reducible (first|apply oE|apply oF));(iterate 3 exact rfl);all_goals (intro h;first|(exact absurd h (by decide))|((try simp only [go_sem,simprocAttr,hb] at h);(try with_reducible intro K hK);simp only [go_sem,simprocAttr,hb])))|((first|((with_reducible apply wL);exact rfl)|((with_reducible apply wM);exact rfl));all_goals (try ((with_reducible intro h);first|(exact absurd h (by decide))|(try simp only [go_sem,simprocAttr,hb] at h))))|omega|((first|fail);try simp only [go_sem,simprocAttr,hb])|(intro h))
 refine aj (fun k:Nat=>k≤b.y.length) (fun k=>⟨[(2, .ptr 2 0),(3, .ptr 3 0),(9, .ptr 9 0),(10, .ptr 10 0),(77,eN b.y.length),(78,eN k)], [(2, .box [eN g.n, .d (sE g.es)]),(3, .box [.d (sI b.y), .d (sI b.fr), .d (sI b.to), .d (sI b.x)]),(9, .box [.ref 200, .ref 201, .ref 202, .ref 203]),(10, .box [.d (sI b.y), .ref 204, .ref 205, .ref 206]),(200, .tip 3 1 (((b.y.take (b.y.length)).map fun y=>3*y - 7).map rI)),(201, .tip 3 1 (((List.range (k)).map fun v=>5*b.fr.getD v 0+1).map rI)),(202, .tip 3 1 (((List.range (k)).map fun v=>5*b.to.getD v 0+2).map rI)),(203, .tip 3 1 (((b.x.take (0)).map fun x=>5*x+1).map rI)),(204, .tip 3 1 (((List.range (k)).map fun v=> -b.to.getD v 0).map rI)),(205, .tip 3 1 (((List.range (k)).map fun v=> -b.fr.getD v 0).map rI)),(206, .tip 3 1 (((b.x.take (0)).map fun x=> -x).map rI))]⟩) (fun k=>b.y.length - k) 0 (by omega) ?_ ?_
 ·refine Le.of ?_ ?_<;>simp [go_sem,simprocAttr]
 rintro k2 hk2
 rcases Nat.lt_or_ge k2 b.y.length with bD|xo
 ·have hb:decide ((k2:Int)<(b.y.length:Int))=true:=decide_eq_true (by omega)
  have n1:=qa (f:=fun v=>5*b.fr.getD v 0+1) (k:=k2)
  have n2:=qa (f:=fun v=>5*b.to.getD v 0+2) (k:=k2)
  have n3:=qa (f:=fun v=> -b.to.getD v 0) (k:=k2)
  have n4:=qa (f:=fun v=> -b.fr.getD v 0) (k:=k2)
  have b1:=i1 k2 (by omega)
  have b2:=i2 k2 (by omega)
  have q1:((List.range k2).map fun v=>5*b.fr.getD v 0+1).length=k2:=by simp
  have q2:((List.range k2).map fun v=>5*b.to.getD v 0+2).length=k2:=by simp
  have q3:((List.range k2).map fun v=> -b.to.getD v 0).length=k2:=by simp
  have q4:((List.range k2).map fun v=> -b.fr.getD v 0).length=k2:=by simp
  generalize (List.range k2).map (fun v=>5*b.fr.getD v 0+1)=T1 at n1 q1
  generalize (List.range k2).map (fun v=>5*b.to.getD v 0+2)=T2 at n2 q2
  generalize (List.range k2).map (fun v=> -b.to.getD v 0)=T3 at n3 q3
  generalize (List.range k2).map (fun v=> -b.fr.getD v 0)=T4 at n4 q4
  repeat' (first|fail|((first|((with_reducible (first|apply oA|apply oB));exact rfl;intro K hK)|(refine hK _ ?_;clear hK K)|((with_reducible (first|apply oG|apply oH));iterate 3 exact rfl)|((with_reducible apply oI);(iterate 2 exact rfl);intro K hK)|(with_reducible (first|apply wI|apply wJ|apply wK)));try simp only [go_sem,simprocAttr,hb,q1,q2,q3,q4,l1,l2])|(show cV _ (.region 26 _ _) _ _;(refine bU hX 9 1 91 201 rfl rfl rfl (by first|exact .inl rfl|exact .inr rfl) (by decide) (by decide) ?_;simp only [LA.app,ASt.put,ASt.kill,subT,rmk,putM,rml,kl,AV.sub,AV.subs,AObj.sub,List.set_cons_zero,List.set_cons_succ,go_sem,simprocAttr,hb,q1,q2,q3,q4,l1,l2]);(refine bU hX 9 2 102 202 rfl rfl rfl (by first|exact .inl rfl|exact .inr rfl) (by decide) (by decide) ?_;simp only [LA.app,ASt.put,ASt.kill,subT,rmk,putM,rml,kl,AV.sub,AV.subs,AObj.sub,List.set_cons_zero,List.set_cons_succ,go_sem,simprocAttr,hb,q1,q2,q3,q4,l1,l2]);(refine bU hX 10 1 114 204 rfl rfl rfl (by first|exact .inl rfl|exact .inr rfl) (by decide) (by decide) ?_;simp only [LA.app,ASt.put,ASt.kill,subT,rmk,putM,rml,kl,AV.sub,AV.subs,AObj.sub,List.set_cons_zero,List.set_cons_succ,go_sem,simprocAttr,hb,q1,q2,q3,q4,l1,l2]);(refine bU hX 10 2 124 205 rfl rfl rfl (by first|exact .inl rfl|exact .inr rfl) (by decide) (by decide) ?_;simp only [LA.app,ASt.put,ASt.kill,subT,rmk,putM,rml,kl,AV.sub,AV.subs,AObj.sub,List.set_cons_zero,List.set_cons_succ,go_sem,simprocAttr,hb,q1,q2,q3,q4,l1,l2]))|(with_reducible (first|apply oC|apply oJ|exact oK|apply wA|apply wB|apply wC hX hC|apply wD hX hC|apply wE hX hC af|apply wF hX hC af|apply wG|apply wH|apply And.intro))|((with_reducible refine oD ?_ ?_);first|fail|kernel_rfl)|((with_reducible (first|apply oE|apply oF));(iterate 3 exact rfl);all_goals (intro h;first|(exact absurd h (by decide))|((try simp only [go_sem,simprocAttr,hb,q1,q2,q3,q4,l1,l2] at h);(try with_reducible intro K hK);simp only [go_sem,simprocAttr,hb,q1,q2,q3,q4,l1,l2])))|((first|((with_reducible apply wL);exact rfl)|((with_reducible apply wM);exact rfl));all_goals (try ((with_reducible intro h);first|(exact absurd h (by decide))|(try simp only [go_sem,simprocAttr,hb,q1,q2,q3,q4,l1,l2] at h))))|omega|((first|fail);try simp only [go_sem,simprocAttr,hb,q1,q2,q3,q4,l1,l2])|(intro h))
  refine ⟨k2+1,by omega, ?_,by omega⟩
  rw [n1,n2,n3,n4]
  refine Le.of ?_ ?_<;>simp [go_sem,simprocAttr,hb,q1,q2,q3,q4,l1,l2,rI]
 have hb:decide ((k2:Int)<(b.y.length:Int))=false:=decide_eq_false (by omega)
 obtain rfl:k2=b.y.length:=by omega
 repeat' (first|fail|((first|((with_reducible (first|apply oA|apply oB));exact rfl;intro K hK)|(refine hK _ ?_;clear hK K)|((with_reducible (first|apply oG|apply oH));iterate 3 exact rfl)|((with_reducible apply oI);(iterate 2 exact rfl);intro K hK)|(with_reducible (first|apply wI|apply wJ|apply wK)));try simp only [go_sem,simprocAttr,hb])|fail|(with_reducible (first|apply oC|apply oJ|exact oK|apply wA|apply wB|apply wC hX hC|apply wD hX hC|apply wE hX hC af|apply wF hX hC af|apply wG|apply wH|apply And.intro))|((with_reducible refine oD ?_ ?_);first|fail|kernel_rfl)|((with_reducible (first|apply oE|apply oF));(iterate 3 exact rfl);all_goals (intro h;first|(exact absurd h (by decide))|((try simp only [go_sem,simprocAttr,hb] at h);(try with_reducible intro K hK);simp only [go_sem,simprocAttr,hb])))|((first|((with_reducible apply wL);exact rfl)|((with_reducible apply wM);exact rfl));all_goals (try ((with_reducible intro h);first|(exact absurd h (by decide))|(try simp only [go_sem,simprocAttr,hb] at h))))|omega|((first|fail);try simp only [go_sem,simprocAttr,hb])|(intro h))
 refine aj (fun k:Nat=>k≤b.x.length) (fun k=>⟨[(2, .ptr 2 0),(3, .ptr 3 0),(9, .ptr 9 0),(10, .ptr 10 0),(129, .d (sI b.x)),(130,eN b.x.length),(131,eN k)], [(2, .box [eN g.n, .d (sE g.es)]),(3, .box [.d (sI b.y), .d (sI b.fr), .d (sI b.to), .d (sI b.x)]),(9, .box [.ref 200, .ref 201, .ref 202, .ref 203]),(10, .box [.d (sI b.y), .ref 204, .ref 205, .ref 206]),(200, .tip 3 1 (((b.y.take (b.y.length)).map fun y=>3*y - 7).map rI)),(201, .tip 3 1 (((List.range (b.y.length)).map fun v=>5*b.fr.getD v 0+1).map rI)),(202, .tip 3 1 (((List.range (b.y.length)).map fun v=>5*b.to.getD v 0+2).map rI)),(203, .tip 3 1 (((b.x.take (k)).map fun x=>5*x+1).map rI)),(204, .tip 3 1 (((List.range (b.y.length)).map fun v=> -b.to.getD v 0).map rI)),(205, .tip 3 1 (((List.range (b.y.length)).map fun v=> -b.fr.getD v 0).map rI)),(206, .tip 3 1 (((b.x.take (k)).map fun x=> -x).map rI))]⟩) (fun k=>b.x.length - k) 0 (by omega) ?_ ?_
 ·refine Le.of ?_ ?_<;>simp [go_sem,simprocAttr]
 rintro k3 F5
 rcases Nat.lt_or_ge k3 b.x.length with bD|xo
 ·have hb:decide ((k3:Int)<(b.x.length:Int))=true:=decide_eq_true (by omega)
  have n1:=si (f:=fun x=>5*x+1) bD
  have n2:=si (f:=fun x=> -x) bD
  have b1:=i3 k3 bD
  have q1:((b.x.take k3).map fun x=>5*x+1).length=k3:=by rw [List.length_map,List.length_take];omega
  have q2:((b.x.take k3).map fun x=> -x).length=k3:=by rw [List.length_map,List.length_take];omega
  generalize (b.x.take k3).map (fun x=>5*x+1)=T1 at n1 q1
  generalize (b.x.take k3).map (fun x=> -x)=T2 at n2 q2
  repeat' (first|fail|((first|((with_reducible (first|apply oA|apply oB));exact rfl;intro K hK)|(refine hK _ ?_;clear hK K)|((with_reducible (first|apply oG|apply oH));iterate 3 exact rfl)|((with_reducible apply oI);(iterate 2 exact rfl);intro K hK)|(with_reducible (first|apply wI|apply wJ|apply wK)));try simp only [go_sem,simprocAttr,hb,q1,q2])|(show cV _ (.region 31 _ _) _ _;(refine bU hX 9 3 141 203 rfl rfl rfl (by first|exact .inl rfl|exact .inr rfl) (by decide) (by decide) ?_;simp only [LA.app,ASt.put,ASt.kill,subT,rmk,putM,rml,kl,AV.sub,AV.subs,AObj.sub,List.set_cons_zero,List.set_cons_succ,go_sem,simprocAttr,hb,q1,q2]);(refine bU hX 10 3 147 206 rfl rfl rfl (by first|exact .inl rfl|exact .inr rfl) (by decide) (by decide) ?_;simp only [LA.app,ASt.put,ASt.kill,subT,rmk,putM,rml,kl,AV.sub,AV.subs,AObj.sub,List.set_cons_zero,List.set_cons_succ,go_sem,simprocAttr,hb,q1,q2]))|(with_reducible (first|apply oC|apply oJ|exact oK|apply wA|apply wB|apply wC hX hC|apply wD hX hC|apply wE hX hC af|apply wF hX hC af|apply wG|apply wH|apply And.intro))|((with_reducible refine oD ?_ ?_);first|fail|kernel_rfl)|((with_reducible (first|apply oE|apply oF));(iterate 3 exact rfl);all_goals (intro h;first|(exact absurd h (by decide))|((try simp only [go_sem,simprocAttr,hb,q1,q2] at h);(try with_reducible intro K hK);simp only [go_sem,simprocAttr,hb,q1,q2])))|((first|((with_reducible apply wL);exact rfl)|((with_reducible apply wM);exact rfl));all_goals (try ((with_reducible intro h);first|(exact absurd h (by decide))|(try simp only [go_sem,simprocAttr,hb,q1,q2] at h))))|omega|((first|fail);try simp only [go_sem,simprocAttr,hb,q1,q2])|(intro h))
  refine ⟨k3+1,by omega, ?_,by omega⟩
  rw [n1,n2]
  refine Le.of ?_ ?_<;>simp [go_sem,simprocAttr,hb,q1,q2,rI]
 have hb:decide ((k3:Int)<(b.x.length:Int))=false:=decide_eq_false (by omega)
 obtain rfl:k3=b.x.length:=by omega
 unfold iu at MI
 unfold jR at Fs
 rw [List.take_length,List.take_length]
 repeat' (first|fail|((first|((with_reducible (first|apply oA|apply oB));exact rfl;intro K hK)|(refine hK _ ?_;clear hK K)|((with_reducible (first|apply oG|apply oH));iterate 3 exact rfl)|((with_reducible apply oI);(iterate 2 exact rfl);intro K hK)|(with_reducible (first|apply wI|apply wJ|apply wK)));try simp only [go_sem,simprocAttr,aF,hb])|fail|(with_reducible (first|apply oC|apply oJ|exact oK|apply wA|apply wB|apply wC hX hC|apply wD hX hC|apply wE hX hC af|apply wF hX hC af|apply wG|apply wH|apply And.intro))|((with_reducible refine oD ?_ ?_);first|fail|kernel_rfl)|((with_reducible (first|apply oE|apply oF));(iterate 3 exact rfl);all_goals (intro h;first|(exact absurd h (by decide))|((try simp only [go_sem,simprocAttr,aF,hb] at h);(try with_reducible intro K hK);simp only [go_sem,simprocAttr,aF,hb])))|((first|((with_reducible apply wL);exact rfl)|((with_reducible apply wM);exact rfl));all_goals (try ((with_reducible intro h);first|(exact absurd h (by decide))|(try simp only [go_sem,simprocAttr,aF,hb] at h))))|omega|((first|first|(refine aS hX hC hP (MI) rfl rfl rfl ?_ ?_ rfl ?_;iterate 2 (focus (simp only [go_sem,simprocAttr,aF,hb];done)))|(refine aS hX hC hP (Fs) rfl rfl rfl ?_ ?_ rfl ?_;iterate 2 (focus (simp only [go_sem,simprocAttr,aF,hb];done))));try simp only [go_sem,simprocAttr,aF,hb])|(intro h))
end Go.Ab
end
