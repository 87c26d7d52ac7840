/- A part of the proof. -/
import Derived.Test.YtjmaiddbinlooaaGreatL7P15
set_option linter.unusedSimpArgs false
set_option linter.unusedVariables false
section
namespace Go.Ab
open Go.Proofs
attribute [local congr] ACall.congr
set_option maxRecDepth 20000
set_option maxHeartbeats 32000000
def mX (b:Br) (g:Gr):Bool:=decide ((b.y.length:Int)=g.n)&&decide ((b.fr.length:Int)=g.n)&&decide ((b.to.length:Int)=g.n)&&decide ((b.x.length:Int)=(g.es.length:Int))
theorem Cd (b:Br) (g:Gr):Spec Tryz.prog 75 (Args [aB b,eG g]) [] (eB (mX b g)) []:=by
 have hf:mX b g=(decide ((b.y.length:Int)=g.n)&&decide ((b.fr.length:Int)=g.n)&&decide ((b.to.length:Int)=g.n)&&decide ((b.x.length:Int)=(g.es.length:Int))):=rfl
 cases h1:decide ((b.y.length:Int)=g.n)<;>cases h2:decide ((b.fr.length:Int)=g.n)<;>cases h3:decide ((b.to.length:Int)=g.n)<;>rw [h1,h2,h3] at hf<;>simp only [Bool.and_true,Bool.and_false,Bool.true_and,Bool.false_and] at hf<;>rw [hf]
 all_goals (
 (refine Spec.intro (C:=T.cfg [] []) (rs:= [.t 4]) (T.aj _ _) Tryz.func75 rfl rfl Tryz.ntmps75 Tryz.results75 (by simp [AObj.isNest]) (by simp [AObj.isNest]) (by kernel_rfl) ?_;intro X hX hP hC aL aM vals hA;refine ⟨_,by simp,hA, ?_⟩;have af:X.P.follows .mixedOrders=true:=(by rw [hP];exact T.mixed);clear aL aM)
 repeat' (first|((first|((with_reducible (first|apply oA|apply oB));exact rfl;intro K hK)|(refine hK _ ?_;clear hK K)|((with_reducible (first|apply oG|apply oH));iterate 3 exact rfl)|((with_reducible apply oI);(iterate 2 exact rfl);intro K hK)|(with_reducible (first|apply wI|apply wJ|apply wK)));try simp only [go_sem,simprocAttr,aB,h1,h2,h3])|(with_reducible (first|apply oC|apply oJ|exact oK|apply wA|apply wB|apply wC hX hC|apply wD hX hC|apply wE hX hC af|apply wF hX hC af|apply wG|apply wH|apply And.intro))|((with_reducible refine oD ?_ ?_);kernel_rfl)|((with_reducible (first|apply oE|apply oF));(iterate 3 exact rfl);all_goals (intro h;first|(exact absurd h (by decide))|((try simp only [go_sem,simprocAttr,aB,h1,h2,h3] at h);(try with_reducible intro K hK);simp only [go_sem,simprocAttr,aB,h1,h2,h3])))|((first|((with_reducible apply wL);exact rfl)|((with_reducible apply wM);exact rfl));all_goals (try ((with_reducible intro h);first|(exact absurd h (by decide))|(try simp only [go_sem,simprocAttr,aB,h1,h2,h3] at h))))|omega|(intro h)))
def wV (b:Br) (lo hi q:Int) (x:Nat):Bool:=decide (lo<b.y.getD x 0)&&decide (b.y.getD x 0<hi)&&hasB b x q
def dN (b:Br) (s t:Nat) (q:Int):Bool:=decide (b.y.getD s 0<b.y.getD t 0)&&hasB b s q&&hasB b t q&&(List.range b.y.length).all fun x=> !wV b (b.y.getD s 0) (b.y.getD t 0) q x
theorem zQ (b:Br) (s t:Nat) (q:Int) (h1:b.fr.length=b.y.length) (h2:b.to.length=b.y.length) (hl:b.y.length≤100000) (hs:s<b.y.length) (ht:t<b.y.length):Spec Tryz.prog 77 (Args [aB b, .agg [eN s,eN t],eN q]) [] (eB (dN b s t q)) []:=by
 have hH:=fun x (hx:x<b.y.length)=>zP b x q (by omega) (by omega) (by omega)
 have Kw:=hH s hs
 have Lb:=hH t ht
 by_cases hc:b.y.getD s 0<b.y.getD t 0
 rotate_left
 ·have hr:dN b s t q=false:=by unfold dN;rw [decide_eq_false hc];rfl
  have hc1:decide (b.y.getD t 0≤b.y.getD s 0)=true:=decide_eq_true (by omega)
  rw [hr]
  (refine Spec.intro (C:=T.cfg [] []) (rs:= [.t 6]) (T.aj _ _) Tryz.func77 rfl rfl Tryz.ntmps77 Tryz.results77 (by simp [AObj.isNest]) (by simp [AObj.isNest]) (by kernel_rfl) ?_;intro X hX hP hC aL aM vals hA;refine ⟨_,by simp,hA, ?_⟩;have af:X.P.follows .mixedOrders=true:=(by rw [hP];exact T.mixed);clear aL aM)
  repeat' (first|((first|((with_reducible (first|apply oA|apply oB));exact rfl;intro K hK)|(refine hK _ ?_;clear hK K)|((with_reducible (first|apply oG|apply oH));iterate 3 exact rfl)|((with_reducible apply oI);(iterate 2 exact rfl);intro K hK)|(with_reducible (first|apply wI|apply wJ|apply wK)));try simp only [go_sem,simprocAttr,aB,hc1])|(with_reducible (first|apply oC|apply oJ|exact oK|apply wA|apply wB|apply wC hX hC|apply wD hX hC|apply wE hX hC af|apply wF hX hC af|apply wG|apply wH|apply And.intro))|((with_reducible refine oD ?_ ?_);kernel_rfl)|((with_reducible (first|apply oE|apply oF));(iterate 3 exact rfl);all_goals (intro h;first|(exact absurd h (by decide))|((try simp only [go_sem,simprocAttr,aB,hc1] at h);(try with_reducible intro K hK);simp only [go_sem,simprocAttr,aB,hc1])))|((first|((with_reducible apply wL);exact rfl)|((with_reducible apply wM);exact rfl));all_goals (try ((with_reducible intro h);first|(exact absurd h (by decide))|(try simp only [go_sem,simprocAttr,aB,hc1] at h))))|omega|(intro h))
 have hc1:decide (b.y.getD t 0≤b.y.getD s 0)=false:=decide_eq_false (by omega)
 cases hvs:hasB b s q with
 |false=>
  have hr:dN b s t q=false:=by unfold dN;rw [hvs];simp
  rw [hr]
  rw [hvs] at Kw
  (refine Spec.intro (C:=T.cfg [] []) (rs:= [.t 6]) (T.aj _ _) Tryz.func77 rfl rfl Tryz.ntmps77 Tryz.results77 (by simp [AObj.isNest]) (by simp [AObj.isNest]) (by kernel_rfl) ?_;intro X hX hP hC aL aM vals hA;refine ⟨_,by simp,hA, ?_⟩;have af:X.P.follows .mixedOrders=true:=(by rw [hP];exact T.mixed);clear aL aM)
  repeat' (first|((first|((with_reducible (first|apply oA|apply oB));exact rfl;intro K hK)|(refine hK _ ?_;clear hK K)|((with_reducible (first|apply oG|apply oH));iterate 3 exact rfl)|((with_reducible apply oI);(iterate 2 exact rfl);intro K hK)|(with_reducible (first|apply wI|apply wJ|apply wK)));try simp only [go_sem,simprocAttr,aB,hc1])|(with_reducible (first|apply oC|apply oJ|exact oK|apply wA|apply wB|apply wC hX hC|apply wD hX hC|apply wE hX hC af|apply wF hX hC af|apply wG|apply wH|apply And.intro))|((with_reducible refine oD ?_ ?_);kernel_rfl)|((with_reducible (first|apply oE|apply oF));(iterate 3 exact rfl);all_goals (intro h;first|(exact absurd h (by decide))|((try simp only [go_sem,simprocAttr,aB,hc1] at h);(try with_reducible intro K hK);simp only [go_sem,simprocAttr,aB,hc1])))|((first|((with_reducible apply wL);exact rfl)|((with_reducible apply wM);exact rfl));all_goals (try ((with_reducible intro h);first|(exact absurd h (by decide))|(try simp only [go_sem,simprocAttr,aB,hc1] at h))))|omega|((first|refine aa hX hC hP (Kw) rfl rfl rfl (by simp only [go_sem,simprocAttr,aB,hc1]) rfl ?_);try simp only [go_sem,simprocAttr,aB,hc1])|(intro h))
 |true=>
 rw [hvs] at Kw
 cases GN:hasB b t q with
 |false=>
  have hr:dN b s t q=false:=by unfold dN;rw [GN];simp
  rw [hr]
  rw [GN] at Lb
  (refine Spec.intro (C:=T.cfg [] []) (rs:= [.t 6]) (T.aj _ _) Tryz.func77 rfl rfl Tryz.ntmps77 Tryz.results77 (by simp [AObj.isNest]) (by simp [AObj.isNest]) (by kernel_rfl) ?_;intro X hX hP hC aL aM vals hA;refine ⟨_,by simp,hA, ?_⟩;have af:X.P.follows .mixedOrders=true:=(by rw [hP];exact T.mixed);clear aL aM)
  repeat' (first|((first|((with_reducible (first|apply oA|apply oB));exact rfl;intro K hK)|(refine hK _ ?_;clear hK K)|((with_reducible (first|apply oG|apply oH));iterate 3 exact rfl)|((with_reducible apply oI);(iterate 2 exact rfl);intro K hK)|(with_reducible (first|apply wI|apply wJ|apply wK)));try simp only [go_sem,simprocAttr,aB,hc1])|(with_reducible (first|apply oC|apply oJ|exact oK|apply wA|apply wB|apply wC hX hC|apply wD hX hC|apply wE hX hC af|apply wF hX hC af|apply wG|apply wH|apply And.intro))|((with_reducible refine oD ?_ ?_);kernel_rfl)|((with_reducible (first|apply oE|apply oF));(iterate 3 exact rfl);all_goals (intro h;first|(exact absurd h (by decide))|((try simp only [go_sem,simprocAttr,aB,hc1] at h);(try with_reducible intro K hK);simp only [go_sem,simprocAttr,aB,hc1])))|((first|((with_reducible apply wL);exact rfl)|((with_reducible apply wM);exact rfl));all_goals (try ((with_reducible intro h);first|(exact absurd h (by decide))|(try simp only [go_sem,simprocAttr,aB,hc1] at h))))|omega|((first|refine aa hX hC hP (Kw) rfl rfl rfl (by simp only [go_sem,simprocAttr,aB,hc1]) rfl ?_|refine aa hX hC hP (Lb) rfl rfl rfl (by simp only [go_sem,simprocAttr,aB,hc1]) rfl ?_);try simp only [go_sem,simprocAttr,aB,hc1])|(intro h))
 |true=>
 rw [GN] at Lb
 have hr:dN b s t q=(List.range b.y.length).all fun x=> !wV b (b.y.getD s 0) (b.y.getD t 0) q x:=by unfold dN;rw [hvs,GN,decide_eq_true hc];rfl
 rw [hr]
 (refine Spec.intro (C:=T.cfg [] []) (rs:= [.t 6]) (T.aj _ _) Tryz.func77 rfl rfl Tryz.ntmps77 Tryz.results77 (by simp [AObj.isNest]) (by simp [AObj.isNest]) (by kernel_rfl) ?_;intro X hX hP hC aL aM vals hA;refine ⟨_,by simp,hA, ?_⟩;have af:X.P.follows .mixedOrders=true:=(by rw [hP];exact T.mixed);clear aL aM)
 repeat' (first|((first|((with_reducible (first|apply oA|apply oB));exact rfl;intro K hK)|(refine hK _ ?_;clear hK K)|((with_reducible (first|apply oG|apply oH));iterate 3 exact rfl)|((with_reducible apply oI);(iterate 2 exact rfl);intro K hK)|(with_reducible (first|apply wI|apply wJ|apply wK)));try simp only [go_sem,simprocAttr,aB,hc1])|(with_reducible (first|apply oC|apply oJ|exact oK|apply wA|apply wB|apply wC hX hC|apply wD hX hC|apply wE hX hC af|apply wF hX hC af|apply wG|apply wH|apply And.intro))|((with_reducible refine oD ?_ ?_);kernel_rfl)|((with_reducible (first|apply oE|apply oF));(iterate 3 exact rfl);all_goals (intro h;first|(exact absurd h (by decide))|((try simp only [go_sem,simprocAttr,aB,hc1] at h);(try with_reducible intro K hK);simp only [go_sem,simprocAttr,aB,hc1])))|((first|((with_reducible apply wL);exact rfl)|((with_reducible apply wM);exact rfl));all_goals (try ((with_reducible intro h);first|(exact absurd h (by decide))|(try simp only [go_sem,simprocAttr,aB,hc1] at h))))|omega|((first|refine aa hX hC hP (Kw) rfl rfl rfl (by simp only [go_sem,simprocAttr,aB,hc1]) rfl ?_|refine aa hX hC hP (Lb) rfl rfl rfl (by simp only [go_sem,simprocAttr,aB,hc1]) rfl ?_);try simp only [go_sem,simprocAttr,aB,hc1])|(intro h))
 refine ah (fun k:Nat=>k≤b.y.length∧∀j,j<k→wV b (b.y.getD s 0) (b.y.getD t 0) q j=false) (fun k=>⟨[(2,eN q),(3, .ptr 3 0),(7,eN (b.y.getD s 0)),(8,eN (b.y.getD t 0)),(43, .d (sI b.y)),(44,eN b.y.length),(45,eN k)], [(3, .box [.d (sI b.y), .d (sI b.fr), .d (sI b.to), .d (sI b.x)])]⟩) (fun k=>b.y.length - k) 0 ⟨by omega,fun j hj=>by omega⟩ ?_ ?_
 ·refine Le.of ?_ ?_<;>simp [go_sem,simprocAttr]
 rintro k ⟨hk,hin⟩
 rcases Nat.lt_or_ge k b.y.length with bF|yM
 rotate_left
 ·have hb:decide ((k:Int)<(b.y.length:Int))=false:=decide_eq_false (by omega)
  obtain rfl:k=b.y.length:=by omega
  rw [gB (f:=fun x=> !wV b (b.y.getD s 0) (b.y.getD t 0) q x) (fun i hi=>by rw [hin i hi];rfl)]
  repeat' (first|((first|((with_reducible (first|apply oA|apply oB));exact rfl;intro K hK)|(refine hK _ ?_;clear hK K)|((with_reducible (first|apply oG|apply oH));iterate 3 exact rfl)|((with_reducible apply oI);(iterate 2 exact rfl);intro K hK)|(with_reducible (first|apply wI|apply wJ|apply wK)));try simp only [go_sem,simprocAttr,hb])|(with_reducible (first|apply oC|apply oJ|exact oK|apply wA|apply wB|apply wC hX hC|apply wD hX hC|apply wE hX hC af|apply wF hX hC af|apply wG|apply wH|apply And.intro))|((with_reducible refine oD ?_ ?_);kernel_rfl)|((with_reducible (first|apply oE|apply oF));(iterate 3 exact rfl);all_goals (intro h;first|(exact absurd h (by decide))|((try simp only [go_sem,simprocAttr,hb] at h);(try with_reducible intro K hK);simp only [go_sem,simprocAttr,hb])))|((first|((with_reducible apply wL);exact rfl)|((with_reducible apply wM);exact rfl));all_goals (try ((with_reducible intro h);first|(exact absurd h (by decide))|(try simp only [go_sem,simprocAttr,hb] at h))))|omega|(intro h))
 have hb:decide ((k:Int)<(b.y.length:Int))=true:=decide_eq_true (by omega)
 have Oc:=hH k bF
 have hap:wV b (b.y.getD s 0) (b.y.getD t 0) q k=(decide (b.y.getD s 0<b.y.getD k 0)&&decide (b.y.getD k 0<b.y.getD t 0)&&hasB b k q):=rfl
 have hno:wV b (b.y.getD s 0) (b.y.getD t 0) q k=true→((List.range b.y.length).all fun x=> !wV b (b.y.getD s 0) (b.y.getD t 0) q x)=false:=fun h1=>fJ bF (by rw [h1];rfl)
 have hyes:wV b (b.y.getD s 0) (b.y.getD t 0) q k=false→∀j,j<k+1→wV b (b.y.getD s 0) (b.y.getD t 0) q j=false:=fun h1 j hj=>by
  by_cases tV:j=k
  ·subst tV;exact h1
  ·exact hin j (by omega)
 generalize wV b (b.y.getD s 0) (b.y.getD t 0) q k=av at*
 cases dJ:decide (b.y.getD s 0<b.y.getD k 0)<;>cases hd2:decide (b.y.getD k 0<b.y.getD t 0)<;>cases iR:hasB b k q<;>rw [dJ,hd2,iR] at hap<;>simp only [Bool.and_true,Bool.and_false,Bool.true_and,Bool.false_and] at hap<;>subst hap<;>rw [iR] at Oc
 all_goals (
 repeat' (first|((first|((with_reducible (first|apply oA|apply oB));exact rfl;intro K hK)|(refine hK _ ?_;clear hK K)|((with_reducible (first|apply oG|apply oH));iterate 3 exact rfl)|((with_reducible apply oI);(iterate 2 exact rfl);intro K hK)|(with_reducible (first|apply wI|apply wJ|apply wK)));try simp only [go_sem,simprocAttr,aB,hb,dJ,hd2])|(with_reducible (first|apply oC|apply oJ|exact oK|apply wA|apply wB|apply wC hX hC|apply wD hX hC|apply wE hX hC af|apply wF hX hC af|apply wG|apply wH|apply And.intro))|((with_reducible refine oD ?_ ?_);kernel_rfl)|((with_reducible (first|apply oE|apply oF));(iterate 3 exact rfl);all_goals (intro h;first|(exact absurd h (by decide))|((try simp only [go_sem,simprocAttr,aB,hb,dJ,hd2] at h);(try with_reducible intro K hK);simp only [go_sem,simprocAttr,aB,hb,dJ,hd2])))|((first|((with_reducible apply wL);exact rfl)|((with_reducible apply wM);exact rfl));all_goals (try ((with_reducible intro h);first|(exact absurd h (by decide))|(try simp only [go_sem,simprocAttr,aB,hb,dJ,hd2] at h))))|omega|((first|(refine aY hX hC hP (Oc) rfl rfl rfl ?_ ?_ rfl ?_;iterate 2 (focus (simp only [go_sem,simprocAttr,aB,hb,dJ,hd2];done))));try simp only [go_sem,simprocAttr,aB,hb,dJ,hd2])|(intro h)))
 all_goals (first|(exact hno rfl)|(exact (hno rfl).symm)|(refine ⟨k+1,⟨by omega,hyes rfl⟩, ?_,by omega⟩;refine Le.of ?_ ?_<;>simp [go_sem];done)|trace_state)
def Ce (g:Gr) (b:Br) (i k:Nat):Bool:=decide (b.x.getD k 0=b.x.getD i 0)&&decide (b.y.getD (tl g i).toNat 0<b.y.getD (hd g k).toNat 0)&&decide (b.y.getD (tl g k).toNat 0<b.y.getD (hd g i).toNat 0)
def Fa (g:Gr) (b:Br) (i:Nat):Bool:=dN b (tl g i).toNat (hd g i).toNat (b.x.getD i 0)&&(List.range i).all fun k=> !Ce g b i k
def bW (g:Gr) (b:Br):Bool:=decide ((bJ g).1=0)&&mX b g&&kH b&&(List.range g.es.length).all (Fa g b)
theorem iq (g:Gr) (b:Br) (hl:g.es.length≤1000) (au:b.y.length≤1000) (ak:b.x.length≤1000):Spec Tryz.prog 41 (Args [eG g,aB b]) [] (eB (bW g b)) []:=by
 have Lc:=iK g hl
 have Kx:=Cd b g
 by_cases hc:(bJ g).1=0
 rotate_left
 ·have hr:bW g b=false:=by unfold bW;rw [decide_eq_false hc];rfl
  have hc0:decide ((bJ g).1=0)=false:=decide_eq_false hc
  rw [hr]
  (refine Spec.intro (C:=T.cfg [] []) (rs:= [.t 4]) (T.aj _ _) Tryz.func41 rfl rfl Tryz.ntmps41 Tryz.results41 (by simp [AObj.isNest]) (by simp [AObj.isNest]) (by kernel_rfl) ?_;intro X hX hP hC aL aM vals hA;refine ⟨_,by simp,hA, ?_⟩;have af:X.P.follows .mixedOrders=true:=(by rw [hP];exact T.mixed);clear aL aM)
  repeat' (first|((first|((with_reducible (first|apply oA|apply oB));exact rfl;intro K hK)|(refine hK _ ?_;clear hK K)|((with_reducible (first|apply oG|apply oH));iterate 3 exact rfl)|((with_reducible apply oI);(iterate 2 exact rfl);intro K hK)|(with_reducible (first|apply wI|apply wJ|apply wK)));try simp only [go_sem,simprocAttr,eF,aB,hc0])|(with_reducible (first|apply oC|apply oJ|exact oK|apply wA|apply wB|apply wC hX hC|apply wD hX hC|apply wE hX hC af|apply wF hX hC af|apply wG|apply wH|apply And.intro))|((with_reducible refine oD ?_ ?_);kernel_rfl)|((with_reducible (first|apply oE|apply oF));(iterate 3 exact rfl);all_goals (intro h;first|(exact absurd h (by decide))|((try simp only [go_sem,simprocAttr,eF,aB,hc0] at h);(try with_reducible intro K hK);simp only [go_sem,simprocAttr,eF,aB,hc0])))|((first|((with_reducible apply wL);exact rfl)|((with_reducible apply wM);exact rfl));all_goals (try ((with_reducible intro h);first|(exact absurd h (by decide))|(try simp only [go_sem,simprocAttr,eF,aB,hc0] at h))))|omega|((first|refine aa hX hC hP (Lc) rfl rfl rfl (by simp only [go_sem,simprocAttr,eF,aB,hc0]) rfl ?_);try simp only [go_sem,simprocAttr,eF,aB,hc0])|(intro h))
 have hc0:decide ((bJ g).1=0)=true:=decide_eq_true hc
 cases Fb:mX b g with
 |false=>
  have hr:bW g b=false:=by unfold bW;rw [Fb];simp
  rw [hr]
  rw [Fb] at Kx
  (refine Spec.intro (C:=T.cfg [] []) (rs:= [.t 4]) (T.aj _ _) Tryz.func41 rfl rfl Tryz.ntmps41 Tryz.results41 (by simp [AObj.isNest]) (by simp [AObj.isNest]) (by kernel_rfl) ?_;intro X hX hP hC aL aM vals hA;refine ⟨_,by simp,hA, ?_⟩;have af:X.P.follows .mixedOrders=true:=(by rw [hP];exact T.mixed);clear aL aM)
  repeat' (first|((first|((with_reducible (first|apply oA|apply oB));exact rfl;intro K hK)|(refine hK _ ?_;clear hK K)|((with_reducible (first|apply oG|apply oH));iterate 3 exact rfl)|((with_reducible apply oI);(iterate 2 exact rfl);intro K hK)|(with_reducible (first|apply wI|apply wJ|apply wK)));try simp only [go_sem,simprocAttr,eF,aB,hc0])|(with_reducible (first|apply oC|apply oJ|exact oK|apply wA|apply wB|apply wC hX hC|apply wD hX hC|apply wE hX hC af|apply wF hX hC af|apply wG|apply wH|apply And.intro))|((with_reducible refine oD ?_ ?_);kernel_rfl)|((with_reducible (first|apply oE|apply oF));(iterate 3 exact rfl);all_goals (intro h;first|(exact absurd h (by decide))|((try simp only [go_sem,simprocAttr,eF,aB,hc0] at h);(try with_reducible intro K hK);simp only [go_sem,simprocAttr,eF,aB,hc0])))|((first|((with_reducible apply wL);exact rfl)|((with_reducible apply wM);exact rfl));all_goals (try ((with_reducible intro h);first|(exact absurd h (by decide))|(try simp only [go_sem,simprocAttr,eF,aB,hc0] at h))))|omega|((first|refine aa hX hC hP (Lc) rfl rfl rfl (by simp only [go_sem,simprocAttr,eF,aB,hc0]) rfl ?_|refine aa hX hC hP (Kx) rfl rfl rfl (by simp only [go_sem,simprocAttr,eF,aB,hc0]) rfl ?_);try simp only [go_sem,simprocAttr,eF,aB,hc0])|(intro h))
 |true=>
 rw [Fb] at Kx
 have hm:=aC hc
 have hn:=aT hm
 have Ez:=Fb
 simp only [mX,Bool.and_eq_true,decide_eq_true_eq] at Ez
 obtain ⟨⟨⟨l1,l2⟩,l3⟩,l4⟩:=Ez
 have Ld:=apart_spec b (by omega) (by omega) (by omega)
 cases hap:kH b with
 |false=>
  have hr:bW g b=false:=by unfold bW;rw [hap];simp
  rw [hr]
  rw [hap] at Ld
  (refine Spec.intro (C:=T.cfg [] []) (rs:= [.t 4]) (T.aj _ _) Tryz.func41 rfl rfl Tryz.ntmps41 Tryz.results41 (by simp [AObj.isNest]) (by simp [AObj.isNest]) (by kernel_rfl) ?_;intro X hX hP hC aL aM vals hA;refine ⟨_,by simp,hA, ?_⟩;have af:X.P.follows .mixedOrders=true:=(by rw [hP];exact T.mixed);clear aL aM)
  repeat' (first|((first|((with_reducible (first|apply oA|apply oB));exact rfl;intro K hK)|(refine hK _ ?_;clear hK K)|((with_reducible (first|apply oG|apply oH));iterate 3 exact rfl)|((with_reducible apply oI);(iterate 2 exact rfl);intro K hK)|(with_reducible (first|apply wI|apply wJ|apply wK)));try simp only [go_sem,simprocAttr,eF,aB,hc0])|(with_reducible (first|apply oC|apply oJ|exact oK|apply wA|apply wB|apply wC hX hC|apply wD hX hC|apply wE hX hC af|apply wF hX hC af|apply wG|apply wH|apply And.intro))|((with_reducible refine oD ?_ ?_);kernel_rfl)|((with_reducible (first|apply oE|apply oF));(iterate 3 exact rfl);all_goals (intro h;first|(exact absurd h (by decide))|((try simp only [go_sem,simprocAttr,eF,aB,hc0] at h);(try with_reducible intro K hK);simp only [go_sem,simprocAttr,eF,aB,hc0])))|((first|((with_reducible apply wL);exact rfl)|((with_reducible apply wM);exact rfl));all_goals (try ((with_reducible intro h);first|(exact absurd h (by decide))|(try simp only [go_sem,simprocAttr,eF,aB,hc0] at h))))|omega|((first|refine aa hX hC hP (Lc) rfl rfl rfl (by simp only [go_sem,simprocAttr,eF,aB,hc0]) rfl ?_|refine aa hX hC hP (Kx) rfl rfl rfl (by simp only [go_sem,simprocAttr,eF,aB,hc0]) rfl ?_|refine aa hX hC hP (Ld) rfl rfl rfl (by simp only [go_sem,simprocAttr,eF,aB,hc0]) rfl ?_);try simp only [go_sem,simprocAttr,eF,aB,hc0])|(intro h))
 |true=>
 rw [hap] at Ld
 have hr:bW g b=(List.range g.es.length).all (Fa g b):=by unfold bW;rw [hc0,Fb,hap];rfl
 rw [hr]
 (refine Spec.intro (C:=T.cfg [] []) (rs:= [.t 4]) (T.aj _ _) Tryz.func41 rfl rfl Tryz.ntmps41 Tryz.results41 (by simp [AObj.isNest]) (by simp [AObj.isNest]) (by kernel_rfl) ?_;intro X hX hP hC aL aM vals hA;refine ⟨_,by simp,hA, ?_⟩;have af:X.P.follows .mixedOrders=true:=(by rw [hP];exact T.mixed);clear aL aM)
 repeat' (first|((first|((with_reducible (first|apply oA|apply oB));exact rfl;intro K hK)|(refine hK _ ?_;clear hK K)|((with_reducible (first|apply oG|apply oH));iterate 3 exact rfl)|((with_reducible apply oI);(iterate 2 exact rfl);intro K hK)|(with_reducible (first|apply wI|apply wJ|apply wK)));try simp only [go_sem,simprocAttr,eF,aB,hc0])|(with_reducible (first|apply oC|apply oJ|exact oK|apply wA|apply wB|apply wC hX hC|apply wD hX hC|apply wE hX hC af|apply wF hX hC af|apply wG|apply wH|apply And.intro))|((with_reducible refine oD ?_ ?_);kernel_rfl)|((with_reducible (first|apply oE|apply oF));(iterate 3 exact rfl);all_goals (intro h;first|(exact absurd h (by decide))|((try simp only [go_sem,simprocAttr,eF,aB,hc0] at h);(try with_reducible intro K hK);simp only [go_sem,simprocAttr,eF,aB,hc0])))|((first|((with_reducible apply wL);exact rfl)|((with_reducible apply wM);exact rfl));all_goals (try ((with_reducible intro h);first|(exact absurd h (by decide))|(try simp only [go_sem,simprocAttr,eF,aB,hc0] at h))))|omega|((first|refine aa hX hC hP (Lc) rfl rfl rfl (by simp only [go_sem,simprocAttr,eF,aB,hc0]) rfl ?_|refine aa hX hC hP (Kx) rfl rfl rfl (by simp only [go_sem,simprocAttr,eF,aB,hc0]) rfl ?_|refine aa hX hC hP (Ld) rfl rfl rfl (by simp only [go_sem,simprocAttr,eF,aB,hc0]) rfl ?_);try simp only [go_sem,simprocAttr,eF,aB,hc0])|(intro h))
 refine ah (fun i:Nat=>i≤g.es.length∧∀j,j<i→Fa g b j=true) (fun i=>⟨[(2, .ptr 2 0),(3, .ptr 3 0),(25, .d (sE g.es)),(26,eN g.es.length),(27,eN i)], [(2, .box [eN g.n, .d (sE g.es)]),(3, .box [.d (sI b.y), .d (sI b.fr), .d (sI b.to), .d (sI b.x)])]⟩) (fun i=>g.es.length - i) 0 ⟨by omega,fun j hj=>by omega⟩ ?_ ?_
 ·refine Le.of ?_ ?_<;>simp [go_sem,simprocAttr,aB]
 rintro i ⟨hi,hin⟩
 rcases Nat.lt_or_ge i g.es.length with hil|JY
 rotate_left
 ·have dI:decide ((i:Int)<(g.es.length:Int))=false:=decide_eq_false (by omega)
  obtain rfl:i=g.es.length:=by omega
  rw [gB hin]
  repeat' (first|((first|((with_reducible (first|apply oA|apply oB));exact rfl;intro K hK)|(refine hK _ ?_;clear hK K)|((with_reducible (first|apply oG|apply oH));iterate 3 exact rfl)|((with_reducible apply oI);(iterate 2 exact rfl);intro K hK)|(with_reducible (first|apply wI|apply wJ|apply wK)));try simp only [go_sem,simprocAttr,dI])|(with_reducible (first|apply oC|apply oJ|exact oK|apply wA|apply wB|apply wC hX hC|apply wD hX hC|apply wE hX hC af|apply wF hX hC af|apply wG|apply wH|apply And.intro))|((with_reducible refine oD ?_ ?_);kernel_rfl)|((with_reducible (first|apply oE|apply oF));(iterate 3 exact rfl);all_goals (intro h;first|(exact absurd h (by decide))|((try simp only [go_sem,simprocAttr,dI] at h);(try with_reducible intro K hK);simp only [go_sem,simprocAttr,dI])))|((first|((with_reducible apply wL);exact rfl)|((with_reducible apply wM);exact rfl));all_goals (try ((with_reducible intro h);first|(exact absurd h (by decide))|(try simp only [go_sem,simprocAttr,dI] at h))))|omega|(intro h))
 have dI:decide ((i:Int)<(g.es.length:Int))=true:=decide_eq_true (by omega)
 obtain ⟨t1,t2⟩:=dL hm hil
 obtain ⟨s,hs⟩:∃s:Nat,(g.es.getD i (0,0)).1=s:=⟨(g.es.getD i (0,0)).1.toNat,by omega⟩
 obtain ⟨t,ht⟩:∃t:Nat,(g.es.getD i (0,0)).2=t:=⟨(g.es.getD i (0,0)).2.toNat,by omega⟩
 have hts:(tl g i).toNat=s:=by show ((g.es.getD i (0,0)).1).toNat=s;rw [hs];rfl
 have yN:(hd g i).toNat=t:=by show ((g.es.getD i (0,0)).2).toNat=t;rw [ht];rfl
 have E8:=zQ b s t (b.x.getD i 0) (by omega) (by omega) (by omega) (by omega) (by omega)
 have kR:Fa g b i=(dN b s t (b.x.getD i 0)&&(List.range i).all fun k=> !Ce g b i k):=by unfold Fa;rw [hts,yN]
 cases nQ:dN b s t (b.x.getD i 0) with
 |false=>
  rw [nQ] at E8
  rw [fJ hil (f:=Fa g b) (by rw [kR,nQ];rfl)]
  repeat' (first|((first|((with_reducible (first|apply oA|apply oB));exact rfl;intro K hK)|(refine hK _ ?_;clear hK K)|((with_reducible (first|apply oG|apply oH));iterate 3 exact rfl)|((with_reducible apply oI);(iterate 2 exact rfl);intro K hK)|(with_reducible (first|apply wI|apply wJ|apply wK)));try simp only [go_sem,simprocAttr,aB,dI,hs,ht])|(with_reducible (first|apply oC|apply oJ|exact oK|apply wA|apply wB|apply wC hX hC|apply wD hX hC|apply wE hX hC af|apply wF hX hC af|apply wG|apply wH|apply And.intro))|((with_reducible refine oD ?_ ?_);kernel_rfl)|((with_reducible (first|apply oE|apply oF));(iterate 3 exact rfl);all_goals (intro h;first|(exact absurd h (by decide))|((try simp only [go_sem,simprocAttr,aB,dI,hs,ht] at h);(try with_reducible intro K hK);simp only [go_sem,simprocAttr,aB,dI,hs,ht])))|((first|((with_reducible apply wL);exact rfl)|((with_reducible apply wM);exact rfl));all_goals (try ((with_reducible intro h);first|(exact absurd h (by decide))|(try simp only [go_sem,simprocAttr,aB,dI,hs,ht] at h))))|omega|((first|(refine aY hX hC hP (E8) rfl rfl rfl ?_ ?_ rfl ?_;iterate 2 (focus (simp only [go_sem,simprocAttr,aB,dI,hs,ht];done))));try simp only [go_sem,simprocAttr,aB,dI,hs,ht])|(intro h))
 |true=>
 rw [nQ] at E8 kR
 rw [Bool.true_and] at kR
 repeat' (first|((first|((with_reducible (first|apply oA|apply oB));exact rfl;intro K hK)|(refine hK _ ?_;clear hK K)|((with_reducible (first|apply oG|apply oH));iterate 3 exact rfl)|((with_reducible apply oI);(iterate 2 exact rfl);intro K hK)|(with_reducible (first|apply wI|apply wJ|apply wK)));try simp only [go_sem,simprocAttr,aB,dI,hs,ht])|(with_reducible (first|apply oC|apply oJ|exact oK|apply wA|apply wB|apply wC hX hC|apply wD hX hC|apply wE hX hC af|apply wF hX hC af|apply wG|apply wH|apply And.intro))|((with_reducible refine oD ?_ ?_);kernel_rfl)|((with_reducible (first|apply oE|apply oF));(iterate 3 exact rfl);all_goals (intro h;first|(exact absurd h (by decide))|((try simp only [go_sem,simprocAttr,aB,dI,hs,ht] at h);(try with_reducible intro K hK);simp only [go_sem,simprocAttr,aB,dI,hs,ht])))|((first|((with_reducible apply wL);exact rfl)|((with_reducible apply wM);exact rfl));all_goals (try ((with_reducible intro h);first|(exact absurd h (by decide))|(try simp only [go_sem,simprocAttr,aB,dI,hs,ht] at h))))|omega|((first|(refine aY hX hC hP (E8) rfl rfl rfl ?_ ?_ rfl ?_;iterate 2 (focus (simp only [go_sem,simprocAttr,aB,dI,hs,ht];done))));try simp only [go_sem,simprocAttr,aB,dI,hs,ht])|(intro h))
 refine ah (fun k:Nat=>k≤i∧∀j,j<k→Ce g b i j=false) (fun k=>⟨[(2, .ptr 2 0),(3, .ptr 3 0),(5,eN i),(6, .ptr 6 0),(25, .d (sE g.es)),(26,eN g.es.length),(27,eN i),(44, .d (.sl 2 ((g.es.map rE).take i))),(45,eN i),(46,eN k)], [(2, .box [eN g.n, .d (sE g.es)]),(3, .box [.d (sI b.y), .d (sI b.fr), .d (sI b.to), .d (sI b.x)]),(6, .box [eN s,eN t])]⟩) (fun k=>i - k) 0 ⟨by omega,fun j hj=>by omega⟩ ?_ ?_
 ·refine Le.of ?_ ?_<;>simp [go_sem,simprocAttr]
  all_goals omega
 rintro k ⟨hk,EA⟩
 rcases Nat.lt_or_ge k i with bF|yM
 rotate_left
 ·have hbk:decide ((k:Int)<(i:Int))=false:=decide_eq_false (by omega)
  obtain rfl:k=i:=by omega
  repeat' (first|((first|((with_reducible (first|apply oA|apply oB));exact rfl;intro K hK)|(refine hK _ ?_;clear hK K)|((with_reducible (first|apply oG|apply oH));iterate 3 exact rfl)|((with_reducible apply oI);(iterate 2 exact rfl);intro K hK)|(with_reducible (first|apply wI|apply wJ|apply wK)));try simp only [go_sem,simprocAttr,hbk])|(with_reducible (first|apply oC|apply oJ|exact oK|apply wA|apply wB|apply wC hX hC|apply wD hX hC|apply wE hX hC af|apply wF hX hC af|apply wG|apply wH|apply And.intro))|((with_reducible refine oD ?_ ?_);kernel_rfl)|((with_reducible (first|apply oE|apply oF));(iterate 3 exact rfl);all_goals (intro h;first|(exact absurd h (by decide))|((try simp only [go_sem,simprocAttr,hbk] at h);(try with_reducible intro K hK);simp only [go_sem,simprocAttr,hbk])))|((first|((with_reducible apply wL);exact rfl)|((with_reducible apply wM);exact rfl));all_goals (try ((with_reducible intro h);first|(exact absurd h (by decide))|(try simp only [go_sem,simprocAttr,hbk] at h))))|omega|(intro h))
  refine ⟨k+1,⟨by omega,fun j hj=> ?_⟩, ?_,by omega⟩
  ·by_cases hjk:j=k
   ·subst hjk
    rw [kR,gB (f:=fun z=> !Ce g b j z) (fun z hz=>by rw [EA z hz];rfl)]
   ·exact hin j (by omega)
  ·refine Le.of ?_ ?_<;>simp [go_sem,simprocAttr,hbk]
 have hbk:decide ((k:Int)<(i:Int))=true:=decide_eq_true (by omega)
 obtain ⟨t3,t4⟩:=dL hm (k:=k) (by omega)
 obtain ⟨s',hs'⟩:∃s':Nat,(g.es.getD k (0,0)).1=s':=⟨(g.es.getD k (0,0)).1.toNat,by omega⟩
 obtain ⟨t',ht'⟩:∃t':Nat,(g.es.getD k (0,0)).2=t':=⟨(g.es.getD k (0,0)).2.toNat,by omega⟩
 have Ii:(tl g k).toNat=s':=by show ((g.es.getD k (0,0)).1).toNat=s';rw [hs'];rfl
 have Ij:(hd g k).toNat=t':=by show ((g.es.getD k (0,0)).2).toNat=t';rw [ht'];rfl
 have w6:∀d,((g.es.map rE).take i).getD k d= [.sc (.int .i64 (s':Int)), .sc (.int .i64 (t':Int))]:=fun d=>by
  rw [List.getD_eq_getElem?_getD,List.getElem?_take,if_pos bF,List.getElem?_map]
  have e:g.es[k]? =some (g.es.getD k (0,0)):=by rw [List.getD_eq_getElem?_getD,List.getElem?_eq_getElem (by omega)];rfl
  rw [e]
  show rE (g.es.getD k (0,0))=_
  rw [show g.es.getD k (0,0)=((s':Int),(t':Int)) from Prod.ext hs' ht'];rfl
 have jy:((g.es.map rE).take i).length=i:=by rw [List.length_take,List.length_map];omega
 have Na:Ce g b i k=(decide (b.x.getD k 0=b.x.getD i 0)&&decide (b.y.getD s 0<b.y.getD t' 0)&&decide (b.y.getD s' 0<b.y.getD t 0)):=by unfold Ce;rw [hts,yN,Ii,Ij]
 have hno:Ce g b i k=true→(List.range g.es.length).all (Fa g b)=false:=fun h1=>fJ hil (by rw [kR];exact fJ (f:=fun z=> !Ce g b i z) bF (by rw [h1];rfl))
 have hyes:Ce g b i k=false→∀j,j<k+1→Ce g b i j=false:=fun h1 j hj=>by
  by_cases tV:j=k
  ·subst tV;exact h1
  ·exact EA j (by omega)
 generalize Ce g b i k=av at*
 generalize (g.es.map rE).take i=T1 at*
 cases dJ:decide (b.x.getD k 0=b.x.getD i 0)<;>cases hd2:decide (b.y.getD s 0<b.y.getD t' 0)<;>cases iR:decide (b.y.getD s' 0<b.y.getD t 0)<;>rw [dJ,hd2,iR] at Na<;>simp only [Bool.and_true,Bool.and_false,Bool.true_and,Bool.false_and] at Na<;>subst Na
 all_goals (
 repeat' (first|((first|((with_reducible (first|apply oA|apply oB));exact rfl;intro K hK)|(refine hK _ ?_;clear hK K)|((with_reducible (first|apply oG|apply oH));iterate 3 exact rfl)|((with_reducible apply oI);(iterate 2 exact rfl);intro K hK)|(with_reducible (first|apply wI|apply wJ|apply wK)));try simp only [go_sem,simprocAttr,hbk,dJ,hd2,iR,w6,jy])|(with_reducible (first|apply oC|apply oJ|exact oK|apply wA|apply wB|apply wC hX hC|apply wD hX hC|apply wE hX hC af|apply wF hX hC af|apply wG|apply wH|apply And.intro))|((with_reducible refine oD ?_ ?_);kernel_rfl)|((with_reducible (first|apply oE|apply oF));(iterate 3 exact rfl);all_goals (intro h;first|(exact absurd h (by decide))|((try simp only [go_sem,simprocAttr,hbk,dJ,hd2,iR,w6,jy] at h);(try with_reducible intro K hK);simp only [go_sem,simprocAttr,hbk,dJ,hd2,iR,w6,jy])))|((first|((with_reducible apply wL);exact rfl)|((with_reducible apply wM);exact rfl));all_goals (try ((with_reducible intro h);first|(exact absurd h (by decide))|(try simp only [go_sem,simprocAttr,hbk,dJ,hd2,iR,w6,jy] at h))))|omega|(intro h)))
 all_goals (first|(exact hno rfl)|(exact (hno rfl).symm)|(refine ⟨k+1,⟨by omega,hyes rfl⟩, ?_,by omega⟩;refine Le.of ?_ ?_<;>simp [go_sem];done)|trace_state)
end Go.Ab
end
section
namespace Go.Ab
open Go.Proofs
attribute [local congr] ACall.congr
set_option maxRecDepth 20000
set_option maxHeartbeats 32000000
theorem yD (b:Br) (x:Nat) (q:Int) (h1:x<b.fr.length) (h2:x<b.to.length) (hl:b.fr.length≤100000):Spec Tryz.prog 73 (Args [aB b,eN x,eN q]) [] (eB (hasB b x q)) []:=by
 cases hc:decide (b.fr.getD x 0≤q) with
 |false=>
  have hr:hasB b x q=false:=by unfold hasB;rw [hc];rfl
  rw [hr]
  (refine Spec.intro (C:=T.cfg [] []) (rs:= [.t 6]) (T.aj _ _) Tryz.func73 rfl rfl Tryz.ntmps73 Tryz.results73 (by simp [AObj.isNest]) (by simp [AObj.isNest]) (by kernel_rfl) ?_;intro X hX hP hC aL aM vals hA;refine ⟨_,by simp,hA, ?_⟩;have af:X.P.follows .mixedOrders=true:=(by rw [hP];exact T.mixed);clear aL aM)
  repeat' (first|((first|((with_reducible (first|apply oA|apply oB));exact rfl;intro K hK)|(refine hK _ ?_;clear hK K)|((with_reducible (first|apply oG|apply oH));iterate 3 exact rfl)|((with_reducible apply oI);(iterate 2 exact rfl);intro K hK)|(with_reducible (first|apply wI|apply wJ|apply wK)));try simp only [go_sem,simprocAttr,aB,hc])|(with_reducible (first|apply oC|apply oJ|exact oK|apply wA|apply wB|apply wC hX hC|apply wD hX hC|apply wE hX hC af|apply wF hX hC af|apply wG|apply wH|apply And.intro))|((with_reducible refine oD ?_ ?_);kernel_rfl)|((with_reducible (first|apply oE|apply oF));(iterate 3 exact rfl);all_goals (intro h;first|(exact absurd h (by decide))|((try simp only [go_sem,simprocAttr,aB,hc] at h);(try with_reducible intro K hK);simp only [go_sem,simprocAttr,aB,hc])))|((first|((with_reducible apply wL);exact rfl)|((with_reducible apply wM);exact rfl));all_goals (try ((with_reducible intro h);first|(exact absurd h (by decide))|(try simp only [go_sem,simprocAttr,aB,hc] at h))))|omega|(intro h))
 |true=>
  have hr:hasB b x q=decide (q≤b.to.getD x 0):=by unfold hasB;rw [hc];rfl
  rw [hr]
  (refine Spec.intro (C:=T.cfg [] []) (rs:= [.t 6]) (T.aj _ _) Tryz.func73 rfl rfl Tryz.ntmps73 Tryz.results73 (by simp [AObj.isNest]) (by simp [AObj.isNest]) (by kernel_rfl) ?_;intro X hX hP hC aL aM vals hA;refine ⟨_,by simp,hA, ?_⟩;have af:X.P.follows .mixedOrders=true:=(by rw [hP];exact T.mixed);clear aL aM)
  repeat' (first|((first|((with_reducible (first|apply oA|apply oB));exact rfl;intro K hK)|(refine hK _ ?_;clear hK K)|((with_reducible (first|apply oG|apply oH));iterate 3 exact rfl)|((with_reducible apply oI);(iterate 2 exact rfl);intro K hK)|(with_reducible (first|apply wI|apply wJ|apply wK)));try simp only [go_sem,simprocAttr,aB,hc])|(with_reducible (first|apply oC|apply oJ|exact oK|apply wA|apply wB|apply wC hX hC|apply wD hX hC|apply wE hX hC af|apply wF hX hC af|apply wG|apply wH|apply And.intro))|((with_reducible refine oD ?_ ?_);kernel_rfl)|((with_reducible (first|apply oE|apply oF));(iterate 3 exact rfl);all_goals (intro h;first|(exact absurd h (by decide))|((try simp only [go_sem,simprocAttr,aB,hc] at h);(try with_reducible intro K hK);simp only [go_sem,simprocAttr,aB,hc])))|((first|((with_reducible apply wL);exact rfl)|((with_reducible apply wM);exact rfl));all_goals (try ((with_reducible intro h);first|(exact absurd h (by decide))|(try simp only [go_sem,simprocAttr,aB,hc] at h))))|omega|(intro h))
def Fe (b:Br) (x z:Nat):Bool:= !decide ((x:Int)=(z:Int))&&decide (b.y.getD x 0=b.y.getD z 0)&& !(decide (b.to.getD x 0<b.fr.getD z 0)||decide (b.to.getD z 0<b.fr.getD x 0))
def EB (b:Br) (n x:Nat):Bool:=decide (b.fr.getD x 0≤b.to.getD x 0)&&(List.range n).all fun z=> !Fe b x z
def Cv (g:Gr) (b:Br) (i k:Nat):Bool:= !decide ((k:Int)=(i:Int))&&decide (b.x.getD k 0=b.x.getD i 0)&& !(decide (b.y.getD (hd g i).toNat 0≤b.y.getD (tl g k).toNat 0)||decide (b.y.getD (hd g k).toNat 0≤b.y.getD (tl g i).toNat 0))
def EC (g:Gr) (b:Br) (i:Nat):Bool:=dN b (tl g i).toNat (hd g i).toNat (b.x.getD i 0)&&(List.range g.es.length).all fun k=> !Cv g b i k
def fD (g:Gr) (b:Br):Bool:=decide ((bJ g).1=0)&&mX b g&&(List.range b.y.length).all (EB b b.y.length)&&(List.range g.es.length).all (EC g b)
theorem yE (g:Gr) (b:Br):fD g b=bW g b:=by
 have e1:(List.range b.y.length).all (EB b b.y.length)=kH b:=by
  rw [Bool.eq_iff_iff]
  unfold kH
  simp only [List.all_eq_true,List.mem_range,EB,Ih,Bool.and_eq_true,decide_eq_true_eq,Bool.not_eq_true',Fe,Ex,Bool.and_eq_false_iff,Bool.or_eq_false_iff,Bool.not_eq_false',Bool.or_eq_true,decide_eq_false_iff_not,Bool.not_eq_eq_eq_not,Bool.not_true,Bool.not_false]
  constructor
  ·intro h x hx
   refine ⟨(h x hx).1,fun z hz=> ?_⟩
   have:=(h x hx).2 z (by omega)
   omega
  ·intro h x hx
   refine ⟨(h x hx).1,fun z hz=> ?_⟩
   rcases Nat.lt_trichotomy x z with h1|h1|h1
   ·have:=(h z hz).2 x h1;omega
   ·omega
   ·have:=(h x hx).2 z h1;omega
 have e2:(List.range g.es.length).all (EC g b)=(List.range g.es.length).all (Fa g b):=by
  rw [Bool.eq_iff_iff]
  simp only [List.all_eq_true,List.mem_range,EC,Fa,Bool.and_eq_true,decide_eq_true_eq,Bool.not_eq_true',Cv,Ce,Bool.and_eq_false_iff,Bool.or_eq_false_iff,Bool.not_eq_false',Bool.or_eq_true,decide_eq_false_iff_not,Bool.not_eq_eq_eq_not,Bool.not_true,Bool.not_false]
  constructor
  ·intro h i hi
   refine ⟨(h i hi).1,fun k hk=> ?_⟩
   have:=(h i hi).2 k (by omega)
   omega
  ·intro h i hi
   refine ⟨(h i hi).1,fun k hk=> ?_⟩
   rcases Nat.lt_trichotomy i k with h1|h1|h1
   ·have:=(h k hk).2 i h1;omega
   ·omega
   ·have:=(h i hi).2 k h1;omega
 unfold fD bW
 rw [e1,e2]
end Go.Ab
end
section
namespace Go.Ab
open Go.Proofs
attribute [local congr] ACall.congr
set_option maxRecDepth 20000
set_option maxHeartbeats 32000000
theorem ug (g:Gr) (b:Br) (hl:g.es.length≤1000) (au:b.y.length≤1000) (ak:b.x.length≤1000):Spec Tryz.prog 40 (Args [eG g,aB b]) [] (eB (bW g b)) []:=by
 rw [← yE]
 have H8:=ue g (by omega)
 by_cases hc:(bJ g).1=0
 rotate_left
 ·have hr:fD g b=false:=by unfold fD;rw [decide_eq_false hc];rfl
  rw [hr]
  rw [decide_eq_false hc] at H8
  (refine Spec.intro (C:=T.cfg [] []) (rs:= [.t 4]) (T.aj _ _) Tryz.func40 rfl rfl Tryz.ntmps40 Tryz.results40 (by simp [AObj.isNest]) (by simp [AObj.isNest]) (by kernel_rfl) ?_;intro X hX hP hC aL aM vals hA;refine ⟨_,by simp,hA, ?_⟩;have af:X.P.follows .mixedOrders=true:=(by rw [hP];exact T.mixed);clear aL aM)
  repeat' (first|((first|((with_reducible (first|apply oA|apply oB));exact rfl;intro K hK)|(refine hK _ ?_;clear hK K)|((with_reducible (first|apply oG|apply oH));iterate 3 exact rfl)|((with_reducible apply oI);(iterate 2 exact rfl);intro K hK)|(with_reducible (first|apply wI|apply wJ|apply wK)));try simp only [go_sem,simprocAttr,aB])|(with_reducible (first|apply oC|apply oJ|exact oK|apply wA|apply wB|apply wC hX hC|apply wD hX hC|apply wE hX hC af|apply wF hX hC af|apply wG|apply wH|apply And.intro))|((with_reducible refine oD ?_ ?_);kernel_rfl)|((with_reducible (first|apply oE|apply oF));(iterate 3 exact rfl);all_goals (intro h;first|(exact absurd h (by decide))|((try simp only [go_sem,simprocAttr,aB] at h);(try with_reducible intro K hK);simp only [go_sem,simprocAttr,aB])))|((first|((with_reducible apply wL);exact rfl)|((with_reducible apply wM);exact rfl));all_goals (try ((with_reducible intro h);first|(exact absurd h (by decide))|(try simp only [go_sem,simprocAttr,aB] at h))))|omega|((first|refine aa hX hC hP (H8) rfl rfl rfl (by simp only [go_sem,simprocAttr,aB]) rfl ?_);try simp only [go_sem,simprocAttr,aB])|(intro h))
 rw [decide_eq_true hc] at H8
 cases Fb:mX b g with
 |false=>
  have hr:fD g b=false:=by unfold fD;rw [Fb];simp
  rw [hr]
  have hf:mX b g=(decide ((b.y.length:Int)=g.n)&&decide ((b.fr.length:Int)=g.n)&&decide ((b.to.length:Int)=g.n)&&decide ((b.x.length:Int)=(g.es.length:Int))):=rfl
  rw [Fb] at hf
  cases h1:decide ((b.y.length:Int)=g.n)<;>cases h2:decide ((b.fr.length:Int)=g.n)<;>cases h3:decide ((b.to.length:Int)=g.n)<;>cases h4:decide ((b.x.length:Int)=(g.es.length:Int))<;>rw [h1,h2,h3,h4] at hf<;>simp only [Bool.and_true,Bool.and_false,Bool.true_and,Bool.false_and] at hf
  all_goals (first|(exact absurd hf (by decide))|skip)
  all_goals (
  (refine Spec.intro (C:=T.cfg [] []) (rs:= [.t 4]) (T.aj _ _) Tryz.func40 rfl rfl Tryz.ntmps40 Tryz.results40 (by simp [AObj.isNest]) (by simp [AObj.isNest]) (by kernel_rfl) ?_;intro X hX hP hC aL aM vals hA;refine ⟨_,by simp,hA, ?_⟩;have af:X.P.follows .mixedOrders=true:=(by rw [hP];exact T.mixed);clear aL aM)
  repeat' (first|((first|((with_reducible (first|apply oA|apply oB));exact rfl;intro K hK)|(refine hK _ ?_;clear hK K)|((with_reducible (first|apply oG|apply oH));iterate 3 exact rfl)|((with_reducible apply oI);(iterate 2 exact rfl);intro K hK)|(with_reducible (first|apply wI|apply wJ|apply wK)));try simp only [go_sem,simprocAttr,aB,h1,h2,h3,h4])|(with_reducible (first|apply oC|apply oJ|exact oK|apply wA|apply wB|apply wC hX hC|apply wD hX hC|apply wE hX hC af|apply wF hX hC af|apply wG|apply wH|apply And.intro))|((with_reducible refine oD ?_ ?_);kernel_rfl)|((with_reducible (first|apply oE|apply oF));(iterate 3 exact rfl);all_goals (intro h;first|(exact absurd h (by decide))|((try simp only [go_sem,simprocAttr,aB,h1,h2,h3,h4] at h);(try with_reducible intro K hK);simp only [go_sem,simprocAttr,aB,h1,h2,h3,h4])))|((first|((with_reducible apply wL);exact rfl)|((with_reducible apply wM);exact rfl));all_goals (try ((with_reducible intro h);first|(exact absurd h (by decide))|(try simp only [go_sem,simprocAttr,aB,h1,h2,h3,h4] at h))))|omega|((first|refine aa hX hC hP (H8) rfl rfl rfl (by simp only [go_sem,simprocAttr,aB,h1,h2,h3,h4]) rfl ?_);try simp only [go_sem,simprocAttr,aB,h1,h2,h3,h4])|(intro h)))
 |true=>
 have hm:=aC hc
 have hn:=aT hm
 have Ez:=Fb
 simp only [mX,Bool.and_eq_true,decide_eq_true_eq] at Ez
 obtain ⟨⟨⟨l1,l2⟩,l3⟩,l4⟩:=Ez
 have l5:b.fr.length=b.y.length:=by omega
 have l6:b.to.length=b.y.length:=by omega
 have l7:b.x.length=g.es.length:=by omega
 have m1:decide ((b.y.length:Int)=g.n)=true:=decide_eq_true l1
 have FF:g.n=(b.y.length:Int):=by omega
 have hr:fD g b=((List.range b.y.length).all (EB b b.y.length)&&(List.range g.es.length).all (EC g b)):=by
  unfold fD;rw [decide_eq_true hc,Fb];rfl
 rw [hr]
 (refine Spec.intro (C:=T.cfg [] []) (rs:= [.t 4]) (T.aj _ _) Tryz.func40 rfl rfl Tryz.ntmps40 Tryz.results40 (by simp [AObj.isNest]) (by simp [AObj.isNest]) (by kernel_rfl) ?_;intro X hX hP hC aL aM vals hA;refine ⟨_,by simp,hA, ?_⟩;have af:X.P.follows .mixedOrders=true:=(by rw [hP];exact T.mixed);clear aL aM)
 repeat' (first|((first|((with_reducible (first|apply oA|apply oB));exact rfl;intro K hK)|(refine hK _ ?_;clear hK K)|((with_reducible (first|apply oG|apply oH));iterate 3 exact rfl)|((with_reducible apply oI);(iterate 2 exact rfl);intro K hK)|(with_reducible (first|apply wI|apply wJ|apply wK)));try simp only [go_sem,simprocAttr,aB,l5,l6,l7,m1,decide_true])|(with_reducible (first|apply oC|apply oJ|exact oK|apply wA|apply wB|apply wC hX hC|apply wD hX hC|apply wE hX hC af|apply wF hX hC af|apply wG|apply wH|apply And.intro))|((with_reducible refine oD ?_ ?_);kernel_rfl)|((with_reducible (first|apply oE|apply oF));(iterate 3 exact rfl);all_goals (intro h;first|(exact absurd h (by decide))|((try simp only [go_sem,simprocAttr,aB,l5,l6,l7,m1,decide_true] at h);(try with_reducible intro K hK);simp only [go_sem,simprocAttr,aB,l5,l6,l7,m1,decide_true])))|((first|((with_reducible apply wL);exact rfl)|((with_reducible apply wM);exact rfl));all_goals (try ((with_reducible intro h);first|(exact absurd h (by decide))|(try simp only [go_sem,simprocAttr,aB,l5,l6,l7,m1,decide_true] at h))))|omega|((first|refine aa hX hC hP (H8) rfl rfl rfl (by simp only [go_sem,simprocAttr,aB,l5,l6,l7,m1,decide_true]) rfl ?_);try simp only [go_sem,simprocAttr,aB,l5,l6,l7,m1,decide_true])|(intro h))
 refine ah (fun k:Nat=>k≤b.y.length∧∀j,j<k→EB b b.y.length j=true) (fun k=>⟨[(2, .ptr 2 0),(3, .ptr 3 0),(5,eN k)], [(2, .box [eN g.n, .d (sE g.es)]),(3, .box [.d (sI b.y), .d (sI b.fr), .d (sI b.to), .d (sI b.x)])]⟩) (fun k=>b.y.length - k) 0 ⟨by omega,fun j hj=>by omega⟩ ?_ ?_
 ·refine Le.of ?_ ?_<;>simp [go_sem,simprocAttr,aB]
 rintro k ⟨hk,hin⟩
 rcases Nat.lt_or_ge k b.y.length with bF|yM
 ·have hb:decide ((k:Int)<g.n)=true:=decide_eq_true (by omega)
  by_cases DF:b.fr.getD k 0≤b.to.getD k 0
  rotate_left
  ·have hc1:decide (b.to.getD k 0<b.fr.getD k 0)=true:=decide_eq_true (by omega)
   rw [fJ bF (f:=EB b b.y.length) (by unfold EB;rw [decide_eq_false DF];rfl),Bool.false_and]
   repeat' (first|((first|((with_reducible (first|apply oA|apply oB));exact rfl;intro K hK)|(refine hK _ ?_;clear hK K)|((with_reducible (first|apply oG|apply oH));iterate 3 exact rfl)|((with_reducible apply oI);(iterate 2 exact rfl);intro K hK)|(with_reducible (first|apply wI|apply wJ|apply wK)));try simp only [go_sem,simprocAttr,hb,hc1,l5,l6])|(with_reducible (first|apply oC|apply oJ|exact oK|apply wA|apply wB|apply wC hX hC|apply wD hX hC|apply wE hX hC af|apply wF hX hC af|apply wG|apply wH|apply And.intro))|((with_reducible refine oD ?_ ?_);kernel_rfl)|((with_reducible (first|apply oE|apply oF));(iterate 3 exact rfl);all_goals (intro h;first|(exact absurd h (by decide))|((try simp only [go_sem,simprocAttr,hb,hc1,l5,l6] at h);(try with_reducible intro K hK);simp only [go_sem,simprocAttr,hb,hc1,l5,l6])))|((first|((with_reducible apply wL);exact rfl)|((with_reducible apply wM);exact rfl));all_goals (try ((with_reducible intro h);first|(exact absurd h (by decide))|(try simp only [go_sem,simprocAttr,hb,hc1,l5,l6] at h))))|omega|(intro h))
  have hc1:decide (b.to.getD k 0<b.fr.getD k 0)=false:=decide_eq_false (by omega)
  repeat' (first|((first|((with_reducible (first|apply oA|apply oB));exact rfl;intro K hK)|(refine hK _ ?_;clear hK K)|((with_reducible (first|apply oG|apply oH));iterate 3 exact rfl)|((with_reducible apply oI);(iterate 2 exact rfl);intro K hK)|(with_reducible (first|apply wI|apply wJ|apply wK)));try simp only [go_sem,simprocAttr,hb,hc1,l5,l6])|(with_reducible (first|apply oC|apply oJ|exact oK|apply wA|apply wB|apply wC hX hC|apply wD hX hC|apply wE hX hC af|apply wF hX hC af|apply wG|apply wH|apply And.intro))|((with_reducible refine oD ?_ ?_);kernel_rfl)|((with_reducible (first|apply oE|apply oF));(iterate 3 exact rfl);all_goals (intro h;first|(exact absurd h (by decide))|((try simp only [go_sem,simprocAttr,hb,hc1,l5,l6] at h);(try with_reducible intro K hK);simp only [go_sem,simprocAttr,hb,hc1,l5,l6])))|((first|((with_reducible apply wL);exact rfl)|((with_reducible apply wM);exact rfl));all_goals (try ((with_reducible intro h);first|(exact absurd h (by decide))|(try simp only [go_sem,simprocAttr,hb,hc1,l5,l6] at h))))|omega|(intro h))
  refine ah (fun z:Nat=>z≤b.y.length∧∀j,j<z→Fe b k j=false) (fun z=>⟨[(2, .ptr 2 0),(3, .ptr 3 0),(5,eN k),(6,eN z)], [(2, .box [eN g.n, .d (sE g.es)]),(3, .box [.d (sI b.y), .d (sI b.fr), .d (sI b.to), .d (sI b.x)])]⟩) (fun z=>b.y.length - z) 0 ⟨by omega,fun j hj=>by omega⟩ ?_ ?_
  ·refine Le.of ?_ ?_<;>simp [go_sem,simprocAttr]
  rintro z ⟨hz,Ey⟩
  rcases Nat.lt_or_ge z b.y.length with hzl|Mq
  rotate_left
  ·have hbz:decide ((z:Int)<g.n)=false:=decide_eq_false (by omega)
   obtain rfl:z=b.y.length:=by omega
   repeat' (first|((first|((with_reducible (first|apply oA|apply oB));exact rfl;intro K hK)|(refine hK _ ?_;clear hK K)|((with_reducible (first|apply oG|apply oH));iterate 3 exact rfl)|((with_reducible apply oI);(iterate 2 exact rfl);intro K hK)|(with_reducible (first|apply wI|apply wJ|apply wK)));try simp only [go_sem,simprocAttr,hbz])|(with_reducible (first|apply oC|apply oJ|exact oK|apply wA|apply wB|apply wC hX hC|apply wD hX hC|apply wE hX hC af|apply wF hX hC af|apply wG|apply wH|apply And.intro))|((with_reducible refine oD ?_ ?_);kernel_rfl)|((with_reducible (first|apply oE|apply oF));(iterate 3 exact rfl);all_goals (intro h;first|(exact absurd h (by decide))|((try simp only [go_sem,simprocAttr,hbz] at h);(try with_reducible intro K hK);simp only [go_sem,simprocAttr,hbz])))|((first|((with_reducible apply wL);exact rfl)|((with_reducible apply wM);exact rfl));all_goals (try ((with_reducible intro h);first|(exact absurd h (by decide))|(try simp only [go_sem,simprocAttr,hbz] at h))))|omega|(intro h))
   refine ⟨k+1,⟨by omega,fun j hj=> ?_⟩, ?_,by omega⟩
   ·by_cases tV:j=k
    ·subst tV
     unfold EB
     rw [decide_eq_true DF,gB (f:=fun z=> !Fe b j z) (fun i hi=>by rw [Ey i hi];rfl)];rfl
    ·exact hin j (by omega)
   ·refine Le.of ?_ ?_<;>simp [go_sem,simprocAttr,hbz]
  have hbz:decide ((z:Int)<g.n)=true:=decide_eq_true (by omega)
  have hap:Fe b k z=(!decide ((k:Int)=(z:Int))&&decide (b.y.getD k 0=b.y.getD z 0)&& !(decide (b.to.getD k 0<b.fr.getD z 0)||decide (b.to.getD z 0<b.fr.getD k 0))):=rfl
  have hno:Fe b k z=true→((List.range b.y.length).all (EB b b.y.length)&&(List.range g.es.length).all (EC g b))=false:=fun h1=>by
   rw [fJ bF (f:=EB b b.y.length) (by unfold EB;rw [fJ (f:=fun z=> !Fe b k z) hzl (by rw [h1];rfl),Bool.and_false]),Bool.false_and]
  have hyes:Fe b k z=false→∀j,j<z+1→Fe b k j=false:=fun h1 j hj=>by
   by_cases tV:j=z
   ·subst tV;exact h1
   ·exact Ey j (by omega)
  generalize Fe b k z=av at*
  cases Ky:decide ((k:Int)=(z:Int))<;>cases dJ:decide (b.y.getD k 0=b.y.getD z 0)<;>cases hd2:decide (b.to.getD k 0<b.fr.getD z 0)<;>cases iR:decide (b.to.getD z 0<b.fr.getD k 0)<;>rw [Ky,dJ,hd2,iR] at hap<;>simp only [Bool.and_true,Bool.and_false,Bool.true_and,Bool.false_and,Bool.not_true,Bool.not_false,Bool.or_true,Bool.or_false] at hap<;>subst hap
  all_goals (
  repeat' (first|((first|((with_reducible (first|apply oA|apply oB));exact rfl;intro K hK)|(refine hK _ ?_;clear hK K)|((with_reducible (first|apply oG|apply oH));iterate 3 exact rfl)|((with_reducible apply oI);(iterate 2 exact rfl);intro K hK)|(with_reducible (first|apply wI|apply wJ|apply wK)));try simp only [go_sem,simprocAttr,hbz,Ky,dJ,hd2,iR,l5,l6])|(with_reducible (first|apply oC|apply oJ|exact oK|apply wA|apply wB|apply wC hX hC|apply wD hX hC|apply wE hX hC af|apply wF hX hC af|apply wG|apply wH|apply And.intro))|((with_reducible refine oD ?_ ?_);kernel_rfl)|((with_reducible (first|apply oE|apply oF));(iterate 3 exact rfl);all_goals (intro h;first|(exact absurd h (by decide))|((try simp only [go_sem,simprocAttr,hbz,Ky,dJ,hd2,iR,l5,l6] at h);(try with_reducible intro K hK);simp only [go_sem,simprocAttr,hbz,Ky,dJ,hd2,iR,l5,l6])))|((first|((with_reducible apply wL);exact rfl)|((with_reducible apply wM);exact rfl));all_goals (try ((with_reducible intro h);first|(exact absurd h (by decide))|(try simp only [go_sem,simprocAttr,hbz,Ky,dJ,hd2,iR,l5,l6] at h))))|omega|(intro h)))
  all_goals (first|(exact hno rfl)|(exact (hno rfl).symm)|(refine ⟨z+1,⟨by omega,hyes rfl⟩, ?_,by omega⟩;refine Le.of ?_ ?_<;>simp [go_sem];done)|trace_state)
 have hb:decide ((k:Int)<g.n)=false:=decide_eq_false (by omega)
 obtain rfl:k=b.y.length:=by omega
 rw [gB hin,Bool.true_and]
 repeat' (first|((first|((with_reducible (first|apply oA|apply oB));exact rfl;intro K hK)|(refine hK _ ?_;clear hK K)|((with_reducible (first|apply oG|apply oH));iterate 3 exact rfl)|((with_reducible apply oI);(iterate 2 exact rfl);intro K hK)|(with_reducible (first|apply wI|apply wJ|apply wK)));try simp only [go_sem,simprocAttr,hb])|(with_reducible (first|apply oC|apply oJ|exact oK|apply wA|apply wB|apply wC hX hC|apply wD hX hC|apply wE hX hC af|apply wF hX hC af|apply wG|apply wH|apply And.intro))|((with_reducible refine oD ?_ ?_);kernel_rfl)|((with_reducible (first|apply oE|apply oF));(iterate 3 exact rfl);all_goals (intro h;first|(exact absurd h (by decide))|((try simp only [go_sem,simprocAttr,hb] at h);(try with_reducible intro K hK);simp only [go_sem,simprocAttr,hb])))|((first|((with_reducible apply wL);exact rfl)|((with_reducible apply wM);exact rfl));all_goals (try ((with_reducible intro h);first|(exact absurd h (by decide))|(try simp only [go_sem,simprocAttr,hb] at h))))|omega|(intro h))
 refine ah (fun i:Nat=>i≤g.es.length∧∀j,j<i→EC g b j=true) (fun i=>⟨[(2, .ptr 2 0),(3, .ptr 3 0),(7,eN i)], [(2, .box [eN g.n, .d (sE g.es)]),(3, .box [.d (sI b.y), .d (sI b.fr), .d (sI b.to), .d (sI b.x)])]⟩) (fun i=>g.es.length - i) 0 ⟨by omega,fun j hj=>by omega⟩ ?_ ?_
 ·refine Le.of ?_ ?_<;>simp [go_sem,simprocAttr]
 rintro i ⟨hi,Kz⟩
 rcases Nat.lt_or_ge i g.es.length with hil|JY
 rotate_left
 ·have dI:decide ((i:Int)<(g.es.length:Int))=false:=decide_eq_false (by omega)
  obtain rfl:i=g.es.length:=by omega
  rw [gB Kz]
  repeat' (first|((first|((with_reducible (first|apply oA|apply oB));exact rfl;intro K hK)|(refine hK _ ?_;clear hK K)|((with_reducible (first|apply oG|apply oH));iterate 3 exact rfl)|((with_reducible apply oI);(iterate 2 exact rfl);intro K hK)|(with_reducible (first|apply wI|apply wJ|apply wK)));try simp only [go_sem,simprocAttr,dI])|(with_reducible (first|apply oC|apply oJ|exact oK|apply wA|apply wB|apply wC hX hC|apply wD hX hC|apply wE hX hC af|apply wF hX hC af|apply wG|apply wH|apply And.intro))|((with_reducible refine oD ?_ ?_);kernel_rfl)|((with_reducible (first|apply oE|apply oF));(iterate 3 exact rfl);all_goals (intro h;first|(exact absurd h (by decide))|((try simp only [go_sem,simprocAttr,dI] at h);(try with_reducible intro K hK);simp only [go_sem,simprocAttr,dI])))|((first|((with_reducible apply wL);exact rfl)|((with_reducible apply wM);exact rfl));all_goals (try ((with_reducible intro h);first|(exact absurd h (by decide))|(try simp only [go_sem,simprocAttr,dI] at h))))|omega|(intro h))
 have dI:decide ((i:Int)<(g.es.length:Int))=true:=decide_eq_true (by omega)
 obtain ⟨t1,t2⟩:=dL hm hil
 obtain ⟨s,hs⟩:∃s:Nat,(g.es.getD i (0,0)).1=s:=⟨(g.es.getD i (0,0)).1.toNat,by omega⟩
 obtain ⟨t,ht⟩:∃t:Nat,(g.es.getD i (0,0)).2=t:=⟨(g.es.getD i (0,0)).2.toNat,by omega⟩
 have hts:(tl g i).toNat=s:=by show ((g.es.getD i (0,0)).1).toNat=s;rw [hs];rfl
 have yN:(hd g i).toNat=t:=by show ((g.es.getD i (0,0)).2).toNat=t;rw [ht];rfl
 have kR:EC g b i=(dN b s t (b.x.getD i 0)&&(List.range g.es.length).all fun k=> !Cv g b i k):=by unfold EC;rw [hts,yN]
 have hW:=fun x (hx:x<b.y.length)=>yD b x (b.x.getD i 0) (by omega) (by omega) (by omega)
 have KA:=hW s (by omega)
 have Lg:=hW t (by omega)
 have nQ:dN b s t (b.x.getD i 0)=(decide (b.y.getD s 0<b.y.getD t 0)&&hasB b s (b.x.getD i 0)&&hasB b t (b.x.getD i 0)&&(List.range b.y.length).all fun x=> !wV b (b.y.getD s 0) (b.y.getD t 0) (b.x.getD i 0) x):=rfl
 have Ge:dN b s t (b.x.getD i 0)=false→(List.range g.es.length).all (EC g b)=false:=fun h1=>fJ hil (by rw [kR,h1];rfl)
 generalize hq:b.x.getD i 0=q at*
 by_cases hc1:b.y.getD s 0<b.y.getD t 0
 rotate_left
 ·have dJ:decide (b.y.getD t 0≤b.y.getD s 0)=true:=decide_eq_true (by omega)
  rw [Ge (by rw [nQ,decide_eq_false hc1];rfl)]
  repeat' (first|((first|((with_reducible (first|apply oA|apply oB));exact rfl;intro K hK)|(refine hK _ ?_;clear hK K)|((with_reducible (first|apply oG|apply oH));iterate 3 exact rfl)|((with_reducible apply oI);(iterate 2 exact rfl);intro K hK)|(with_reducible (first|apply wI|apply wJ|apply wK)));try simp only [go_sem,simprocAttr,dI,hs,ht,dJ])|(with_reducible (first|apply oC|apply oJ|exact oK|apply wA|apply wB|apply wC hX hC|apply wD hX hC|apply wE hX hC af|apply wF hX hC af|apply wG|apply wH|apply And.intro))|((with_reducible refine oD ?_ ?_);kernel_rfl)|((with_reducible (first|apply oE|apply oF));(iterate 3 exact rfl);all_goals (intro h;first|(exact absurd h (by decide))|((try simp only [go_sem,simprocAttr,dI,hs,ht,dJ] at h);(try with_reducible intro K hK);simp only [go_sem,simprocAttr,dI,hs,ht,dJ])))|((first|((with_reducible apply wL);exact rfl)|((with_reducible apply wM);exact rfl));all_goals (try ((with_reducible intro h);first|(exact absurd h (by decide))|(try simp only [go_sem,simprocAttr,dI,hs,ht,dJ] at h))))|omega|(intro h))
 have dJ:decide (b.y.getD t 0≤b.y.getD s 0)=false:=decide_eq_false (by omega)
 rw [decide_eq_true hc1,Bool.true_and] at nQ
 cases hvs:hasB b s q with
 |false=>
  rw [hvs] at KA
  rw [Ge (by rw [nQ,hvs];rfl)]
  repeat' (first|((first|((with_reducible (first|apply oA|apply oB));exact rfl;intro K hK)|(refine hK _ ?_;clear hK K)|((with_reducible (first|apply oG|apply oH));iterate 3 exact rfl)|((with_reducible apply oI);(iterate 2 exact rfl);intro K hK)|(with_reducible (first|apply wI|apply wJ|apply wK)));try simp only [go_sem,simprocAttr,aB,dI,hs,ht,dJ,hq,l7])|(with_reducible (first|apply oC|apply oJ|exact oK|apply wA|apply wB|apply wC hX hC|apply wD hX hC|apply wE hX hC af|apply wF hX hC af|apply wG|apply wH|apply And.intro))|((with_reducible refine oD ?_ ?_);kernel_rfl)|((with_reducible (first|apply oE|apply oF));(iterate 3 exact rfl);all_goals (intro h;first|(exact absurd h (by decide))|((try simp only [go_sem,simprocAttr,aB,dI,hs,ht,dJ,hq,l7] at h);(try with_reducible intro K hK);simp only [go_sem,simprocAttr,aB,dI,hs,ht,dJ,hq,l7])))|((first|((with_reducible apply wL);exact rfl)|((with_reducible apply wM);exact rfl));all_goals (try ((with_reducible intro h);first|(exact absurd h (by decide))|(try simp only [go_sem,simprocAttr,aB,dI,hs,ht,dJ,hq,l7] at h))))|omega|((first|refine aa hX hC hP (KA) rfl rfl rfl (by simp only [go_sem,simprocAttr,aB,dI,hs,ht,dJ,hq,l7]) rfl ?_);try simp only [go_sem,simprocAttr,aB,dI,hs,ht,dJ,hq,l7])|(intro h))
 |true=>
 rw [hvs] at KA nQ
 cases GN:hasB b t q with
 |false=>
  rw [GN] at Lg
  rw [Ge (by rw [nQ,GN];rfl)]
  repeat' (first|((first|((with_reducible (first|apply oA|apply oB));exact rfl;intro K hK)|(refine hK _ ?_;clear hK K)|((with_reducible (first|apply oG|apply oH));iterate 3 exact rfl)|((with_reducible apply oI);(iterate 2 exact rfl);intro K hK)|(with_reducible (first|apply wI|apply wJ|apply wK)));try simp only [go_sem,simprocAttr,aB,dI,hs,ht,dJ,hq,l7])|(with_reducible (first|apply oC|apply oJ|exact oK|apply wA|apply wB|apply wC hX hC|apply wD hX hC|apply wE hX hC af|apply wF hX hC af|apply wG|apply wH|apply And.intro))|((with_reducible refine oD ?_ ?_);kernel_rfl)|((with_reducible (first|apply oE|apply oF));(iterate 3 exact rfl);all_goals (intro h;first|(exact absurd h (by decide))|((try simp only [go_sem,simprocAttr,aB,dI,hs,ht,dJ,hq,l7] at h);(try with_reducible intro K hK);simp only [go_sem,simprocAttr,aB,dI,hs,ht,dJ,hq,l7])))|((first|((with_reducible apply wL);exact rfl)|((with_reducible apply wM);exact rfl));all_goals (try ((with_reducible intro h);first|(exact absurd h (by decide))|(try simp only [go_sem,simprocAttr,aB,dI,hs,ht,dJ,hq,l7] at h))))|omega|((first|refine aa hX hC hP (KA) rfl rfl rfl (by simp only [go_sem,simprocAttr,aB,dI,hs,ht,dJ,hq,l7]) rfl ?_|refine aa hX hC hP (Lg) rfl rfl rfl (by simp only [go_sem,simprocAttr,aB,dI,hs,ht,dJ,hq,l7]) rfl ?_);try simp only [go_sem,simprocAttr,aB,dI,hs,ht,dJ,hq,l7])|(intro h))
 |true=>
 rw [GN] at Lg nQ
 rw [Bool.true_and,Bool.true_and] at nQ
 repeat' (first|((first|((with_reducible (first|apply oA|apply oB));exact rfl;intro K hK)|(refine hK _ ?_;clear hK K)|((with_reducible (first|apply oG|apply oH));iterate 3 exact rfl)|((with_reducible apply oI);(iterate 2 exact rfl);intro K hK)|(with_reducible (first|apply wI|apply wJ|apply wK)));try simp only [go_sem,simprocAttr,aB,dI,hs,ht,dJ,hq,l7])|(with_reducible (first|apply oC|apply oJ|exact oK|apply wA|apply wB|apply wC hX hC|apply wD hX hC|apply wE hX hC af|apply wF hX hC af|apply wG|apply wH|apply And.intro))|((with_reducible refine oD ?_ ?_);kernel_rfl)|((with_reducible (first|apply oE|apply oF));(iterate 3 exact rfl);all_goals (intro h;first|(exact absurd h (by decide))|((try simp only [go_sem,simprocAttr,aB,dI,hs,ht,dJ,hq,l7] at h);(try with_reducible intro K hK);simp only [go_sem,simprocAttr,aB,dI,hs,ht,dJ,hq,l7])))|((first|((with_reducible apply wL);exact rfl)|((with_reducible apply wM);exact rfl));all_goals (try ((with_reducible intro h);first|(exact absurd h (by decide))|(try simp only [go_sem,simprocAttr,aB,dI,hs,ht,dJ,hq,l7] at h))))|omega|((first|refine aa hX hC hP (KA) rfl rfl rfl (by simp only [go_sem,simprocAttr,aB,dI,hs,ht,dJ,hq,l7]) rfl ?_|refine aa hX hC hP (Lg) rfl rfl rfl (by simp only [go_sem,simprocAttr,aB,dI,hs,ht,dJ,hq,l7]) rfl ?_);try simp only [go_sem,simprocAttr,aB,dI,hs,ht,dJ,hq,l7])|(intro h))
 refine ah (fun x:Nat=>x≤b.y.length∧∀j,j<x→wV b (b.y.getD s 0) (b.y.getD t 0) q j=false) (fun x=>⟨[(2, .ptr 2 0),(3, .ptr 3 0),(7,eN i),(8, .ptr 8 0),(9,eN x)], [(2, .box [eN g.n, .d (sE g.es)]),(3, .box [.d (sI b.y), .d (sI b.fr), .d (sI b.to), .d (sI b.x)]),(8, .box [eN s,eN t])]⟩) (fun x=>b.y.length - x) 0 ⟨by omega,fun j hj=>by omega⟩ ?_ ?_
 ·refine Le.of ?_ ?_<;>simp [go_sem,simprocAttr]
 rintro x ⟨hx,KB⟩
 rcases Nat.lt_or_ge x b.y.length with hxl|Ct
 ·have dy:decide ((x:Int)<g.n)=true:=decide_eq_true (by omega)
  have Od:=hW x hxl
  have hap:wV b (b.y.getD s 0) (b.y.getD t 0) q x=(decide (b.y.getD s 0<b.y.getD x 0)&&decide (b.y.getD x 0<b.y.getD t 0)&&hasB b x q):=rfl
  have hno:wV b (b.y.getD s 0) (b.y.getD t 0) q x=true→(List.range g.es.length).all (EC g b)=false:=fun h1=>Ge (by rw [nQ];exact fJ (f:=fun x=> !wV b (b.y.getD s 0) (b.y.getD t 0) q x) hxl (by rw [h1];rfl))
  have hyes:wV b (b.y.getD s 0) (b.y.getD t 0) q x=false→∀j,j<x+1→wV b (b.y.getD s 0) (b.y.getD t 0) q j=false:=fun h1 j hj=>by
   by_cases tV:j=x
   ·subst tV;exact h1
   ·exact KB j (by omega)
  generalize wV b (b.y.getD s 0) (b.y.getD t 0) q x=av at*
  cases hd2:decide (b.y.getD s 0<b.y.getD x 0)<;>cases iR:decide (b.y.getD x 0<b.y.getD t 0)<;>cases GO:hasB b x q<;>rw [hd2,iR,GO] at hap<;>simp only [Bool.and_true,Bool.and_false,Bool.true_and,Bool.false_and] at hap<;>subst hap<;>rw [GO] at Od
  all_goals (
  repeat' (first|((first|((with_reducible (first|apply oA|apply oB));exact rfl;intro K hK)|(refine hK _ ?_;clear hK K)|((with_reducible (first|apply oG|apply oH));iterate 3 exact rfl)|((with_reducible apply oI);(iterate 2 exact rfl);intro K hK)|(with_reducible (first|apply wI|apply wJ|apply wK)));try simp only [go_sem,simprocAttr,aB,dy,hd2,iR,hq,l7])|(with_reducible (first|apply oC|apply oJ|exact oK|apply wA|apply wB|apply wC hX hC|apply wD hX hC|apply wE hX hC af|apply wF hX hC af|apply wG|apply wH|apply And.intro))|((with_reducible refine oD ?_ ?_);kernel_rfl)|((with_reducible (first|apply oE|apply oF));(iterate 3 exact rfl);all_goals (intro h;first|(exact absurd h (by decide))|((try simp only [go_sem,simprocAttr,aB,dy,hd2,iR,hq,l7] at h);(try with_reducible intro K hK);simp only [go_sem,simprocAttr,aB,dy,hd2,iR,hq,l7])))|((first|((with_reducible apply wL);exact rfl)|((with_reducible apply wM);exact rfl));all_goals (try ((with_reducible intro h);first|(exact absurd h (by decide))|(try simp only [go_sem,simprocAttr,aB,dy,hd2,iR,hq,l7] at h))))|omega|((first|refine aa hX hC hP (Od) rfl rfl rfl (by simp only [go_sem,simprocAttr,aB,dy,hd2,iR,hq,l7]) rfl ?_);try simp only [go_sem,simprocAttr,aB,dy,hd2,iR,hq,l7])|(intro h)))
  all_goals (first|(exact hno rfl)|(exact (hno rfl).symm)|(refine ⟨x+1,⟨by omega,hyes rfl⟩, ?_,by omega⟩;refine Le.of ?_ ?_<;>simp [go_sem];done)|trace_state)
 have dy:decide ((x:Int)<g.n)=false:=decide_eq_false (by omega)
 obtain rfl:x=b.y.length:=by omega
 have Nb:dN b s t q=true:=by rw [nQ];exact gB fun j hj=>by rw [KB j hj];rfl
 rw [Nb,Bool.true_and] at kR
 repeat' (first|((first|((with_reducible (first|apply oA|apply oB));exact rfl;intro K hK)|(refine hK _ ?_;clear hK K)|((with_reducible (first|apply oG|apply oH));iterate 3 exact rfl)|((with_reducible apply oI);(iterate 2 exact rfl);intro K hK)|(with_reducible (first|apply wI|apply wJ|apply wK)));try simp only [go_sem,simprocAttr,dy])|(with_reducible (first|apply oC|apply oJ|exact oK|apply wA|apply wB|apply wC hX hC|apply wD hX hC|apply wE hX hC af|apply wF hX hC af|apply wG|apply wH|apply And.intro))|((with_reducible refine oD ?_ ?_);kernel_rfl)|((with_reducible (first|apply oE|apply oF));(iterate 3 exact rfl);all_goals (intro h;first|(exact absurd h (by decide))|((try simp only [go_sem,simprocAttr,dy] at h);(try with_reducible intro K hK);simp only [go_sem,simprocAttr,dy])))|((first|((with_reducible apply wL);exact rfl)|((with_reducible apply wM);exact rfl));all_goals (try ((with_reducible intro h);first|(exact absurd h (by decide))|(try simp only [go_sem,simprocAttr,dy] at h))))|omega|(intro h))
 refine ah (fun k:Nat=>k≤g.es.length∧∀j,j<k→Cv g b i j=false) (fun k=>⟨[(2, .ptr 2 0),(3, .ptr 3 0),(7,eN i),(8, .ptr 8 0),(10,eN k)], [(2, .box [eN g.n, .d (sE g.es)]),(3, .box [.d (sI b.y), .d (sI b.fr), .d (sI b.to), .d (sI b.x)]),(8, .box [eN s,eN t])]⟩) (fun k=>g.es.length - k) 0 ⟨by omega,fun j hj=>by omega⟩ ?_ ?_
 ·refine Le.of ?_ ?_<;>simp [go_sem,simprocAttr]
 rintro k ⟨hk2,EA⟩
 rcases Nat.lt_or_ge k g.es.length with bF|yM
 rotate_left
 ·have hbk:decide ((k:Int)<(g.es.length:Int))=false:=decide_eq_false (by omega)
  obtain rfl:k=g.es.length:=by omega
  repeat' (first|((first|((with_reducible (first|apply oA|apply oB));exact rfl;intro K hK)|(refine hK _ ?_;clear hK K)|((with_reducible (first|apply oG|apply oH));iterate 3 exact rfl)|((with_reducible apply oI);(iterate 2 exact rfl);intro K hK)|(with_reducible (first|apply wI|apply wJ|apply wK)));try simp only [go_sem,simprocAttr,hbk])|(with_reducible (first|apply oC|apply oJ|exact oK|apply wA|apply wB|apply wC hX hC|apply wD hX hC|apply wE hX hC af|apply wF hX hC af|apply wG|apply wH|apply And.intro))|((with_reducible refine oD ?_ ?_);kernel_rfl)|((with_reducible (first|apply oE|apply oF));(iterate 3 exact rfl);all_goals (intro h;first|(exact absurd h (by decide))|((try simp only [go_sem,simprocAttr,hbk] at h);(try with_reducible intro K hK);simp only [go_sem,simprocAttr,hbk])))|((first|((with_reducible apply wL);exact rfl)|((with_reducible apply wM);exact rfl));all_goals (try ((with_reducible intro h);first|(exact absurd h (by decide))|(try simp only [go_sem,simprocAttr,hbk] at h))))|omega|(intro h))
  refine ⟨i+1,⟨by omega,fun j hj=> ?_⟩, ?_,by omega⟩
  ·by_cases hjk:j=i
   ·subst hjk
    rw [kR,gB (f:=fun z=> !Cv g b j z) (fun z hz=>by rw [EA z hz];rfl)]
   ·exact Kz j (by omega)
  ·refine Le.of ?_ ?_<;>simp [go_sem,simprocAttr,hbk]
 have hbk:decide ((k:Int)<(g.es.length:Int))=true:=decide_eq_true (by omega)
 obtain ⟨t3,t4⟩:=dL hm (k:=k) (by omega)
 obtain ⟨s',hs'⟩:∃s':Nat,(g.es.getD k (0,0)).1=s':=⟨(g.es.getD k (0,0)).1.toNat,by omega⟩
 obtain ⟨t',ht'⟩:∃t':Nat,(g.es.getD k (0,0)).2=t':=⟨(g.es.getD k (0,0)).2.toNat,by omega⟩
 have Ii:(tl g k).toNat=s':=by show ((g.es.getD k (0,0)).1).toNat=s';rw [hs'];rfl
 have Ij:(hd g k).toNat=t':=by show ((g.es.getD k (0,0)).2).toNat=t';rw [ht'];rfl
 have hap:Cv g b i k=(!decide ((k:Int)=(i:Int))&&decide (b.x.getD k 0=q)&& !(decide (b.y.getD t 0≤b.y.getD s' 0)||decide (b.y.getD t' 0≤b.y.getD s 0))):=by unfold Cv;rw [hts,yN,Ii,Ij,hq]
 have hno:Cv g b i k=true→(List.range g.es.length).all (EC g b)=false:=fun h1=>fJ hil (by rw [kR];exact fJ (f:=fun z=> !Cv g b i z) bF (by rw [h1];rfl))
 have hyes:Cv g b i k=false→∀j,j<k+1→Cv g b i j=false:=fun h1 j hj=>by
  by_cases tV:j=k
  ·subst tV;exact h1
  ·exact EA j (by omega)
 generalize Cv g b i k=av at*
 cases hd2:decide ((k:Int)=(i:Int))<;>cases iR:decide (b.x.getD k 0=q)<;>cases GO:decide (b.y.getD t 0≤b.y.getD s' 0)<;>cases KC:decide (b.y.getD t' 0≤b.y.getD s 0)<;>rw [hd2,iR,GO,KC] at hap<;>simp only [Bool.and_true,Bool.and_false,Bool.true_and,Bool.false_and,Bool.not_true,Bool.not_false,Bool.or_true,Bool.or_false] at hap<;>subst hap
 all_goals (
 repeat' (first|((first|((with_reducible (first|apply oA|apply oB));exact rfl;intro K hK)|(refine hK _ ?_;clear hK K)|((with_reducible (first|apply oG|apply oH));iterate 3 exact rfl)|((with_reducible apply oI);(iterate 2 exact rfl);intro K hK)|(with_reducible (first|apply wI|apply wJ|apply wK)));try simp only [go_sem,simprocAttr,hbk,hs',ht',hd2,iR,GO,KC,hq,l7])|(with_reducible (first|apply oC|apply oJ|exact oK|apply wA|apply wB|apply wC hX hC|apply wD hX hC|apply wE hX hC af|apply wF hX hC af|apply wG|apply wH|apply And.intro))|((with_reducible refine oD ?_ ?_);kernel_rfl)|((with_reducible (first|apply oE|apply oF));(iterate 3 exact rfl);all_goals (intro h;first|(exact absurd h (by decide))|((try simp only [go_sem,simprocAttr,hbk,hs',ht',hd2,iR,GO,KC,hq,l7] at h);(try with_reducible intro K hK);simp only [go_sem,simprocAttr,hbk,hs',ht',hd2,iR,GO,KC,hq,l7])))|((first|((with_reducible apply wL);exact rfl)|((with_reducible apply wM);exact rfl));all_goals (try ((with_reducible intro h);first|(exact absurd h (by decide))|(try simp only [go_sem,simprocAttr,hbk,hs',ht',hd2,iR,GO,KC,hq,l7] at h))))|omega|(intro h)))
 all_goals (first|(exact hno rfl)|(exact (hno rfl).symm)|(refine ⟨k+1,⟨by omega,hyes rfl⟩, ?_,by omega⟩;refine Le.of ?_ ?_<;>simp [go_sem];done)|trace_state)
end Go.Ab
end
section
namespace Go.Ab
open Go.Proofs
attribute [local congr] ACall.congr
set_option maxRecDepth 20000
set_option maxHeartbeats 8000000
def AU (g:Gr) (b:Br):Bool:=decide (80<(g.es.length:Int))||decide (70<(b.y.length:Int))||decide (70<(b.fr.length:Int))||decide (70<(b.to.length:Int))||decide (80<(b.x.length:Int))
theorem wW (g:Gr) (b:Br):Spec Tryz.prog 39 (Args [eG g,aB b]) [] (eB (AU g b)) []:=by
 have hf:AU g b=(decide (80<(g.es.length:Int))||decide (70<(b.y.length:Int))||decide (70<(b.fr.length:Int))||decide (70<(b.to.length:Int))||decide (80<(b.x.length:Int))):=rfl
 cases h1:decide (80<(g.es.length:Int))<;>cases h2:decide (70<(b.y.length:Int))<;>cases h3:decide (70<(b.fr.length:Int))<;>cases h4:decide (70<(b.to.length:Int))<;>rw [h1,h2,h3,h4] at hf<;>simp only [Bool.or_true,Bool.or_false,Bool.true_or,Bool.false_or] at hf<;>rw [hf]
 all_goals (
 (refine Spec.intro (C:=T.cfg [] []) (rs:= [.t 4]) (T.aj _ _) Tryz.func39 rfl rfl Tryz.ntmps39 Tryz.results39 (by simp [AObj.isNest]) (by simp [AObj.isNest]) (by kernel_rfl) ?_;intro X hX hP hC aL aM vals hA;refine ⟨_,by simp,hA, ?_⟩;have af:X.P.follows .mixedOrders=true:=(by rw [hP];exact T.mixed);clear aL aM)
 repeat' (first|((first|((with_reducible (first|apply oA|apply oB));exact rfl;intro K hK)|(refine hK _ ?_;clear hK K)|((with_reducible (first|apply oG|apply oH));iterate 3 exact rfl)|((with_reducible apply oI);(iterate 2 exact rfl);intro K hK)|(with_reducible (first|apply wI|apply wJ|apply wK)));try simp only [go_sem,simprocAttr,aB,h1,h2,h3,h4])|(with_reducible (first|apply oC|apply oJ|exact oK|apply wA|apply wB|apply wC hX hC|apply wD hX hC|apply wE hX hC af|apply wF hX hC af|apply wG|apply wH|apply And.intro))|((with_reducible refine oD ?_ ?_);kernel_rfl)|((with_reducible (first|apply oE|apply oF));(iterate 3 exact rfl);all_goals (intro h;first|(exact absurd h (by decide))|((try simp only [go_sem,simprocAttr,aB,h1,h2,h3,h4] at h);(try with_reducible intro K hK);simp only [go_sem,simprocAttr,aB,h1,h2,h3,h4])))|((first|((with_reducible apply wL);exact rfl)|((with_reducible apply wM);exact rfl));all_goals (try ((with_reducible intro h);first|(exact absurd h (by decide))|(try simp only [go_sem,simprocAttr,aB,h1,h2,h3,h4] at h))))|omega|(intro h)))
theorem Cf (b:Br):Spec Tryz.prog 43 (Args [aB b]) [] (aB b) []:=by
 (refine Spec.intro (C:=T.cfg [] []) (rs:= [.c 2 64]) (T.aj _ _) Tryz.func43 rfl rfl Tryz.ntmps43 Tryz.results43 (by simp [AObj.isNest]) (by simp [AObj.isNest]) (by kernel_rfl) ?_;intro X hX hP hC aL aM vals hA;refine ⟨_,by simp,hA, ?_⟩;have af:X.P.follows .mixedOrders=true:=(by rw [hP];exact T.mixed);clear aL aM)
 repeat' (first|((first|((with_reducible (first|apply oA|apply oB));exact rfl;intro K hK)|(refine hK _ ?_;clear hK K)|((with_reducible (first|apply oG|apply oH));iterate 3 exact rfl)|((with_reducible apply oI);(iterate 2 exact rfl);intro K hK)|(with_reducible (first|apply wI|apply wJ|apply wK)));try simp only [go_sem,simprocAttr,aB])|(with_reducible (first|apply oC|apply oJ|exact oK|apply wA|apply wB|apply wC hX hC|apply wD hX hC|apply wE hX hC af|apply wF hX hC af|apply wG|apply wH|apply And.intro))|((with_reducible refine oD ?_ ?_);kernel_rfl)|((with_reducible (first|apply oE|apply oF));(iterate 3 exact rfl);all_goals (intro h;first|(exact absurd h (by decide))|((try simp only [go_sem,simprocAttr,aB] at h);(try with_reducible intro K hK);simp only [go_sem,simprocAttr,aB])))|((first|((with_reducible apply wL);exact rfl)|((with_reducible apply wM);exact rfl));all_goals (try ((with_reducible intro h);first|(exact absurd h (by decide))|(try simp only [go_sem,simprocAttr,aB] at h))))|omega|(intro h))
theorem Nc:M8 g18 IZ=⟨[0,1,1,2], [0,0,1,0], [1,0,1,1], [0,0,1,1]⟩:=by rfl
theorem Nd:bW g18 ⟨[0,1,1,2], [0,0,1,0], [1,0,1,1], [0,0,1,1]⟩=true:=by rfl
theorem KE:cC g18 IZ:=(uY Kv (b:=true) rfl).1
theorem jw:Spec Tryz.prog 35 (Args []) [] (eB true) []:=by
 have K5:=Cc g18 IZ (by decide) KE (by decide) (by decide) (by decide) true Kv
 rw [Nc] at K5
 have Oe:=iq g18 ⟨[0,1,1,2], [0,0,1,0], [1,0,1,1], [0,0,1,1]⟩ (by decide) (by decide) (by decide)
 rw [Nd] at Oe
 have e1:g18.es.map rE= [[.sc (.int .i64 0), .sc (.int .i64 1)], [.sc (.int .i64 1), .sc (.int .i64 3)], [.sc (.int .i64 0), .sc (.int .i64 2)], [.sc (.int .i64 2), .sc (.int .i64 3)]]:=rfl
 have e2:IZ.ord.map rI= [[.sc (.int .i64 0)], [.sc (.int .i64 1)], [.sc (.int .i64 2)], [.sc (.int .i64 3)]]:=rfl
 have e3:vI IZ.outs= [[.sl 1 [[.sc (.int .i64 0)], [.sc (.int .i64 2)]]], [.sl 1 [[.sc (.int .i64 1)]]], [.sl 1 [[.sc (.int .i64 3)]]], [.sl 1 []]]:=rfl
 have e4:g18.n=4:=rfl
 (refine Spec.intro (C:=T.cfg [] []) (rs:= [.t 0]) (T.aj _ _) Tryz.func35 rfl rfl Tryz.ntmps35 Tryz.results35 (by simp [AObj.isNest]) (by simp [AObj.isNest]) (by kernel_rfl) ?_;intro X hX hP hC aL aM vals hA;refine ⟨_,by simp,hA, ?_⟩;have af:X.P.follows .mixedOrders=true:=(by rw [hP];exact T.mixed);clear aL aM)
 repeat' (first|((first|((with_reducible (first|apply oA|apply oB));exact rfl;intro K hK)|(refine hK _ ?_;clear hK K)|((with_reducible (first|apply oG|apply oH));iterate 3 exact rfl)|((with_reducible apply oI);(iterate 2 exact rfl);intro K hK)|(with_reducible (first|apply wI|apply wJ|apply wK)));try simp only [go_sem,simprocAttr,aB,e1,e2,e3,e4,List.map_cons,List.map_nil,rI,decide_true])|(with_reducible (first|apply oC|apply oJ|exact oK|apply wA|apply wB|apply wC hX hC|apply wD hX hC|apply wE hX hC af|apply wF hX hC af|apply wG|apply wH|apply And.intro))|((with_reducible refine oD ?_ ?_);kernel_rfl)|((with_reducible (first|apply oE|apply oF));(iterate 3 exact rfl);all_goals (intro h;first|(exact absurd h (by decide))|((try simp only [go_sem,simprocAttr,aB,e1,e2,e3,e4,List.map_cons,List.map_nil,rI,decide_true] at h);(try with_reducible intro K hK);simp only [go_sem,simprocAttr,aB,e1,e2,e3,e4,List.map_cons,List.map_nil,rI,decide_true])))|((first|((with_reducible apply wL);exact rfl)|((with_reducible apply wM);exact rfl));all_goals (try ((with_reducible intro h);first|(exact absurd h (by decide))|(try simp only [go_sem,simprocAttr,aB,e1,e2,e3,e4,List.map_cons,List.map_nil,rI,decide_true] at h))))|omega|((first|(refine aY hX hC hP (K5) rfl rfl rfl ?_ ?_ rfl ?_;iterate 2 (focus (simp only [go_sem,simprocAttr,aB,e1,e2,e3,e4,List.map_cons,List.map_nil,rI,decide_true];done)))|(refine aY hX hC hP (jo [0,1,1,2] [0,1,1,2] (by decide)) rfl rfl rfl ?_ ?_ rfl ?_;iterate 2 (focus (simp only [go_sem,simprocAttr,aB,e1,e2,e3,e4,List.map_cons,List.map_nil,rI,decide_true];done)))|(refine aY hX hC hP (jo [1,0,1,1] [1,0,1,1] (by decide)) rfl rfl rfl ?_ ?_ rfl ?_;iterate 2 (focus (simp only [go_sem,simprocAttr,aB,e1,e2,e3,e4,List.map_cons,List.map_nil,rI,decide_true];done)))|(refine aY hX hC hP (jo [0,0,1,1] [0,0,1,1] (by decide)) rfl rfl rfl ?_ ?_ rfl ?_;iterate 2 (focus (simp only [go_sem,simprocAttr,aB,e1,e2,e3,e4,List.map_cons,List.map_nil,rI,decide_true];done)))|(refine aY hX hC hP (Oe) rfl rfl rfl ?_ ?_ rfl ?_;iterate 2 (focus (simp only [go_sem,simprocAttr,aB,e1,e2,e3,e4,List.map_cons,List.map_nil,rI,decide_true];done))));try simp only [go_sem,simprocAttr,aB,e1,e2,e3,e4,List.map_cons,List.map_nil,rI,decide_true])|(intro h))
end Go.Ab
end
section
namespace Go.Ab
open Go.Proofs
set_option maxRecDepth 10000
structure qf (g:Gr) (b:Br):Prop where
 yQ:(bJ g).1=0
 ly:(b.y.length:Int)=g.n
 lf:(b.fr.length:Int)=g.n
 lt:(b.to.length:Int)=g.n
 lx:b.x.length=g.es.length
 Of:∀v,v<b.y.length→b.fr.getD v 0≤b.to.getD v 0
 apart:∀v,v<b.y.length→∀z,z<v→¬(b.y.getD z 0=b.y.getD v 0∧b.fr.getD z 0≤b.to.getD v 0∧b.fr.getD v 0≤b.to.getD z 0)
 up:∀i,i<g.es.length→b.y.getD (tl g i).toNat 0<b.y.getD (hd g i).toNat 0∧(b.fr.getD (tl g i).toNat 0≤b.x.getD i 0∧b.x.getD i 0≤b.to.getD (tl g i).toNat 0)∧(b.fr.getD (hd g i).toNat 0≤b.x.getD i 0∧b.x.getD i 0≤b.to.getD (hd g i).toNat 0)
 clear:∀i,i<g.es.length→∀v,v<b.y.length→¬(b.y.getD (tl g i).toNat 0<b.y.getD v 0∧b.y.getD v 0<b.y.getD (hd g i).toNat 0∧b.fr.getD v 0≤b.x.getD i 0∧b.x.getD i 0≤b.to.getD v 0)
 KF:∀i,i<g.es.length→∀k,k<i→¬(b.x.getD k 0=b.x.getD i 0∧b.y.getD (tl g i).toNat 0<b.y.getD (hd g k).toNat 0∧b.y.getD (tl g k).toNat 0<b.y.getD (hd g i).toNat 0)
theorem vl {g:Gr} {b:Br} :bW g b=true↔qf g b:=by
 unfold bW mX kH
 simp only [List.all_eq_true,List.mem_range,Bool.and_eq_true,decide_eq_true_eq,Ih,Ex,Fa,Ce,dN,wV,hasB,Bool.not_eq_true',Bool.and_eq_false_iff,decide_eq_false_iff_not]
 constructor
 ·rintro ⟨⟨⟨h1,⟨⟨h2,h3⟩,h4⟩,h5⟩,h6⟩,h7⟩
  exact ⟨h1,h2,h3,h4,by omega,fun v hv=>(h6 v hv).1,fun v hv z hz=>by have:=(h6 v hv).2 z hz;omega,fun i hi=>by have:=(h7 i hi).1.1;omega,fun i hi v hv=>by have:=(h7 i hi).1.2 v hv;omega,fun i hi k hk=>by have:=(h7 i hi).2 k hk;omega⟩
 ·rintro ⟨h1,h2,h3,h4,h5,h6,h7,h8,h9,Mt⟩
  exact ⟨⟨⟨h1,⟨⟨h2,h3⟩,h4⟩,by omega⟩,fun v hv=>⟨h6 v hv,fun z hz=>by have:=h7 v hv z hz;omega⟩⟩,fun i hi=>⟨⟨by have:=h8 i hi;omega,fun v hv=>by have:=h9 i hi v hv;omega⟩,fun k hk=>by have:=Mt i hi k hk;omega⟩⟩
def Og (b:Br):Br:=⟨b.y.map fun y=>3*y - 7,(List.range b.y.length).map fun v=>5*b.fr.getD v 0+1,(List.range b.y.length).map fun v=>5*b.to.getD v 0+2,b.x.map fun x=>5*x+1⟩
def Oh (b:Br):Br:=⟨b.y,(List.range b.y.length).map fun v=> -b.to.getD v 0,(List.range b.y.length).map fun v=> -b.fr.getD v 0,b.x.map fun x=> -x⟩
end Go.Ab
end
section
namespace Go.Ab
open Go.Proofs
set_option maxRecDepth 10000
def yB (b:Br) (v:Int):Int:=b.y.getD v.toNat 0
def fB (b:Br) (v:Int):Int:=b.fr.getD v.toNat 0
def tB (b:Br) (v:Int):Int:=b.to.getD v.toNat 0
def xB (b:Br) (e:Int):Int:=b.x.getD e.toNat 0
def yU (b:Br) (u v:Int):Prop:=yB b u<yB b v∨yB b u=yB b v∧fB b u<fB b v
structure mY (g:Gr) (b:Br) (p:Pl):Prop where
 perm:p.ord.Perm (dZ g.n.toNat)
 sort:p.ord.Pairwise (yU b)
 len:p.outs.length=g.n.toNat
 outs:∀x:Nat,x<g.n.toNat→(p.outs.getD x []).Perm (b9 g x)
 ED:∀x:Nat,x<g.n.toNat→(p.outs.getD x []).Pairwise fun i k=>xB b i<xB b k
section
variable {g:Gr} {b:Br} {p:Pl} (h:qf g b) (hp:mY g b p)
include hp
theorem mY.ok:bL g p:=⟨hp.len,hp.perm,hp.outs⟩
theorem mY.lt {j k:Nat} (hj:j<k) (hk:k<g.n.toNat):yU b (aq p j) (aq p k):=by
 have hl:=bP hp.ok
 have:=List.pairwise_iff_getElem.1 hp.sort j k (by omega) (by omega) hj
 rw [aq,aq,List.getD_eq_getElem?_getD,List.getD_eq_getElem?_getD,List.getElem?_eq_getElem (by omega),List.getElem?_eq_getElem (by omega)]
 exact this
include h
end
end Go.Ab
end
section
namespace Go.Ab
open Go.Proofs
set_option maxRecDepth 10000
set_option linter.unusedSectionVars false
def cg (lt:Int→Int→Bool) (us:List Int):Nat→Int
 |0=> -1
 |k+1=>if (!decide ((k:Int)∈us))&&(decide (cg lt us k<0)||lt k (cg lt us k)) then k else cg lt us k
def KG (lt:Int→Int→Bool) (n:Nat):Nat→List Int
 |0=> []
 |j+1=>KG lt n j++ [cg lt (KG lt n j) n]
def Nf (lt:Int→Int→Bool) (u v:Int):Prop:=lt u v=true∧lt v u=false
section
variable {lt:Int→Int→Bool} {n:Nat} {ord:List Int} (hp:ord.Perm (dZ n)) (hs:ord.Pairwise (Nf lt))
include hp hs
theorem tH {i j:Nat} (hi:i<n) (hj:j<n) (hne:i≠j):lt (ord.getD i 0) (ord.getD j 0)=decide (i<j):=by
 have hl:ord.length=n:=by rw [hp.length_eq,dm]
 have gi:ord.getD i 0=ord[i]'(by omega):=by rw [List.getD_eq_getElem?_getD,List.getElem?_eq_getElem (by omega)];rfl
 have gj:ord.getD j 0=ord[j]'(by omega):=by rw [List.getD_eq_getElem?_getD,List.getElem?_eq_getElem (by omega)];rfl
 rw [gi,gj]
 rcases Nat.lt_or_gt_of_ne hne with h|h
 ·rw [decide_eq_true h];exact (List.pairwise_iff_getElem.1 hs i j (by omega) (by omega) h).1
 ·rw [decide_eq_false (by omega)];exact (List.pairwise_iff_getElem.1 hs j i (by omega) (by omega) h).2
theorem q7 {x:Int} (h0:0≤x) (h1:x<n):∃i,i<n∧ord.getD i 0=x:=by
 have:x∈ord:=hp.mem_iff.2 (cB.2 ⟨h0,h1⟩)
 obtain ⟨i,hi,e⟩:=List.mem_iff_getElem.1 this
 have hl:ord.length=n:=by rw [hp.length_eq,dm]
 exact ⟨i,by omega,by rw [List.getD_eq_getElem?_getD,List.getElem?_eq_getElem hi];exact e⟩
theorem AW {i:Nat} (hi:i<n):0≤ord.getD i 0∧ord.getD i 0<n:=by
 have hl:ord.length=n:=by rw [hp.length_eq,dm]
 exact cB.1 (hp.mem_iff.1 (aW (by omega)))
theorem AX {i j:Nat} (hi:i<n) (hj:j<n) (e:ord.getD i 0=ord.getD j 0):i=j:=by
 have hl:ord.length=n:=by rw [hp.length_eq,dm]
 exact nG (hp.nodup_iff.2 e8) (by omega) (by omega) e
theorem EE {i j:Nat} (hi:i<n) (hj:j≤n):ord.getD i 0∈ord.take j↔i<j:=by
 have hl:ord.length=n:=by rw [hp.length_eq,dm]
 constructor
 ·intro h
  obtain ⟨k,hk,e⟩:=List.mem_iff_getElem.1 h
  simp only [List.length_take] at hk
  rw [List.getElem_take] at e
  have:ord.getD k 0=ord.getD i 0:=by rw [← e,List.getD_eq_getElem?_getD,List.getElem?_eq_getElem (by omega)];rfl
  have:=AX hp hs (by omega) hi this
  omega
 ·intro h
  rw [List.getD_eq_getElem?_getD,List.getElem?_eq_getElem (by omega),Option.getD_some]
  exact List.mem_iff_getElem.2 ⟨i,by simp;omega,by simp⟩
theorem tI {j:Nat} (hj:j≤n):∀ {k:Nat},k≤n→(cg lt (ord.take j) k= -1∧∀x:Nat,x<k→(x:Int)∈ord.take j)∨
 (0≤cg lt (ord.take j) k∧cg lt (ord.take j) k<k∧cg lt (ord.take j) k∉ord.take j∧∀x:Nat,x<k→(x:Int)∉ord.take j→(x:Int)=cg lt (ord.take j) k∨lt (cg lt (ord.take j) k) x=true)
 |0,_=> .inl ⟨rfl,fun x hx=>by omega⟩
 |k+1,hk=>by
  have ih:=tI hj (k:=k) (by omega)
  by_cases hu:(k:Int)∈ord.take j
  ·have e:cg lt (ord.take j) (k+1)=cg lt (ord.take j) k:=by rw [cg,decide_eq_true hu];rfl
   rw [e]
   rcases ih with ⟨h1,h2⟩|⟨h1,h2,h3,h4⟩
   ·refine .inl ⟨h1,fun x hx=> ?_⟩
    by_cases Gf:x=k
    ·subst Gf;exact hu
    ·exact h2 x (by omega)
   ·refine .inr ⟨h1,by omega,h3,fun x hx hn=> ?_⟩
    by_cases Gf:x=k
    ·subst Gf;exact absurd hu hn
    ·exact h4 x (by omega) hn
  ·rcases ih with ⟨h1,h2⟩|⟨h1,h2,h3,h4⟩
   ·have e:cg lt (ord.take j) (k+1)=k:=by rw [cg,decide_eq_false hu,h1];rfl
    rw [e]
    refine .inr ⟨by omega,by omega,hu,fun x hx hn=> ?_⟩
    by_cases Gf:x=k
    ·exact .inl (by rw [Gf])
    ·exact absurd (h2 x (by omega)) hn
   ·have hd:decide (cg lt (ord.take j) k<0)=false:=decide_eq_false (by omega)
    have e:cg lt (ord.take j) (k+1)=if lt k (cg lt (ord.take j) k)=true then (k:Int) else cg lt (ord.take j) k:=by
     rw [cg,decide_eq_false hu,hd];simp
    obtain ⟨a,ha,ea⟩:=q7 hp hs (x:=cg lt (ord.take j) k) h1 (by omega)
    obtain ⟨c,hc,ec⟩:=q7 hp hs (x:=(k:Int)) (by omega) (by omega)
    have hca:c≠a:=fun e=>by rw [e,ea] at ec;omega
    have hkb:lt k (cg lt (ord.take j) k)=decide (c<a):=by rw [← ea, ← ec];exact tH hp hs hc ha hca
    have hbk:lt (cg lt (ord.take j) k) k=decide (a<c):=by rw [← ea, ← ec];exact tH hp hs ha hc (Ne.symm hca)
    rw [e,hkb]
    by_cases hlt:c<a
    ·rw [if_pos (decide_eq_true hlt)]
     refine .inr ⟨by omega,by omega,hu,fun x hx hn=> ?_⟩
     by_cases Gf:x=k
     ·exact .inl (by rw [Gf])
     ·right
      obtain ⟨d,hd,ed⟩:=q7 hp hs (x:=(x:Int)) (by omega) (by omega)
      have hcd:c≠d:=fun e=>by rw [e,ed] at ec;omega
      rw [← ec, ← ed,tH hp hs hc hd hcd]
      refine decide_eq_true ?_
      rcases h4 x (by omega) hn with h5|h5
      ·have:d=a:=AX hp hs hd ha (by rw [ed,ea,h5])
       omega
      ·by_cases hda:a=d
       ·omega
       ·rw [← ea, ← ed,tH hp hs ha hd hda,decide_eq_true_eq] at h5
        omega
    ·rw [if_neg (by simp [hlt])]
     refine .inr ⟨h1,by omega,h3,fun x hx hn=> ?_⟩
     by_cases Gf:x=k
     ·subst Gf
      exact .inr (by rw [hbk];exact decide_eq_true (by omega))
     ·exact h4 x (by omega) hn
theorem Gg {j:Nat} (hj:j<n):cg lt (ord.take j) n=ord.getD j 0:=by
 have hr:=AW hp hs hj
 have KY:ord.getD j 0∉ord.take j:=fun h=>by have:=(EE hp hs hj (by omega)).1 h;omega
 have hc:(((ord.getD j 0).toNat:Nat):Int)=ord.getD j 0:=by omega
 rcases tI hp hs (j:=j) (by omega) (k:=n) (by omega) with ⟨_,h2⟩|⟨h1,h2,h3,h4⟩
 ·have:=h2 (ord.getD j 0).toNat (by omega)
  rw [hc] at this
  exact absurd this KY
 ·have h5:=h4 (ord.getD j 0).toNat (by omega) (by rw [hc];exact KY)
  rw [hc] at h5
  rcases h5 with h5|h5
  ·exact h5.symm
  ·refine Decidable.byContradiction fun hne=> ?_
   obtain ⟨i,hi,ei⟩:=q7 hp hs h1 h2
   rw [← ei] at h3 h5 hne
   have h6:¬i<j:=fun h=>h3 ((EE hp hs hi (by omega)).2 h)
   have hij:i≠j:=fun e=>hne (by rw [e])
   rw [tH hp hs hi hj hij,decide_eq_true_eq] at h5
   exact h6 h5
end
def q8 (sw:Int→Int→Bool):Int→List Int→Int × List Int
 |a, []=>(a, [])
 |a,c::r=>if sw a c then ((q8 sw c r).1,a::(q8 sw c r).2) else ((q8 sw a r).1,c::(q8 sw a r).2)
def AY (sw:Int→Int→Bool):Nat→List Int→List Int
 |0,l=>l
 |_+1, []=> []
 |n+1,a::r=>(q8 sw a r).1::AY sw n (q8 sw a r).2
theorem iS {sw:Int→Int→Bool} :∀ {l:List Int} {a:Int},((q8 sw a l).1::(q8 sw a l).2).Perm (a::l)
 | [],a=>List.Perm.refl _
 |c::r,a=>by
  rw [q8]
  split
  ·exact (List.Perm.swap ..).trans ((List.Perm.cons a (iS (l:=r) (a:=c))))
  ·exact (List.Perm.swap ..).trans ((List.Perm.cons c (iS (l:=r) (a:=a))).trans (List.Perm.swap ..))
theorem Gh {sw:Int→Int→Bool} {l:List Int} {a:Int} :(q8 sw a l).2.length=l.length:=by
 have:=(iS (sw:=sw) (l:=l) (a:=a)).length_eq
 simpa using this
theorem l8 {sw:Int→Int→Bool} :∀ {n:Nat} {l:List Int},(AY sw n l).Perm l
 |0,l=>List.Perm.refl _
 |_+1, []=>List.Perm.refl _
 |n+1,a::r=>by
  rw [AY]
  exact (List.Perm.cons _ l8).trans iS
section
variable {sw:Int→Int→Bool} {R:Int→Int→Prop} {S:Int→Prop} (htr:∀a b c,S a→S b→S c→R a b→R b c→R a c) (hsw:∀a c,S a→S c→a≠c→if sw a c=true then R c a else R a c)
include htr hsw
theorem wX:∀ {l:List Int} {a:Int},(a::l).Nodup→(∀x∈a::l,S x)→((q8 sw a l).1=a∨R (q8 sw a l).1 a)∧∀y∈(q8 sw a l).2,R (q8 sw a l).1 y
 | [],a,_,_=>⟨.inl rfl,fun y hy=>by cases hy⟩
 |c::r,a,hn,hS=>by
  have hac:a≠c:=fun e=>by subst e;simp at hn
  have h0:=hsw a c (hS a (by simp)) (hS c (by simp)) hac
  have n1:(c::r).Nodup:=(List.nodup_cons.1 hn).2
  have n2:(a::r).Nodup:=by
   rw [List.nodup_cons] at hn ⊢
   exact ⟨fun h=>hn.1 (by simp [h]),(List.nodup_cons.1 hn.2).2⟩
  rw [q8]
  split at h0<;>rename_i hs
  ·rw [if_pos hs]
   obtain ⟨h1,h2⟩:=wX (l:=r) (a:=c) n1 fun x hx=>hS x (by simp at hx ⊢;rcases hx with h|h<;>simp [h])
   have Ng:S (q8 sw c r).1:=hS _ (by have:=(iS (sw:=sw) (l:=r) (a:=c)).mem_iff.1 (List.mem_cons_self ..);simp at this ⊢;rcases this with h|h<;>simp [h])
   have hma:R (q8 sw c r).1 a:=by
    rcases h1 with h1|h1
    ·rw [h1];exact h0
    ·exact htr _ _ _ Ng (hS c (by simp)) (hS a (by simp)) h1 h0
   exact ⟨.inr hma,fun y hy=>(List.mem_cons.1 hy).elim (fun e=>e ▸ hma) (h2 y)⟩
  ·rw [if_neg hs]
   obtain ⟨h1,h2⟩:=wX (l:=r) (a:=a) n2 fun x hx=>hS x (by simp at hx ⊢;rcases hx with h|h<;>simp [h])
   have Ng:S (q8 sw a r).1:=hS _ (by have:=(iS (sw:=sw) (l:=r) (a:=a)).mem_iff.1 (List.mem_cons_self ..);simp at this ⊢;rcases this with h|h<;>simp [h])
   have K4:R (q8 sw a r).1 c:=by
    rcases h1 with h1|h1
    ·rw [h1];exact h0
    ·exact htr _ _ _ Ng (hS a (by simp)) (hS c (by simp)) h1 h0
   exact ⟨h1,fun y hy=>(List.mem_cons.1 hy).elim (fun e=>e ▸ K4) (h2 y)⟩
theorem kI:∀ {n:Nat} {l:List Int},l.length≤n→l.Nodup→(∀x∈l,S x)→(AY sw n l).Pairwise R
 |0,l,h,_,_=>by
  have:l= []:=List.eq_nil_of_length_eq_zero (by omega)
  subst this;exact List.Pairwise.nil
 |n+1, [],_,_,_=>List.Pairwise.nil
 |n+1,a::r,h,hn,hS=>by
  rw [AY,List.pairwise_cons]
  have hp:=iS (sw:=sw) (l:=r) (a:=a)
  refine ⟨fun y hy=>(wX htr hsw hn hS).2 y (l8.mem_iff.1 hy),kI (by rw [Gh];simpa using h) (List.nodup_cons.1 (hp.nodup_iff.2 hn)).2 fun x hx=>hS x (hp.mem_iff.1 (by simp [hx]))⟩
end
theorem Cg {R:Int→Int→Prop} {l m:List Int} (hp:l.Perm m) (ha:∀a b,R a b→R b a→False) (h1:l.Pairwise R) (h2:m.Pairwise R):l=m:=by
 induction l generalizing m with
 |nil=>exact hp.symm.eq_nil.symm
 |cons a l ih=>
  cases m with
  |nil=>exact absurd hp.length_eq (by simp)
  |cons b m=>
   obtain ⟨a1,a2⟩:=List.pairwise_cons.1 h1
   obtain ⟨b1,b2⟩:=List.pairwise_cons.1 h2
   have hab:a=b:=by
    refine Decidable.byContradiction fun hne=> ?_
    have ma:a∈b::m:=hp.mem_iff.1 (by simp)
    have mb:b∈a::l:=hp.mem_iff.2 (by simp)
    have ma:a∈m:=(List.mem_cons.1 ma).elim (fun e=>absurd e hne) id
    have mb:b∈l:=(List.mem_cons.1 mb).elim (fun e=>absurd e.symm hne) id
    exact ha a b (a1 b mb) (b1 a ma)
   subst hab
   rw [ih ((List.perm_cons a).1 hp) a2 b2]
def Cw (sw:Int→Int→Bool) (a:Int) (done todo:List Int):List Int:=(q8 sw a todo).1::AY sw (done.length+todo.length) (done++(q8 sw a todo).2)
theorem Gi {sw:Int→Int→Bool} {a:Int} {r:List Int} :Cw sw a [] r=AY sw (a::r).length (a::r):=by
 simp only [Cw,List.length_nil,Nat.zero_add,List.nil_append,List.length_cons,AY]
theorem EF {sw:Int→Int→Bool} {a c:Int} {d r:List Int} (h:sw a c=true):Cw sw a d (c::r)=Cw sw c (d++ [a]) r:=by
 simp only [Cw,q8,h,if_true,List.length_append,List.length_cons,List.length_nil,List.append_assoc,List.singleton_append]
 congr 2;omega
theorem EG {sw:Int→Int→Bool} {a c:Int} {d r:List Int} (h:sw a c=false):Cw sw a d (c::r)=Cw sw a (d++ [c]) r:=by
 simp only [Cw,q8,h,Bool.false_eq_true,if_false,List.length_append,List.length_cons,List.length_nil,List.append_assoc,List.singleton_append]
 congr 2;omega
theorem Gj {sw:Int→Int→Bool} {a:Int} {d:List Int} :Cw sw a d []=a::AY sw d.length d:=by
 simp only [Cw,q8,List.length_nil,Nat.add_zero,List.append_nil]
theorem Gk {pre d r:List Int} {a c:Int} :((pre++a::(d++c::r)).set pre.length c).set (pre.length+1+d.length) a=pre++c::(d++ [a]++r):=by
 have e1:(pre++a::(d++c::r)).set pre.length c=pre++c::(d++c::r):=by
  rw [List.set_append_right _ _ (Nat.le_refl _),Nat.sub_self];rfl
 rw [e1,List.set_append_right _ _ (by omega),show pre.length+1+d.length - pre.length=d.length+1 by omega,List.set_cons_succ,List.set_append_right _ _ (Nat.le_refl _),Nat.sub_self]
 simp
theorem Ik {pre r:List Int} {a:Int} {d:Int} :(pre++a::r).getD pre.length d=a:=by
 simp [List.getD_eq_getElem?_getD]
theorem Il {pre q r:List Int} {a c:Int} {d:Int} :(pre++a::(q++c::r)).getD (pre.length+1+q.length) d=c:=by
 rw [List.getD_eq_getElem?_getD,List.getElem?_append_right (by omega),show pre.length+1+q.length - pre.length=q.length+1 by omega]
 simp
end Go.Ab
end
