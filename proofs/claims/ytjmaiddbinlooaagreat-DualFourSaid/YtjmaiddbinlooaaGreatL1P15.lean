/- A part of the proof. -/
import Derived.Test.YtjmaiddbinlooaaGreatL1P14
set_option linter.unusedSimpArgs false
set_option linter.unusedVariables false
section
namespace Go.Ab
open Go.Proofs
attribute [local congr] ACall.congr
set_option maxRecDepth 10000
set_option maxHeartbeats 8000000
def mJ (m:Nat) (fl:List Int):List Int:=(List.range m).map fun i:Nat=>if (i:Int)∈fl then (1:Int) else 0
theorem xq {m:Nat} {fl:List Int} :(mJ m fl).length=m:=by simp [mJ]
theorem AS {m:Nat} :mJ m []=List.replicate m 0:=by
 refine List.ext_getElem (by simp [mJ]) fun i h1 h2=> ?_
 simp [mJ]
theorem zq {m:Nat} {fl:List Int} {i:Nat} (h:i<m):(mJ m fl).getD i 0=if (i:Int)∈fl then 1 else 0:=by
 simp [mJ,List.getD_eq_getElem?_getD,List.getElem?_range h]
theorem CW {m:Nat} {fl:List Int} {i:Nat} (h:i<m):(mJ m fl).set i 1=mJ m (fl++ [(i:Int)]):=by
 refine List.ext_getElem (by simp [mJ]) fun j h1 h2=> ?_
 rw [List.getElem_set]
 simp only [mJ,List.getElem_map,List.getElem_range,List.mem_append,List.mem_singleton]
 by_cases e:i=j
 ·subst e;simp
 ·rw [if_neg e]
  have:¬(j:Int)=(i:Int):=by omega
  simp [this]
theorem CX {outs:List (List Int)} {x k:Nat} (hx:x<outs.length):((outs.take x).flatten++(outs.getD x []).take k).Sublist outs.flatten:=by
 have e:outs=outs.take x++outs.getD x []::outs.drop (x+1):=by
  conv=>lhs;rw [← List.take_append_drop x outs]
  congr 1
  rw [List.drop_eq_getElem_cons hx,List.getD_eq_getElem?_getD,List.getElem?_eq_getElem hx]
  rfl
 conv=>rhs;rw [e]
 rw [List.flatten_append,List.flatten_cons]
 exact List.Sublist.append (List.Sublist.refl _) ((List.take_sublist _ _).trans (List.sublist_append_left _ _))
theorem yx {l:List Int} {k:Nat} (h:k<l.length):l.take (k+1)=l.take k++ [l.getD k 0]:=by
 rw [List.take_add_one,List.getD_eq_getElem?_getD,List.getElem?_eq_getElem h];rfl
theorem nO {g:Gr} {x i:Int} :i∈bu g x↔(0≤i∧i<g.es.length)∧(g.es.getD i.toNat (0,0)).1=x:=by
 constructor
 ·exact gU
 ·rintro ⟨⟨h1,h2⟩,h3⟩
  simp only [bu,aZ,List.mem_map,List.mem_filter,List.mem_range,decide_eq_true_eq]
  exact ⟨i.toNat,⟨by omega,h3⟩,by simp;omega⟩
theorem CY (g:Gr) (hl:g.es.length≤9223372036854775807) (p:Pl) (hp:pI p) (res:Bool) (hr:res=true↔(cq g).1=0∧bE g p):Spec Tryz.prog 117 (Args [eG g,ePl p]) [] (eB res) []:=by
 have ho:p.ord.length≤9223372036854775807:=by have:=hp.ord;omega
 have GJ:=hp.outs
 by_cases hc:(cq g).1=0
 rotate_left
 ·have hres:res=false:=by
   rw [← Bool.not_eq_true,hr]
   rintro ⟨h,_⟩
   exact hc h
  subst hres
  have ak:decide ((cq g).1=0)=false:=decide_eq_false hc
  (refine Spec.intro (C:=T.cfg [] []) (rs:= [.t 4]) (T.au _ _) Tryz.func117 rfl rfl Tryz.ntmps117 Tryz.results117 (by simp [AObj.isNest]) (by simp [AObj.isNest]) (by kernel_rfl) ?_;intro X hX hP hC aI aJ vals hA;refine ⟨_,by simp,hA, ?_⟩;have af:X.P.follows .mixedOrders=true:=(by rw [hP];exact T.mixed);clear aI aJ)
  repeat' (first|fail|((first|((with_reducible (first|apply oA|apply oB));exact rfl;intro K hK)|(refine hK _ ?_;clear hK K)|((with_reducible (first|apply oG|apply oH));iterate 3 exact rfl)|((with_reducible apply oI);(iterate 2 exact rfl);intro K hK)|(with_reducible (first|apply wI|apply wJ|apply wK)));try simp only [go_sem,simprocAttr,ak])|fail|(with_reducible (first|apply oC|apply oJ|exact oK|apply wA|apply wB|apply wC hX hC|apply wD hX hC|apply wE hX hC af|apply wF hX hC af|apply wG|apply wH|apply And.intro))|((with_reducible refine oD ?_ ?_);first|fail|kernel_rfl)|((with_reducible (first|apply oE|apply oF));(iterate 3 exact rfl);all_goals (intro h;first|(exact absurd h (by decide))|((try simp only [go_sem,simprocAttr,ak] at h);(try with_reducible intro K hK);simp only [go_sem,simprocAttr,ak])))|((first|((with_reducible apply wL);exact rfl)|((with_reducible apply wM);exact rfl));all_goals (try ((with_reducible intro h);first|(exact absurd h (by decide))|(try simp only [go_sem,simprocAttr,ak] at h))))|omega|((first|first|refine aa hX hC hP (aR g hl) rfl rfl rfl (by simp only [go_sem,simprocAttr,ak]) rfl ?_);try simp only [go_sem,simprocAttr,ak])|(intro h))
 have ak:decide ((cq g).1=0)=true:=decide_eq_true hc
 have hm:=aF hc
 have hn:=aV hm
 have hr:res=true↔bE g p:=by rw [hr];exact ⟨fun h=>h.2,fun h=>⟨hc,h⟩⟩
 rw [← zn hm] at hr
 by_cases he:fJ p.ord g.n=true∧p.outs.length=g.n.toNat
 rotate_left
 ·have hres:res=false:=by
   rw [← Bool.not_eq_true,hr]
   rintro ⟨h2,h3,_⟩
   exact he ⟨h2,h3⟩
  subst hres
  cases h2:fJ p.ord g.n with
  |false=>
   (refine Spec.intro (C:=T.cfg [] []) (rs:= [.t 4]) (T.au _ _) Tryz.func117 rfl rfl Tryz.ntmps117 Tryz.results117 (by simp [AObj.isNest]) (by simp [AObj.isNest]) (by kernel_rfl) ?_;intro X hX hP hC aI aJ vals hA;refine ⟨_,by simp,hA, ?_⟩;have af:X.P.follows .mixedOrders=true:=(by rw [hP];exact T.mixed);clear aI aJ)
   repeat' (first|fail|((first|((with_reducible (first|apply oA|apply oB));exact rfl;intro K hK)|(refine hK _ ?_;clear hK K)|((with_reducible (first|apply oG|apply oH));iterate 3 exact rfl)|((with_reducible apply oI);(iterate 2 exact rfl);intro K hK)|(with_reducible (first|apply wI|apply wJ|apply wK)));try simp only [go_sem,simprocAttr,ak,h2])|fail|(with_reducible (first|apply oC|apply oJ|exact oK|apply wA|apply wB|apply wC hX hC|apply wD hX hC|apply wE hX hC af|apply wF hX hC af|apply wG|apply wH|apply And.intro))|((with_reducible refine oD ?_ ?_);first|fail|kernel_rfl)|((with_reducible (first|apply oE|apply oF));(iterate 3 exact rfl);all_goals (intro h;first|(exact absurd h (by decide))|((try simp only [go_sem,simprocAttr,ak,h2] at h);(try with_reducible intro K hK);simp only [go_sem,simprocAttr,ak,h2])))|((first|((with_reducible apply wL);exact rfl)|((with_reducible apply wM);exact rfl));all_goals (try ((with_reducible intro h);first|(exact absurd h (by decide))|(try simp only [go_sem,simprocAttr,ak,h2] at h))))|omega|((first|first|refine aa hX hC hP (aR g hl) rfl rfl rfl (by simp only [go_sem,simprocAttr,ak,h2]) rfl ?_|refine aa hX hC hP (cm p.ord g.n ho) rfl rfl rfl (by simp only [go_sem,simprocAttr,ak,h2]) rfl ?_);try simp only [go_sem,simprocAttr,ak,h2])|(intro h))
  |true=>
   have aq:decide ((p.outs.length:Int)=g.n)=false:=decide_eq_false fun h3=>he ⟨h2,by omega⟩
   (refine Spec.intro (C:=T.cfg [] []) (rs:= [.t 4]) (T.au _ _) Tryz.func117 rfl rfl Tryz.ntmps117 Tryz.results117 (by simp [AObj.isNest]) (by simp [AObj.isNest]) (by kernel_rfl) ?_;intro X hX hP hC aI aJ vals hA;refine ⟨_,by simp,hA, ?_⟩;have af:X.P.follows .mixedOrders=true:=(by rw [hP];exact T.mixed);clear aI aJ)
   repeat' (first|fail|((first|((with_reducible (first|apply oA|apply oB));exact rfl;intro K hK)|(refine hK _ ?_;clear hK K)|((with_reducible (first|apply oG|apply oH));iterate 3 exact rfl)|((with_reducible apply oI);(iterate 2 exact rfl);intro K hK)|(with_reducible (first|apply wI|apply wJ|apply wK)));try simp only [go_sem,simprocAttr,ak,h2,aq])|fail|(with_reducible (first|apply oC|apply oJ|exact oK|apply wA|apply wB|apply wC hX hC|apply wD hX hC|apply wE hX hC af|apply wF hX hC af|apply wG|apply wH|apply And.intro))|((with_reducible refine oD ?_ ?_);first|fail|kernel_rfl)|((with_reducible (first|apply oE|apply oF));(iterate 3 exact rfl);all_goals (intro h;first|(exact absurd h (by decide))|((try simp only [go_sem,simprocAttr,ak,h2,aq] at h);(try with_reducible intro K hK);simp only [go_sem,simprocAttr,ak,h2,aq])))|((first|((with_reducible apply wL);exact rfl)|((with_reducible apply wM);exact rfl));all_goals (try ((with_reducible intro h);first|(exact absurd h (by decide))|(try simp only [go_sem,simprocAttr,ak,h2,aq] at h))))|omega|((first|first|refine aa hX hC hP (aR g hl) rfl rfl rfl (by simp only [go_sem,simprocAttr,ak,h2,aq]) rfl ?_|refine aa hX hC hP (cm p.ord g.n ho) rfl rfl rfl (by simp only [go_sem,simprocAttr,ak,h2,aq]) rfl ?_);try simp only [go_sem,simprocAttr,ak,h2,aq])|(intro h))
 obtain ⟨mY,vB⟩:=he
 have aq:decide ((p.outs.length:Int)=g.n)=true:=decide_eq_true (by omega)
 (refine Spec.intro (C:=T.cfg [] []) (rs:= [.t 4]) (T.au _ _) Tryz.func117 rfl rfl Tryz.ntmps117 Tryz.results117 (by simp [AObj.isNest]) (by simp [AObj.isNest]) (by kernel_rfl) ?_;intro X hX hP hC aI aJ vals hA;refine ⟨_,by simp,hA, ?_⟩;have af:X.P.follows .mixedOrders=true:=(by rw [hP];exact T.mixed);clear aI aJ)
 repeat' (first|fail|((first|((with_reducible (first|apply oA|apply oB));exact rfl;intro K hK)|(refine hK _ ?_;clear hK K)|((with_reducible (first|apply oG|apply oH));iterate 3 exact rfl)|((with_reducible apply oI);(iterate 2 exact rfl);intro K hK)|(with_reducible (first|apply wI|apply wJ|apply wK)));try simp only [go_sem,simprocAttr,ak,mY,aq])|fail|(with_reducible (first|apply oC|apply oJ|exact oK|apply wA|apply wB|apply wC hX hC|apply wD hX hC|apply wE hX hC af|apply wF hX hC af|apply wG|apply wH|apply And.intro))|((with_reducible refine oD ?_ ?_);first|fail|kernel_rfl)|((with_reducible (first|apply oE|apply oF));(iterate 3 exact rfl);all_goals (intro h;first|(exact absurd h (by decide))|((try simp only [go_sem,simprocAttr,ak,mY,aq] at h);(try with_reducible intro K hK);simp only [go_sem,simprocAttr,ak,mY,aq])))|((first|((with_reducible apply wL);exact rfl)|((with_reducible apply wM);exact rfl));all_goals (try ((with_reducible intro h);first|(exact absurd h (by decide))|(try simp only [go_sem,simprocAttr,ak,mY,aq] at h))))|omega|((first|first|refine aa hX hC hP (aR g hl) rfl rfl rfl (by simp only [go_sem,simprocAttr,ak,mY,aq]) rfl ?_|refine aa hX hC hP (cm p.ord g.n ho) rfl rfl rfl (by simp only [go_sem,simprocAttr,ak,mY,aq]) rfl ?_);try simp only [go_sem,simprocAttr,ak,mY,aq])|(intro h))
 clear ak aq
 have Ex:List.replicate g.es.length [D.sc (.int .i64 0)]=(mJ g.es.length []).map rI:=by rw [AS,List.map_replicate];rfl
 rw [Ex]
 clear Ex
 refine an (fun x:Nat=>x≤p.outs.length∧(p.outs.take x).flatten.Nodup∧∀y:Nat,y<x→∀i∈p.outs.getD y [],i∈bu g y) (fun x=>⟨[(2, .ptr 2 0),(3, .ptr 3 0),(5, .ref 32),(6,eN x)], [(32, .own 3 1 ((mJ g.es.length (p.outs.take x).flatten).map rI)),(3, .box [.d (sI p.ord), .d (.sl 1 (vI p.outs))]),(2, .box [eN g.n, .d (sE g.es)])]⟩) (fun x=>p.outs.length - x) 0 (by simp) ?_ ?_
 ·refine Le.of ?_ ?_<;>simp [go_sem,simprocAttr]
 rintro x ⟨hx,bX,vk⟩
 rcases Nat.lt_or_ge x p.outs.length with hxl|DF
 ·have hb:decide ((x:Int)<(p.outs.length:Int))=true:=decide_eq_true (by omega)
  have hv:=jW hxl
  have hle:=hp.each _ (bq (d:= []) hxl)
  have hpre:=fun k=>CX (k:=k) hxl
  have hnext:(p.outs.take (x+1)).flatten=(p.outs.take x).flatten++p.outs.getD x []:=by
   rw [List.take_add_one,List.flatten_append,List.getD_eq_getElem?_getD,List.getElem?_eq_getElem hxl];simp
  have iP:∀i∈p.outs.getD x [],i∉bu g x→res=false:=fun i hi hn=>by
   rw [← Bool.not_eq_true,hr]
   rintro ⟨_,_,h3,_⟩
   exact hn (h3 x hxl i hi)
  have td:∀k,¬((p.outs.take x).flatten++(p.outs.getD x []).take k).Nodup→res=false:=fun k hn=>by
   rw [← Bool.not_eq_true,hr]
   rintro ⟨_,_,_,h4,_⟩
   exact hn (List.Nodup.sublist (hpre k) h4)
  have Cf:(∀i∈p.outs.getD x [],i∈bu g x)→∀y:Nat,y<x+1→∀i∈p.outs.getD y [],i∈bu g y:=fun h y hy=>by
   by_cases e:y=x
   ·subst e;exact h
   ·exact vk y (by omega)
  generalize p.outs.getD x []=l at hv hle hpre hnext iP td Cf
  generalize (p.outs.take x).flatten=fl at bX hpre hnext td
  clear hpre
  repeat' (first|fail|((first|((with_reducible (first|apply oA|apply oB));exact rfl;intro K hK)|(refine hK _ ?_;clear hK K)|((with_reducible (first|apply oG|apply oH));iterate 3 exact rfl)|((with_reducible apply oI);(iterate 2 exact rfl);intro K hK)|(with_reducible (first|apply wI|apply wJ|apply wK)));try simp only [go_sem,simprocAttr,hb,hv])|fail|(with_reducible (first|apply oC|apply oJ|exact oK|apply wA|apply wB|apply wC hX hC|apply wD hX hC|apply wE hX hC af|apply wF hX hC af|apply wG|apply wH|apply And.intro))|((with_reducible refine oD ?_ ?_);first|fail|kernel_rfl)|((with_reducible (first|apply oE|apply oF));(iterate 3 exact rfl);all_goals (intro h;first|(exact absurd h (by decide))|((try simp only [go_sem,simprocAttr,hb,hv] at h);(try with_reducible intro K hK);simp only [go_sem,simprocAttr,hb,hv])))|((first|((with_reducible apply wL);exact rfl)|((with_reducible apply wM);exact rfl));all_goals (try ((with_reducible intro h);first|(exact absurd h (by decide))|(try simp only [go_sem,simprocAttr,hb,hv] at h))))|omega|((first|first|refine aa hX hC hP (aR g hl) rfl rfl rfl (by simp only [go_sem,simprocAttr,hb,hv]) rfl ?_|refine aa hX hC hP (cm p.ord g.n ho) rfl rfl rfl (by simp only [go_sem,simprocAttr,hb,hv]) rfl ?_);try simp only [go_sem,simprocAttr,hb,hv])|(intro h))
  clear hb
  refine an (fun k:Nat=>k≤l.length∧(fl++l.take k).Nodup∧∀i∈l.take k,i∈bu g x) (fun k=>⟨[(2, .ptr 2 0),(3, .ptr 3 0),(5, .ref 32),(6,eN x),(7,eN k)], [(32, .own 3 1 ((mJ g.es.length (fl++l.take k)).map rI)),(3, .box [.d (sI p.ord), .d (.sl 1 (vI p.outs))]),(2, .box [eN g.n, .d (sE g.es)])]⟩) (fun k=>l.length - k) 0 (by simpa using bX) ?_ ?_
  ·refine Le.of ?_ ?_<;>simp [go_sem,simprocAttr]
  rintro k ⟨hk,Ae,Gx⟩
  rcases Nat.lt_or_ge k l.length with cj|Fo
  ·have cD:decide ((k:Int)<(l.length:Int))=true:=decide_eq_true (by omega)
   have w9:=yx cj
   have him:=bq (d:=0) cj
   have dL:=xq (m:=g.es.length) (fl:=fl++l.take k)
   generalize hi:l.getD k 0=i at w9 him
   by_cases h0:i<0
   ·have hres:=iP i him (fun h=>by have:=(nO.1 h).1;omega)
    subst hres
    have ak:decide (i<0)=true:=decide_eq_true h0
    repeat' (first|fail|((first|((with_reducible (first|apply oA|apply oB));exact rfl;intro K hK)|(refine hK _ ?_;clear hK K)|((with_reducible (first|apply oG|apply oH));iterate 3 exact rfl)|((with_reducible apply oI);(iterate 2 exact rfl);intro K hK)|(with_reducible (first|apply wI|apply wJ|apply wK)));try simp only [go_sem,simprocAttr,cD,hv,hi,ak])|fail|(with_reducible (first|apply oC|apply oJ|exact oK|apply wA|apply wB|apply wC hX hC|apply wD hX hC|apply wE hX hC af|apply wF hX hC af|apply wG|apply wH|apply And.intro))|((with_reducible refine oD ?_ ?_);first|fail|kernel_rfl)|((with_reducible (first|apply oE|apply oF));(iterate 3 exact rfl);all_goals (intro h;first|(exact absurd h (by decide))|((try simp only [go_sem,simprocAttr,cD,hv,hi,ak] at h);(try with_reducible intro K hK);simp only [go_sem,simprocAttr,cD,hv,hi,ak])))|((first|((with_reducible apply wL);exact rfl)|((with_reducible apply wM);exact rfl));all_goals (try ((with_reducible intro h);first|(exact absurd h (by decide))|(try simp only [go_sem,simprocAttr,cD,hv,hi,ak] at h))))|omega|((first|first|refine aa hX hC hP (aR g hl) rfl rfl rfl (by simp only [go_sem,simprocAttr,cD,hv,hi,ak]) rfl ?_|refine aa hX hC hP (cm p.ord g.n ho) rfl rfl rfl (by simp only [go_sem,simprocAttr,cD,hv,hi,ak]) rfl ?_);try simp only [go_sem,simprocAttr,cD,hv,hi,ak])|(intro h))
   have ak:decide (i<0)=false:=decide_eq_false h0
   by_cases h1:(g.es.length:Int)≤i
   ·have hres:=iP i him (fun h=>by have:=(nO.1 h).1;omega)
    subst hres
    have aq:decide ((g.es.length:Int)≤i)=true:=decide_eq_true h1
    repeat' (first|fail|((first|((with_reducible (first|apply oA|apply oB));exact rfl;intro K hK)|(refine hK _ ?_;clear hK K)|((with_reducible (first|apply oG|apply oH));iterate 3 exact rfl)|((with_reducible apply oI);(iterate 2 exact rfl);intro K hK)|(with_reducible (first|apply wI|apply wJ|apply wK)));try simp only [go_sem,simprocAttr,cD,hv,hi,ak,aq,dL])|fail|(with_reducible (first|apply oC|apply oJ|exact oK|apply wA|apply wB|apply wC hX hC|apply wD hX hC|apply wE hX hC af|apply wF hX hC af|apply wG|apply wH|apply And.intro))|((with_reducible refine oD ?_ ?_);first|fail|kernel_rfl)|((with_reducible (first|apply oE|apply oF));(iterate 3 exact rfl);all_goals (intro h;first|(exact absurd h (by decide))|((try simp only [go_sem,simprocAttr,cD,hv,hi,ak,aq,dL] at h);(try with_reducible intro K hK);simp only [go_sem,simprocAttr,cD,hv,hi,ak,aq,dL])))|((first|((with_reducible apply wL);exact rfl)|((with_reducible apply wM);exact rfl));all_goals (try ((with_reducible intro h);first|(exact absurd h (by decide))|(try simp only [go_sem,simprocAttr,cD,hv,hi,ak,aq,dL] at h))))|omega|((first|first|refine aa hX hC hP (aR g hl) rfl rfl rfl (by simp only [go_sem,simprocAttr,cD,hv,hi,ak,aq,dL]) rfl ?_|refine aa hX hC hP (cm p.ord g.n ho) rfl rfl rfl (by simp only [go_sem,simprocAttr,cD,hv,hi,ak,aq,dL]) rfl ?_);try simp only [go_sem,simprocAttr,cD,hv,hi,ak,aq,dL])|(intro h))
   have aq:decide ((g.es.length:Int)≤i)=false:=decide_eq_false h1
   obtain ⟨e,rfl⟩:∃e:Nat,i=e:=⟨i.toNat,by omega⟩
   have hel:e<g.es.length:=by omega
   by_cases h2:(g.es.getD e (0,0)).1=x
   rotate_left
   ·have hres:=iP _ him (fun h=>h2 (by have:=(nO.1 h).2;rwa [Int.toNat_natCast] at this))
    subst hres
    have bt:decide ((g.es.getD e (0,0)).1=(x:Int))=false:=decide_eq_false h2
    repeat' (first|fail|((first|((with_reducible (first|apply oA|apply oB));exact rfl;intro K hK)|(refine hK _ ?_;clear hK K)|((with_reducible (first|apply oG|apply oH));iterate 3 exact rfl)|((with_reducible apply oI);(iterate 2 exact rfl);intro K hK)|(with_reducible (first|apply wI|apply wJ|apply wK)));try simp only [go_sem,simprocAttr,cD,hv,hi,ak,aq,bt,dL])|fail|(with_reducible (first|apply oC|apply oJ|exact oK|apply wA|apply wB|apply wC hX hC|apply wD hX hC|apply wE hX hC af|apply wF hX hC af|apply wG|apply wH|apply And.intro))|((with_reducible refine oD ?_ ?_);first|fail|kernel_rfl)|((with_reducible (first|apply oE|apply oF));(iterate 3 exact rfl);all_goals (intro h;first|(exact absurd h (by decide))|((try simp only [go_sem,simprocAttr,cD,hv,hi,ak,aq,bt,dL] at h);(try with_reducible intro K hK);simp only [go_sem,simprocAttr,cD,hv,hi,ak,aq,bt,dL])))|((first|((with_reducible apply wL);exact rfl)|((with_reducible apply wM);exact rfl));all_goals (try ((with_reducible intro h);first|(exact absurd h (by decide))|(try simp only [go_sem,simprocAttr,cD,hv,hi,ak,aq,bt,dL] at h))))|omega|((first|first|refine aa hX hC hP (aR g hl) rfl rfl rfl (by simp only [go_sem,simprocAttr,cD,hv,hi,ak,aq,bt,dL]) rfl ?_|refine aa hX hC hP (cm p.ord g.n ho) rfl rfl rfl (by simp only [go_sem,simprocAttr,cD,hv,hi,ak,aq,bt,dL]) rfl ?_);try simp only [go_sem,simprocAttr,cD,hv,hi,ak,aq,bt,dL])|(intro h))
   have bt:decide ((g.es.getD e (0,0)).1=(x:Int))=true:=decide_eq_true h2
   have kU:=zq (fl:=fl++l.take k) hel
   by_cases h3:(e:Int)∈fl++l.take k
   ·have hres:=td (k+1) (fun h=>by
     rw [w9, ← List.append_assoc,List.nodup_append] at h
     exact h.2.2 _ h3 _ (List.mem_singleton.2 rfl) rfl)
    subst hres
    rw [if_pos h3] at kU
    repeat' (first|fail|((first|((with_reducible (first|apply oA|apply oB));exact rfl;intro K hK)|(refine hK _ ?_;clear hK K)|((with_reducible (first|apply oG|apply oH));iterate 3 exact rfl)|((with_reducible apply oI);(iterate 2 exact rfl);intro K hK)|(with_reducible (first|apply wI|apply wJ|apply wK)));try simp only [go_sem,simprocAttr,cD,hv,hi,ak,aq,bt,dL,kU])|fail|(with_reducible (first|apply oC|apply oJ|exact oK|apply wA|apply wB|apply wC hX hC|apply wD hX hC|apply wE hX hC af|apply wF hX hC af|apply wG|apply wH|apply And.intro))|((with_reducible refine oD ?_ ?_);first|fail|kernel_rfl)|((with_reducible (first|apply oE|apply oF));(iterate 3 exact rfl);all_goals (intro h;first|(exact absurd h (by decide))|((try simp only [go_sem,simprocAttr,cD,hv,hi,ak,aq,bt,dL,kU] at h);(try with_reducible intro K hK);simp only [go_sem,simprocAttr,cD,hv,hi,ak,aq,bt,dL,kU])))|((first|((with_reducible apply wL);exact rfl)|((with_reducible apply wM);exact rfl));all_goals (try ((with_reducible intro h);first|(exact absurd h (by decide))|(try simp only [go_sem,simprocAttr,cD,hv,hi,ak,aq,bt,dL,kU] at h))))|omega|((first|first|refine aa hX hC hP (aR g hl) rfl rfl rfl (by simp only [go_sem,simprocAttr,cD,hv,hi,ak,aq,bt,dL,kU]) rfl ?_|refine aa hX hC hP (cm p.ord g.n ho) rfl rfl rfl (by simp only [go_sem,simprocAttr,cD,hv,hi,ak,aq,bt,dL,kU]) rfl ?_);try simp only [go_sem,simprocAttr,cD,hv,hi,ak,aq,bt,dL,kU])|(intro h))
   ·rw [if_neg h3] at kU
    have b7:=CW (fl:=fl++l.take k) hel
    rw [List.append_assoc, ← w9] at b7
    repeat' (first|fail|((first|((with_reducible (first|apply oA|apply oB));exact rfl;intro K hK)|(refine hK _ ?_;clear hK K)|((with_reducible (first|apply oG|apply oH));iterate 3 exact rfl)|((with_reducible apply oI);(iterate 2 exact rfl);intro K hK)|(with_reducible (first|apply wI|apply wJ|apply wK)));try simp only [go_sem,simprocAttr,cD,hv,hi,ak,aq,bt,dL,kU])|fail|(with_reducible (first|apply oC|apply oJ|exact oK|apply wA|apply wB|apply wC hX hC|apply wD hX hC|apply wE hX hC af|apply wF hX hC af|apply wG|apply wH|apply And.intro))|((with_reducible refine oD ?_ ?_);first|fail|kernel_rfl)|((with_reducible (first|apply oE|apply oF));(iterate 3 exact rfl);all_goals (intro h;first|(exact absurd h (by decide))|((try simp only [go_sem,simprocAttr,cD,hv,hi,ak,aq,bt,dL,kU] at h);(try with_reducible intro K hK);simp only [go_sem,simprocAttr,cD,hv,hi,ak,aq,bt,dL,kU])))|((first|((with_reducible apply wL);exact rfl)|((with_reducible apply wM);exact rfl));all_goals (try ((with_reducible intro h);first|(exact absurd h (by decide))|(try simp only [go_sem,simprocAttr,cD,hv,hi,ak,aq,bt,dL,kU] at h))))|omega|((first|first|refine aa hX hC hP (aR g hl) rfl rfl rfl (by simp only [go_sem,simprocAttr,cD,hv,hi,ak,aq,bt,dL,kU]) rfl ?_|refine aa hX hC hP (cm p.ord g.n ho) rfl rfl rfl (by simp only [go_sem,simprocAttr,cD,hv,hi,ak,aq,bt,dL,kU]) rfl ?_);try simp only [go_sem,simprocAttr,cD,hv,hi,ak,aq,bt,dL,kU])|(intro h))
    refine ⟨k+1,⟨by omega, ?_, ?_⟩, ?_,by omega⟩
    ·rw [w9, ← List.append_assoc,List.nodup_append]
     exact ⟨Ae,by simp,fun a ha b hb h=>h3 (by rw [List.mem_singleton] at hb;rw [← hb, ← h];exact ha)⟩
    ·intro j hj
     rw [w9,List.mem_append,List.mem_singleton] at hj
     rcases hj with hj|rfl
     ·exact Gx j hj
     ·exact nO.2 ⟨⟨by omega,by omega⟩,by rw [Int.toNat_natCast];exact h2⟩
    ·rw [← b7]
     refine Le.of ?_ ?_<;>simp [go_sem,simprocAttr,cD,hv,hi,ak,aq,bt,dL,kU,rI]
  ·have cD:decide ((k:Int)<(l.length:Int))=false:=decide_eq_false (by omega)
   obtain rfl:k=l.length:=by omega
   rw [List.take_length] at Ae Gx
   repeat' (first|fail|((first|((with_reducible (first|apply oA|apply oB));exact rfl;intro K hK)|(refine hK _ ?_;clear hK K)|((with_reducible (first|apply oG|apply oH));iterate 3 exact rfl)|((with_reducible apply oI);(iterate 2 exact rfl);intro K hK)|(with_reducible (first|apply wI|apply wJ|apply wK)));try simp only [go_sem,simprocAttr,cD,hv])|fail|(with_reducible (first|apply oC|apply oJ|exact oK|apply wA|apply wB|apply wC hX hC|apply wD hX hC|apply wE hX hC af|apply wF hX hC af|apply wG|apply wH|apply And.intro))|((with_reducible refine oD ?_ ?_);first|fail|kernel_rfl)|((with_reducible (first|apply oE|apply oF));(iterate 3 exact rfl);all_goals (intro h;first|(exact absurd h (by decide))|((try simp only [go_sem,simprocAttr,cD,hv] at h);(try with_reducible intro K hK);simp only [go_sem,simprocAttr,cD,hv])))|((first|((with_reducible apply wL);exact rfl)|((with_reducible apply wM);exact rfl));all_goals (try ((with_reducible intro h);first|(exact absurd h (by decide))|(try simp only [go_sem,simprocAttr,cD,hv] at h))))|omega|((first|first|refine aa hX hC hP (aR g hl) rfl rfl rfl (by simp only [go_sem,simprocAttr,cD,hv]) rfl ?_|refine aa hX hC hP (cm p.ord g.n ho) rfl rfl rfl (by simp only [go_sem,simprocAttr,cD,hv]) rfl ?_);try simp only [go_sem,simprocAttr,cD,hv])|(intro h))
   refine ⟨x+1,⟨by omega,by rw [hnext];exact Ae,Cf Gx⟩, ?_,by omega⟩
   rw [hnext]
   refine Le.of ?_ ?_<;>simp [go_sem,simprocAttr,cD,hv]
 have hb:decide ((x:Int)<(p.outs.length:Int))=false:=decide_eq_false (by omega)
 obtain rfl:x=p.outs.length:=by omega
 rw [List.take_length] at bX
 rw [List.take_length]
 have dL:=xq (m:=g.es.length) (fl:=p.outs.flatten)
 repeat' (first|fail|((first|((with_reducible (first|apply oA|apply oB));exact rfl;intro K hK)|(refine hK _ ?_;clear hK K)|((with_reducible (first|apply oG|apply oH));iterate 3 exact rfl)|((with_reducible apply oI);(iterate 2 exact rfl);intro K hK)|(with_reducible (first|apply wI|apply wJ|apply wK)));try simp only [go_sem,simprocAttr,hb])|fail|(with_reducible (first|apply oC|apply oJ|exact oK|apply wA|apply wB|apply wC hX hC|apply wD hX hC|apply wE hX hC af|apply wF hX hC af|apply wG|apply wH|apply And.intro))|((with_reducible refine oD ?_ ?_);first|fail|kernel_rfl)|((with_reducible (first|apply oE|apply oF));(iterate 3 exact rfl);all_goals (intro h;first|(exact absurd h (by decide))|((try simp only [go_sem,simprocAttr,hb] at h);(try with_reducible intro K hK);simp only [go_sem,simprocAttr,hb])))|((first|((with_reducible apply wL);exact rfl)|((with_reducible apply wM);exact rfl));all_goals (try ((with_reducible intro h);first|(exact absurd h (by decide))|(try simp only [go_sem,simprocAttr,hb] at h))))|omega|((first|first|refine aa hX hC hP (aR g hl) rfl rfl rfl (by simp only [go_sem,simprocAttr,hb]) rfl ?_|refine aa hX hC hP (cm p.ord g.n ho) rfl rfl rfl (by simp only [go_sem,simprocAttr,hb]) rfl ?_);try simp only [go_sem,simprocAttr,hb])|(intro h))
 clear hb
 refine an (fun k:Nat=>k≤g.es.length∧∀i:Nat,i<k→(i:Int)∈p.outs.flatten) (fun k=>⟨[(5, .ref 32),(9,eN k)], [(32, .own 3 1 ((mJ g.es.length p.outs.flatten).map rI))]⟩) (fun k=>g.es.length - k) 0 (by simp) ?_ ?_
 ·refine Le.of ?_ ?_<;>simp [go_sem,simprocAttr]
 rintro k ⟨hk,Gx⟩
 rcases Nat.lt_or_ge k g.es.length with cj|Fo
 ·have cD:decide ((k:Int)<(g.es.length:Int))=true:=decide_eq_true (by omega)
  have kU:=zq (fl:=p.outs.flatten) cj
  by_cases h3:(k:Int)∈p.outs.flatten
  ·rw [if_pos h3] at kU
   repeat' (first|fail|((first|((with_reducible (first|apply oA|apply oB));exact rfl;intro K hK)|(refine hK _ ?_;clear hK K)|((with_reducible (first|apply oG|apply oH));iterate 3 exact rfl)|((with_reducible apply oI);(iterate 2 exact rfl);intro K hK)|(with_reducible (first|apply wI|apply wJ|apply wK)));try simp only [go_sem,simprocAttr,cD,dL,kU])|fail|(with_reducible (first|apply oC|apply oJ|exact oK|apply wA|apply wB|apply wC hX hC|apply wD hX hC|apply wE hX hC af|apply wF hX hC af|apply wG|apply wH|apply And.intro))|((with_reducible refine oD ?_ ?_);first|fail|kernel_rfl)|((with_reducible (first|apply oE|apply oF));(iterate 3 exact rfl);all_goals (intro h;first|(exact absurd h (by decide))|((try simp only [go_sem,simprocAttr,cD,dL,kU] at h);(try with_reducible intro K hK);simp only [go_sem,simprocAttr,cD,dL,kU])))|((first|((with_reducible apply wL);exact rfl)|((with_reducible apply wM);exact rfl));all_goals (try ((with_reducible intro h);first|(exact absurd h (by decide))|(try simp only [go_sem,simprocAttr,cD,dL,kU] at h))))|omega|((first|first|refine aa hX hC hP (aR g hl) rfl rfl rfl (by simp only [go_sem,simprocAttr,cD,dL,kU]) rfl ?_|refine aa hX hC hP (cm p.ord g.n ho) rfl rfl rfl (by simp only [go_sem,simprocAttr,cD,dL,kU]) rfl ?_);try simp only [go_sem,simprocAttr,cD,dL,kU])|(intro h))
   refine ⟨k+1,⟨by omega,fun i hi=> ?_⟩, ?_,by omega⟩
   ·by_cases e:i=k
    ·subst e;exact h3
    ·exact Gx i (by omega)
   ·(refine Le.of ?_ ?_<;>simp [go_sem,simprocAttr,cD,dL,kU])
  ·rw [if_neg h3] at kU
   have hres:res=false:=by
    rw [← Bool.not_eq_true,hr]
    rintro ⟨_,_,_,_,h5⟩
    exact h3 (h5 k cj)
   subst hres
   repeat' (first|fail|((first|((with_reducible (first|apply oA|apply oB));exact rfl;intro K hK)|(refine hK _ ?_;clear hK K)|((with_reducible (first|apply oG|apply oH));iterate 3 exact rfl)|((with_reducible apply oI);(iterate 2 exact rfl);intro K hK)|(with_reducible (first|apply wI|apply wJ|apply wK)));try simp only [go_sem,simprocAttr,cD,dL,kU])|fail|(with_reducible (first|apply oC|apply oJ|exact oK|apply wA|apply wB|apply wC hX hC|apply wD hX hC|apply wE hX hC af|apply wF hX hC af|apply wG|apply wH|apply And.intro))|((with_reducible refine oD ?_ ?_);first|fail|kernel_rfl)|((with_reducible (first|apply oE|apply oF));(iterate 3 exact rfl);all_goals (intro h;first|(exact absurd h (by decide))|((try simp only [go_sem,simprocAttr,cD,dL,kU] at h);(try with_reducible intro K hK);simp only [go_sem,simprocAttr,cD,dL,kU])))|((first|((with_reducible apply wL);exact rfl)|((with_reducible apply wM);exact rfl));all_goals (try ((with_reducible intro h);first|(exact absurd h (by decide))|(try simp only [go_sem,simprocAttr,cD,dL,kU] at h))))|omega|((first|first|refine aa hX hC hP (aR g hl) rfl rfl rfl (by simp only [go_sem,simprocAttr,cD,dL,kU]) rfl ?_|refine aa hX hC hP (cm p.ord g.n ho) rfl rfl rfl (by simp only [go_sem,simprocAttr,cD,dL,kU]) rfl ?_);try simp only [go_sem,simprocAttr,cD,dL,kU])|(intro h))
 ·have cD:decide ((k:Int)<(g.es.length:Int))=false:=decide_eq_false (by omega)
  obtain rfl:k=g.es.length:=by omega
  have hres:res=true:=hr.2 ⟨mY,vB,vk,bX,Gx⟩
  subst hres
  repeat' (first|fail|((first|((with_reducible (first|apply oA|apply oB));exact rfl;intro K hK)|(refine hK _ ?_;clear hK K)|((with_reducible (first|apply oG|apply oH));iterate 3 exact rfl)|((with_reducible apply oI);(iterate 2 exact rfl);intro K hK)|(with_reducible (first|apply wI|apply wJ|apply wK)));try simp only [go_sem,simprocAttr,cD,dL])|fail|(with_reducible (first|apply oC|apply oJ|exact oK|apply wA|apply wB|apply wC hX hC|apply wD hX hC|apply wE hX hC af|apply wF hX hC af|apply wG|apply wH|apply And.intro))|((with_reducible refine oD ?_ ?_);first|fail|kernel_rfl)|((with_reducible (first|apply oE|apply oF));(iterate 3 exact rfl);all_goals (intro h;first|(exact absurd h (by decide))|((try simp only [go_sem,simprocAttr,cD,dL] at h);(try with_reducible intro K hK);simp only [go_sem,simprocAttr,cD,dL])))|((first|((with_reducible apply wL);exact rfl)|((with_reducible apply wM);exact rfl));all_goals (try ((with_reducible intro h);first|(exact absurd h (by decide))|(try simp only [go_sem,simprocAttr,cD,dL] at h))))|omega|((first|first|refine aa hX hC hP (aR g hl) rfl rfl rfl (by simp only [go_sem,simprocAttr,cD,dL]) rfl ?_|refine aa hX hC hP (cm p.ord g.n ho) rfl rfl rfl (by simp only [go_sem,simprocAttr,cD,dL]) rfl ?_);try simp only [go_sem,simprocAttr,cD,dL])|(intro h))
end Go.Ab
end
section
namespace Go.Ab
open Go.Proofs
attribute [local congr] ACall.congr
set_option maxRecDepth 10000
set_option maxHeartbeats 8000000
def bN (b:Bool) (g:Gr) (p:Pl):(List (List It) × List It) × Int × Int:=
 if b=false then (([], []),(1,0)) else
 match iG g p g.n.toNat with
 |some i=>(([], []),(3,(i:Int)))
 |none=>((ec g p g.n.toNat,(fK g p g.n.toNat).row),(0,0))
theorem CZ {n:Nat} :List.replicate n [D.sl 3 []]=vT (List.replicate n []):=by simp [vT,sT]
theorem C0 {ls:List (List It)} {k:Nat} {l:List It} :(vT ls).set k [sT l]=vT (ls.set k l):=by simp [vT,List.map_set]
theorem tR {g:Gr} {p:Pl} {k:Nat} :ec g p (k+1)=(ec g p k).set (az p k).toNat (fc g p k):=rfl
theorem xu (g:Gr) (hl:g.es.length≤9223372036854775807) (p:Pl) (hp:pI p) (b:Bool) (hr:b=true↔(cq g).1=0∧bE g p):
 Spec Tryz.prog 88 (Args [eG g,ePl p]) [] (.tup [.d (.sl 1 (vT (bN b g p).1.1)), .d (sT (bN b g p).1.2),eN (bN b g p).2.1,eN (bN b g p).2.2]) []:=by
 have hO:=CY g hl p hp b hr
 cases b with
 |false=>
  have hR:bN false g p=(([], []),(1,0)):=rfl
  rw [hR]
  (refine Spec.intro (C:=T.cfg [] []) (rs:= [.t 4, .t 5, .t 6, .t 7]) (T.au _ _) Tryz.func88 rfl rfl Tryz.ntmps88 Tryz.results88 (by simp [AObj.isNest]) (by simp [AObj.isNest]) (by kernel_rfl) ?_;intro X hX hP hC aI aJ vals hA;refine ⟨_,by simp,hA, ?_⟩;have af:X.P.follows .mixedOrders=true:=(by rw [hP];exact T.mixed);clear aI aJ)
  repeat' (first|fail|((first|((with_reducible (first|apply oA|apply oB));exact rfl;intro K hK)|(refine hK _ ?_;clear hK K)|((with_reducible (first|apply oG|apply oH));iterate 3 exact rfl)|((with_reducible apply oI);(iterate 2 exact rfl);intro K hK)|(with_reducible (first|apply wI|apply wJ|apply wK)));try simp only [go_sem,simprocAttr,vT,List.map_nil])|fail|(with_reducible (first|apply oC|apply oJ|exact oK|apply wA|apply wB|apply wC hX hC|apply wD hX hC|apply wE hX hC af|apply wF hX hC af|apply wG|apply wH|apply And.intro))|((with_reducible refine oD ?_ ?_);first|fail|kernel_rfl)|((with_reducible (first|apply oE|apply oF));(iterate 3 exact rfl);all_goals (intro h;first|(exact absurd h (by decide))|((try simp only [go_sem,simprocAttr,vT,List.map_nil] at h);(try with_reducible intro K hK);simp only [go_sem,simprocAttr,vT,List.map_nil])))|((first|((with_reducible apply wL);exact rfl)|((with_reducible apply wM);exact rfl));all_goals (try ((with_reducible intro h);first|(exact absurd h (by decide))|(try simp only [go_sem,simprocAttr,vT,List.map_nil] at h))))|omega|((first|first|refine aa hX hC hP (hO) rfl rfl rfl (by simp only [go_sem,simprocAttr,vT,List.map_nil]) rfl ?_);try simp only [go_sem,simprocAttr,vT,List.map_nil])|(intro h))
 |true=>
 obtain ⟨hc,AT⟩:=hr.1 rfl
 have hm:=aF hc
 have hn:=aV hm
 have hle:=b9 AT
 have hR:bN true g p=match iG g p g.n.toNat with
  |some i=>(([], []),(3,(i:Int)))
  |none=>((ec g p g.n.toNat,(fK g p g.n.toNat).row),(0,0)):=rfl
 generalize bN true g p=R at hR
 (refine Spec.intro (C:=T.cfg [] []) (rs:= [.t 4, .t 5, .t 6, .t 7]) (T.au _ _) Tryz.func88 rfl rfl Tryz.ntmps88 Tryz.results88 (by simp [AObj.isNest]) (by simp [AObj.isNest]) (by kernel_rfl) ?_;intro X hX hP hC aI aJ vals hA;refine ⟨_,by simp,hA, ?_⟩;have af:X.P.follows .mixedOrders=true:=(by rw [hP];exact T.mixed);clear aI aJ)
 repeat' (first|fail|((first|((with_reducible (first|apply oA|apply oB));exact rfl;intro K hK)|(refine hK _ ?_;clear hK K)|((with_reducible (first|apply oG|apply oH));iterate 3 exact rfl)|((with_reducible apply oI);(iterate 2 exact rfl);intro K hK)|(with_reducible (first|apply wI|apply wJ|apply wK)));try simp only [go_sem,simprocAttr])|(show dD _ (.seq (.region 4 _ _) _) _ _;(refine nt 20 2 3 rfl rfl rfl ?_;simp only [LA.app,ASt.put,ASt.kill,putM,rml,List.set_cons_zero,List.set_cons_succ,go_sem,simprocAttr]);(refine nt 20 3 1 rfl rfl rfl ?_;simp only [LA.app,ASt.put,ASt.kill,putM,rml,List.set_cons_zero,List.set_cons_succ,go_sem,simprocAttr]))|(with_reducible (first|apply oC|apply oJ|exact oK|apply wA|apply wB|apply wC hX hC|apply wD hX hC|apply wE hX hC af|apply wF hX hC af|apply wG|apply wH|apply And.intro))|((with_reducible refine oD ?_ ?_);first|fail|kernel_rfl)|((with_reducible (first|apply oE|apply oF));(iterate 3 exact rfl);all_goals (intro h;first|(exact absurd h (by decide))|((try simp only [go_sem,simprocAttr] at h);(try with_reducible intro K hK);simp only [go_sem,simprocAttr])))|((first|((with_reducible apply wL);exact rfl)|((with_reducible apply wM);exact rfl));all_goals (try ((with_reducible intro h);first|(exact absurd h (by decide))|(try simp only [go_sem,simprocAttr] at h))))|omega|((first|first|refine aa hX hC hP (hO) rfl rfl rfl (by simp only [go_sem,simprocAttr]) rfl ?_);try simp only [go_sem,simprocAttr])|(intro h))
 rw [CZ]
 refine an (fun k:Nat=>k≤g.n.toNat∧∀j,j<k→yw g p j=true) (fun k=>⟨[(2, .ptr 2 0),(3, .ptr 3 0),(8, .ptr 20 0),(9, .ref 23),(10,eN k)], [(23, .own 80 1 (vT (ec g p k))),(20, .box (eD g (fK g p k))),(3, .box [.d (sI p.ord), .d (.sl 1 (vI p.outs))]),(2, .box [eN g.n, .d (sE g.es)])]⟩) (fun k=>g.n.toNat - k) 0 (by simp) ?_ ?_
 ·refine Le.of ?_ ?_<;>simp [go_sem,simprocAttr,eD,fK,ec]
 rintro k ⟨hk,hok⟩
 obtain ⟨hi,_,hrl⟩:=dH hm AT hk hok
 have hel:=kS (g:=g) (p:=p) (k:=k)
 rcases Nat.lt_or_ge k g.n.toNat with hlt|hge
 ·have hb:decide ((k:Int)<(p.ord.length:Int))=true:=decide_eq_true (by omega)
  have DG:=aN AT hlt
  have dn:=tR (g:=g) (p:=p) (k:=k)
  have AU:fK g p (k+1)=(aB g (fK g p k) (az p k) (bK p (az p k))).2:=rfl
  have vk:fc g p k=(aB g (fK g p k) (az p k) (bK p (az p k))).1.1:=rfl
  have hpk:=xl AT hlt
  have C1:=xm (g:=g) (p:=p) (k:=k)
  have hsk:yw g p k=false→R=(([], []),(3,(k:Int))):=fun h=>by
   rw [hR,mI.2 ⟨hlt,h,hok⟩]
  have hmul:k*(g.es.length+1)≤64*129:=Nat.mul_le_mul (by omega) (by omega)
  have kg:=jZ AT DG.1 DG.2
  have fY:p.ord.getD k 0=az p k:=rfl
  have C2:(fK g p k).pl.length≤64:=by
   rcases E3 hi.togG with h|h
   ·omega
   ·rw [h];simp
  obtain ⟨x,hx⟩:∃x:Nat,az p k=x:=⟨(az p k).toNat,by omega⟩
  rw [hx] at fY AU vk hpk C1 DG kg dn
  have hxl:x<p.outs.length:=by have:=AT.1;omega
  have hv:=jW hxl
  have hla:bK p (x:Int)=p.outs.getD x []:=by unfold bK;rw [Int.toNat_natCast]
  rw [hla] at AU vk hpk C1 kg
  rw [Int.toNat_natCast] at dn
  have ki:=xe g (by omega) (fK g p k) (x:Int) (p.outs.getD x []) (by omega) (by omega) (by omega)
  have b7:=C0 (ls:=ec g p k) (k:=x) (l:=fc g p k)
  generalize p.outs.getD x []=o at hv AU vk hpk C1 ki
  rw [← dn] at b7
  generalize fK g p k=f at AU vk hpk C1 ki hi hrl C2
  cases vl:yw g p k with
  |false=>
   rw [C1 vl] at ki
   have F1:=hsk vl
   subst F1
   repeat' (first|fail|((first|((with_reducible (first|apply oA|apply oB));exact rfl;intro K hK)|(refine hK _ ?_;clear hK K)|((with_reducible (first|apply oG|apply oH));iterate 3 exact rfl)|((with_reducible apply oI);(iterate 2 exact rfl);intro K hK)|(with_reducible (first|apply wI|apply wJ|apply wK)));try simp only [go_sem,simprocAttr,hb,fY,hv,eD,vT,List.map_nil])|fail|(with_reducible (first|apply oC|apply oJ|exact oK|apply wA|apply wB|apply wC hX hC|apply wD hX hC|apply wE hX hC af|apply wF hX hC af|apply wG|apply wH|apply And.intro))|((with_reducible refine oD ?_ ?_);first|fail|kernel_rfl)|((with_reducible (first|apply oE|apply oF));(iterate 3 exact rfl);all_goals (intro h;first|(exact absurd h (by decide))|((try simp only [go_sem,simprocAttr,hb,fY,hv,eD,vT,List.map_nil] at h);(try with_reducible intro K hK);simp only [go_sem,simprocAttr,hb,fY,hv,eD,vT,List.map_nil])))|((first|((with_reducible apply wL);exact rfl)|((with_reducible apply wM);exact rfl));all_goals (try ((with_reducible intro h);first|(exact absurd h (by decide))|(try simp only [go_sem,simprocAttr,hb,fY,hv,eD,vT,List.map_nil] at h))))|omega|((first|first|(refine aA hX hC hP [(10000,20)] (ki) rfl rfl rfl ?_ ?_ ?_ ?_ ?_ ?_ ?_ ?_ ?_ ?_ ?_ ?_ ?_ ?_;(focus (simp only [go_sem,simprocAttr,hb,fY,hv,eD,vT,List.map_nil];done));(iterate 12 (focus (simp [go_sem,simprocAttr,hb,fY,hv,eD,vT,List.map_nil];done)));simp only [go_sem,simprocAttr,hb,fY,hv,eD,vT,List.map_nil,List.map_cons,List.map_nil]));try simp only [go_sem,simprocAttr,hb,fY,hv,eD,vT,List.map_nil])|(intro h))
  |true=>
   rw [hpk vl] at ki
   have ee:(aB g f (x:Int) o).1.2=0:=rfl
   rw [vk] at b7
   generalize aB g f (x:Int) o=su at AU vk ki ee b7
   have Jr:x<(ec g p k).length:=by omega
   generalize OH:ec g p k=E at b7 Jr hel
   have hvl:(vT E).length=E.length:=vT_length
   have tS:=fun d=>nG Jr d
   repeat' (first|fail|((first|((with_reducible (first|apply oA|apply oB));exact rfl;intro K hK)|(refine hK _ ?_;clear hK K)|((with_reducible (first|apply oG|apply oH));iterate 3 exact rfl)|((with_reducible apply oI);(iterate 2 exact rfl);intro K hK)|(with_reducible (first|apply wI|apply wJ|apply wK)));try simp only [go_sem,simprocAttr,hb,fY,hv,eD,ee,b7,tS,List.drop_succ_cons,List.drop_zero])|fail|(with_reducible (first|apply oC|apply oJ|exact oK|apply wA|apply wB|apply wC hX hC|apply wD hX hC|apply wE hX hC af|apply wF hX hC af|apply wG|apply wH|apply And.intro))|((with_reducible refine oD ?_ ?_);first|fail|kernel_rfl)|((with_reducible (first|apply oE|apply oF));(iterate 3 exact rfl);all_goals (intro h;first|(exact absurd h (by decide))|((try simp only [go_sem,simprocAttr,hb,fY,hv,eD,ee,b7,tS,List.drop_succ_cons,List.drop_zero] at h);(try with_reducible intro K hK);simp only [go_sem,simprocAttr,hb,fY,hv,eD,ee,b7,tS,List.drop_succ_cons,List.drop_zero])))|((first|((with_reducible apply wL);exact rfl)|((with_reducible apply wM);exact rfl));all_goals (try ((with_reducible intro h);first|(exact absurd h (by decide))|(try simp only [go_sem,simprocAttr,hb,fY,hv,eD,ee,b7,tS,List.drop_succ_cons,List.drop_zero] at h))))|omega|((first|first|(refine aA hX hC hP [(10000,20)] (ki) rfl rfl rfl ?_ ?_ ?_ ?_ ?_ ?_ ?_ ?_ ?_ ?_ ?_ ?_ ?_ ?_;(focus (simp only [go_sem,simprocAttr,hb,fY,hv,eD,ee,b7,tS,List.drop_succ_cons,List.drop_zero];done));(iterate 12 (focus (simp [go_sem,simprocAttr,hb,fY,hv,eD,ee,b7,tS,List.drop_succ_cons,List.drop_zero];done)));simp only [go_sem,simprocAttr,hb,fY,hv,eD,ee,b7,tS,List.drop_succ_cons,List.drop_zero,List.map_cons,List.map_nil]));try simp only [go_sem,simprocAttr,hb,fY,hv,eD,ee,b7,tS,List.drop_succ_cons,List.drop_zero])|(intro h))
   refine ⟨k+1,⟨by omega,fun j hj=> ?_⟩, ?_,by omega⟩
   ·by_cases e:j=k
    ·subst e;exact vl
    ·exact hok j (by omega)
   ·rw [AU]
    have C3:(vT E).set x [D.sl 3 (List.map rT su.1.1)]=vT (ec g p (k+1)):=b7
    refine Le.of ?_ ?_<;>simp [go_sem,simprocAttr,hb,fY,hv,eD,ee,b7,tS,List.drop_succ_cons,List.drop_zero,C3]
 have hb:decide ((k:Int)<(p.ord.length:Int))=false:=decide_eq_false (by omega)
 obtain rfl:k=g.n.toNat:=by omega
 rw [eR.2 hok] at hR
 subst hR
 repeat' (first|fail|((first|((with_reducible (first|apply oA|apply oB));exact rfl;intro K hK)|(refine hK _ ?_;clear hK K)|((with_reducible (first|apply oG|apply oH));iterate 3 exact rfl)|((with_reducible apply oI);(iterate 2 exact rfl);intro K hK)|(with_reducible (first|apply wI|apply wJ|apply wK)));try simp only [go_sem,simprocAttr,hb,eD])|fail|(with_reducible (first|apply oC|apply oJ|exact oK|apply wA|apply wB|apply wC hX hC|apply wD hX hC|apply wE hX hC af|apply wF hX hC af|apply wG|apply wH|apply And.intro))|((with_reducible refine oD ?_ ?_);first|fail|kernel_rfl)|((with_reducible (first|apply oE|apply oF));(iterate 3 exact rfl);all_goals (intro h;first|(exact absurd h (by decide))|((try simp only [go_sem,simprocAttr,hb,eD] at h);(try with_reducible intro K hK);simp only [go_sem,simprocAttr,hb,eD])))|((first|((with_reducible apply wL);exact rfl)|((with_reducible apply wM);exact rfl));all_goals (try ((with_reducible intro h);first|(exact absurd h (by decide))|(try simp only [go_sem,simprocAttr,hb,eD] at h))))|omega|((first|fail);try simp only [go_sem,simprocAttr,hb,eD])|(intro h))
end Go.Ab
end
section
namespace Go.Ab
open Go.Proofs
attribute [local congr] ACall.congr
set_option maxRecDepth 10000
set_option maxHeartbeats 8000000
theorem lZ (g:Gr) (hl:g.es.length≤1000) (p:Pl) (hp:pI p) (b:Bool) (hr:b=true↔(cq g).1=0∧bE g p):
 Spec Tryz.prog 46 (Args [eG g,ePl p]) [] (.tup [.d (.sl 1 (vT (bN b g p).1.1)), .d (sT (bN b g p).1.2),eF ((bN b g p).2.1,(bN b g p).2.2, [])]) []:=by
 by_cases hc:(cq g).1=0
 rotate_left
 ·obtain rfl:b=false:=by
   rw [← Bool.not_eq_true,hr]
   exact fun h=>hc h.1
  have hR:bN false g p=(([], []),(1,0)):=rfl
  rw [hR]
  (refine Spec.intro (C:=T.cfg [] []) (rs:= [.t 4, .t 5, .c 6 82]) (T.au _ _) Tryz.func46 rfl rfl Tryz.ntmps46 Tryz.results46 (by simp [AObj.isNest]) (by simp [AObj.isNest]) (by kernel_rfl) ?_;intro X hX hP hC aI aJ vals hA;refine ⟨_,by simp,hA, ?_⟩;have af:X.P.follows .mixedOrders=true:=(by rw [hP];exact T.mixed);clear aI aJ)
  repeat' (first|fail|((first|((with_reducible (first|apply oA|apply oB));exact rfl;intro K hK)|(refine hK _ ?_;clear hK K)|((with_reducible (first|apply oG|apply oH));iterate 3 exact rfl)|((with_reducible apply oI);(iterate 2 exact rfl);intro K hK)|(with_reducible (first|apply wI|apply wJ|apply wK)));try simp only [go_sem,simprocAttr,vT,List.map_nil])|fail|(with_reducible (first|apply oC|apply oJ|exact oK|apply wA|apply wB|apply wC hX hC|apply wD hX hC|apply wE hX hC af|apply wF hX hC af|apply wG|apply wH|apply And.intro))|((with_reducible refine oD ?_ ?_);first|fail|kernel_rfl)|((with_reducible (first|apply oE|apply oF));(iterate 3 exact rfl);all_goals (intro h;first|(exact absurd h (by decide))|((try simp only [go_sem,simprocAttr,vT,List.map_nil] at h);(try with_reducible intro K hK);simp only [go_sem,simprocAttr,vT,List.map_nil])))|((first|((with_reducible apply wL);exact rfl)|((with_reducible apply wM);exact rfl));all_goals (try ((with_reducible intro h);first|(exact absurd h (by decide))|(try simp only [go_sem,simprocAttr,vT,List.map_nil] at h))))|omega|((first|first|refine aa hX hC hP (AG g hl hc) rfl rfl rfl (by simp only [go_sem,simprocAttr,vT,List.map_nil]) rfl ?_);try simp only [go_sem,simprocAttr,vT,List.map_nil])|(intro h))
 have hm:=aF hc
 have hn:=aV hm
 have hr:b=true↔bE g p:=by rw [hr];exact ⟨fun h=>h.2,fun h=>⟨hc,h⟩⟩
 have hO:=CV g hm p hp b hr
 cases b with
 |false=>
  have hR:bN false g p=(([], []),(1,0)):=rfl
  rw [hR]
  (refine Spec.intro (C:=T.cfg [] []) (rs:= [.t 4, .t 5, .c 6 82]) (T.au _ _) Tryz.func46 rfl rfl Tryz.ntmps46 Tryz.results46 (by simp [AObj.isNest]) (by simp [AObj.isNest]) (by kernel_rfl) ?_;intro X hX hP hC aI aJ vals hA;refine ⟨_,by simp,hA, ?_⟩;have af:X.P.follows .mixedOrders=true:=(by rw [hP];exact T.mixed);clear aI aJ)
  repeat' (first|fail|((first|((with_reducible (first|apply oA|apply oB));exact rfl;intro K hK)|(refine hK _ ?_;clear hK K)|((with_reducible (first|apply oG|apply oH));iterate 3 exact rfl)|((with_reducible apply oI);(iterate 2 exact rfl);intro K hK)|(with_reducible (first|apply wI|apply wJ|apply wK)));try simp only [go_sem,simprocAttr,vT,List.map_nil])|fail|(with_reducible (first|apply oC|apply oJ|exact oK|apply wA|apply wB|apply wC hX hC|apply wD hX hC|apply wE hX hC af|apply wF hX hC af|apply wG|apply wH|apply And.intro))|((with_reducible refine oD ?_ ?_);first|fail|kernel_rfl)|((with_reducible (first|apply oE|apply oF));(iterate 3 exact rfl);all_goals (intro h;first|(exact absurd h (by decide))|((try simp only [go_sem,simprocAttr,vT,List.map_nil] at h);(try with_reducible intro K hK);simp only [go_sem,simprocAttr,vT,List.map_nil])))|((first|((with_reducible apply wL);exact rfl)|((with_reducible apply wM);exact rfl));all_goals (try ((with_reducible intro h);first|(exact absurd h (by decide))|(try simp only [go_sem,simprocAttr,vT,List.map_nil] at h))))|omega|((first|first|(refine rD hX hC hP [(10000,13)] (tM g hl hc hm) rfl rfl rfl ?_ ?_ ?_ ?_ ?_ ?_ ?_ ?_ ?_ ?_ ?_ ?_ ?_ ?_;(focus (simp only [go_sem,simprocAttr,vT,List.map_nil];done));(iterate 12 (focus (simp [go_sem,simprocAttr,vT,List.map_nil];done)));simp only [go_sem,simprocAttr,vT,List.map_nil,List.map_cons,List.map_nil])|refine aa hX hC hP (fZ g hm) rfl rfl rfl (by simp only [go_sem,simprocAttr,vT,List.map_nil]) rfl ?_|refine aa hX hC hP (hO) rfl rfl rfl (by simp only [go_sem,simprocAttr,vT,List.map_nil]) rfl ?_);try simp only [go_sem,simprocAttr,vT,List.map_nil])|(intro h))
 |true=>
 have AT:=hr.1 rfl
 have hle:=b9 AT
 have hR:bN true g p=match iG g p g.n.toNat with
  |some i=>(([], []),(3,(i:Int)))
  |none=>((ec g p g.n.toNat,(fK g p g.n.toNat).row),(0,0)):=rfl
 generalize bN true g p=R at hR
 (refine Spec.intro (C:=T.cfg [] []) (rs:= [.t 4, .t 5, .c 6 82]) (T.au _ _) Tryz.func46 rfl rfl Tryz.ntmps46 Tryz.results46 (by simp [AObj.isNest]) (by simp [AObj.isNest]) (by kernel_rfl) ?_;intro X hX hP hC aI aJ vals hA;refine ⟨_,by simp,hA, ?_⟩;have af:X.P.follows .mixedOrders=true:=(by rw [hP];exact T.mixed);clear aI aJ)
 repeat' (first|fail|((first|((with_reducible (first|apply oA|apply oB));exact rfl;intro K hK)|(refine hK _ ?_;clear hK K)|((with_reducible (first|apply oG|apply oH));iterate 3 exact rfl)|((with_reducible apply oI);(iterate 2 exact rfl);intro K hK)|(with_reducible (first|apply wI|apply wJ|apply wK)));try simp only [go_sem,simprocAttr])|(show dD _ (.seq (.region 5 _ _) _) _ _;(refine nt 13 0 3 rfl rfl rfl ?_;simp only [LA.app,ASt.put,ASt.kill,putM,rml,List.set_cons_zero,List.set_cons_succ,go_sem,simprocAttr]);(refine wR hX 13 2 100 (.tip 3 1 []) rfl rfl rfl (by simp only [go_sem,simprocAttr]) (by decide) (by simp [go_sem,simprocAttr]) ⟨3,1,by decide, .inr rfl⟩ ?_;simp only [LA.app,ASt.put,ASt.kill,subT,rmk,putM,rml,kl,AV.sub,AV.subs,AObj.sub,List.set_cons_zero,List.set_cons_succ,go_sem,simprocAttr]))|(with_reducible (first|apply oC|apply oJ|exact oK|apply wA|apply wB|apply wC hX hC|apply wD hX hC|apply wE hX hC af|apply wF hX hC af|apply wG|apply wH|apply And.intro))|((with_reducible refine oD ?_ ?_);first|fail|kernel_rfl)|((with_reducible (first|apply oE|apply oF));(iterate 3 exact rfl);all_goals (intro h;first|(exact absurd h (by decide))|((try simp only [go_sem,simprocAttr] at h);(try with_reducible intro K hK);simp only [go_sem,simprocAttr])))|((first|((with_reducible apply wL);exact rfl)|((with_reducible apply wM);exact rfl));all_goals (try ((with_reducible intro h);first|(exact absurd h (by decide))|(try simp only [go_sem,simprocAttr] at h))))|omega|((first|first|(refine rD hX hC hP [(10000,13)] (tM g hl hc hm) rfl rfl rfl ?_ ?_ ?_ ?_ ?_ ?_ ?_ ?_ ?_ ?_ ?_ ?_ ?_ ?_;(focus (simp only [go_sem,simprocAttr];done));(iterate 12 (focus (simp [go_sem,simprocAttr];done)));simp only [go_sem,simprocAttr,List.map_cons,List.map_nil])|refine aa hX hC hP (fZ g hm) rfl rfl rfl (by simp only [go_sem,simprocAttr]) rfl ?_|refine aa hX hC hP (hO) rfl rfl rfl (by simp only [go_sem,simprocAttr]) rfl ?_);try simp only [go_sem,simprocAttr])|(intro h))
 rw [CZ]
 refine an (fun k:Nat=>k≤g.n.toNat∧∀j,j<k→yw g p j=true) (fun k=>⟨[(3, .ptr 3 0),(4, .ref 28),(6, .ptr 6 0),(7, .ptr 13 0),(30, .d (sI p.ord)),(31,eN p.ord.length),(32,eN k)], [(28, .own 80 1 (vT (ec g p k))),(13, .box [.d (sT (fK g p k).row), .d (vw g), .ref 100]),(100, .tip 3 1 ((fK g p k).pl.map rI)),(6, .box [eN 0,eN 0, .nil 3]),(3, .box [.d (sI p.ord), .d (.sl 1 (vI p.outs))])]⟩) (fun k=>g.n.toNat - k) 0 (by simp) ?_ ?_
 ·refine Le.of ?_ ?_<;>simp [go_sem,simprocAttr,eD,fK,ec]
 rintro k ⟨hk,hok⟩
 obtain ⟨hi,_,hrl⟩:=dH hm AT hk hok
 have hel:=kS (g:=g) (p:=p) (k:=k)
 have hmul:k*(g.es.length+1)≤64*129:=Nat.mul_le_mul (by omega) (by omega)
 rcases Nat.lt_or_ge k g.n.toNat with hlt|hge
 ·have hb:decide ((k:Int)<(p.ord.length:Int))=true:=decide_eq_true (by omega)
  have DG:=aN AT hlt
  have dn:=tR (g:=g) (p:=p) (k:=k)
  have AU:fK g p (k+1)=(aB g (fK g p k) (az p k) (bK p (az p k))).2:=rfl
  have vk:fc g p k=(aB g (fK g p k) (az p k) (bK p (az p k))).1.1:=rfl
  have hpk:=xl AT hlt
  have C1:=xm (g:=g) (p:=p) (k:=k)
  have hsk:yw g p k=false→R=(([], []),(3,(k:Int))):=fun h=>by
   rw [hR,mI.2 ⟨hlt,h,hok⟩]
  have kg:=jZ AT DG.1 DG.2
  have fY:p.ord.getD k 0=az p k:=rfl
  have C2:(fK g p k).pl.length≤64:=by
   rcases E3 hi.togG with h|h
   ·omega
   ·rw [h];simp
  obtain ⟨x,hx⟩:∃x:Nat,az p k=x:=⟨(az p k).toNat,by omega⟩
  rw [hx] at fY AU vk hpk C1 DG kg dn
  have hxl:x<p.outs.length:=by have:=AT.1;omega
  have hv:=jW hxl
  have hla:bK p (x:Int)=p.outs.getD x []:=by unfold bK;rw [Int.toNat_natCast]
  rw [hla] at AU vk hpk C1 kg
  rw [Int.toNat_natCast] at dn
  have ki:=xp g hm (fK g p k) hi (x:Int) (p.outs.getD x []) (by omega) (by omega) (by omega)
  have b7:=C0 (ls:=ec g p k) (k:=x) (l:=fc g p k)
  generalize p.outs.getD x []=o at hv AU vk hpk C1 ki
  rw [← dn] at b7
  generalize fK g p k=f at AU vk hpk C1 ki hi hrl C2
  have Jr:x<(ec g p k).length:=by omega
  have hvl:(vT (ec g p k)).length=(ec g p k).length:=vT_length
  cases vl:yw g p k with
  |false=>
   rw [C1 vl] at ki
   simp only at ki
   have F1:=hsk vl
   subst F1
   repeat' (first|fail|((first|((with_reducible (first|apply oA|apply oB));exact rfl;intro K hK)|(refine hK _ ?_;clear hK K)|((with_reducible (first|apply oG|apply oH));iterate 3 exact rfl)|((with_reducible apply oI);(iterate 2 exact rfl);intro K hK)|(with_reducible (first|apply wI|apply wJ|apply wK)));try simp only [go_sem,simprocAttr,hb,fY,hv,iy,r9,List.map_nil])|fail|(with_reducible (first|apply oC|apply oJ|exact oK|apply wA|apply wB|apply wC hX hC|apply wD hX hC|apply wE hX hC af|apply wF hX hC af|apply wG|apply wH|apply And.intro))|((with_reducible refine oD ?_ ?_);first|fail|kernel_rfl)|((with_reducible (first|apply oE|apply oF));(iterate 3 exact rfl);all_goals (intro h;first|(exact absurd h (by decide))|((try simp only [go_sem,simprocAttr,hb,fY,hv,iy,r9,List.map_nil] at h);(try with_reducible intro K hK);simp only [go_sem,simprocAttr,hb,fY,hv,iy,r9,List.map_nil])))|((first|((with_reducible apply wL);exact rfl)|((with_reducible apply wM);exact rfl));all_goals (try ((with_reducible intro h);first|(exact absurd h (by decide))|(try simp only [go_sem,simprocAttr,hb,fY,hv,iy,r9,List.map_nil] at h))))|omega|((first|first|(refine aA hX hC hP [(10000,13),(10001,100),(10002,101)] (ki) rfl rfl rfl ?_ ?_ ?_ ?_ ?_ ?_ ?_ ?_ ?_ ?_ ?_ ?_ ?_ ?_;(focus (simp only [go_sem,simprocAttr,hb,fY,hv,iy,r9,List.map_nil];done));(iterate 12 (focus (simp [go_sem,simprocAttr,hb,fY,hv,iy,r9,List.map_nil];done)));simp only [go_sem,simprocAttr,hb,fY,hv,iy,r9,List.map_nil,List.map_cons,List.map_nil]));try simp only [go_sem,simprocAttr,hb,fY,hv,iy,r9,List.map_nil])|(intro h))
   all_goals rfl
  |true=>
   rw [hpk vl] at ki
   have ee:(aB g f (x:Int) o).1.2=0:=rfl
   rw [vk] at b7
   generalize aB g f (x:Int) o=su at AU vk ki ee b7
   generalize OH:ec g p k=E at b7 Jr hel hvl
   have tS:=fun d=>nG Jr d
   repeat' (first|fail|((first|((with_reducible (first|apply oA|apply oB));exact rfl;intro K hK)|(refine hK _ ?_;clear hK K)|((with_reducible (first|apply oG|apply oH));iterate 3 exact rfl)|((with_reducible apply oI);(iterate 2 exact rfl);intro K hK)|(with_reducible (first|apply wI|apply wJ|apply wK)));try simp only [go_sem,simprocAttr,hb,fY,hv,iy,r9,ee,b7,tS,List.drop_succ_cons,List.drop_zero])|(show dD _ (.region 11 _ _) _ _;(refine iE hX 13 2 101 100 rfl rfl rfl (by first|exact .inl rfl|exact .inr rfl) (by decide) (by decide) ?_;simp only [LA.app,ASt.put,ASt.kill,subT,rmk,putM,rml,kl,AV.sub,AV.subs,AObj.sub,List.set_cons_zero,List.set_cons_succ,go_sem,simprocAttr,hb,fY,hv,iy,r9,ee,b7,tS,List.drop_succ_cons,List.drop_zero]))|(with_reducible (first|apply oC|apply oJ|exact oK|apply wA|apply wB|apply wC hX hC|apply wD hX hC|apply wE hX hC af|apply wF hX hC af|apply wG|apply wH|apply And.intro))|((with_reducible refine oD ?_ ?_);first|fail|kernel_rfl)|((with_reducible (first|apply oE|apply oF));(iterate 3 exact rfl);all_goals (intro h;first|(exact absurd h (by decide))|((try simp only [go_sem,simprocAttr,hb,fY,hv,iy,r9,ee,b7,tS,List.drop_succ_cons,List.drop_zero] at h);(try with_reducible intro K hK);simp only [go_sem,simprocAttr,hb,fY,hv,iy,r9,ee,b7,tS,List.drop_succ_cons,List.drop_zero])))|((first|((with_reducible apply wL);exact rfl)|((with_reducible apply wM);exact rfl));all_goals (try ((with_reducible intro h);first|(exact absurd h (by decide))|(try simp only [go_sem,simprocAttr,hb,fY,hv,iy,r9,ee,b7,tS,List.drop_succ_cons,List.drop_zero] at h))))|omega|((first|first|(refine aA hX hC hP [(10000,13),(10001,100),(10002,101)] (ki) rfl rfl rfl ?_ ?_ ?_ ?_ ?_ ?_ ?_ ?_ ?_ ?_ ?_ ?_ ?_ ?_;(focus (simp only [go_sem,simprocAttr,hb,fY,hv,iy,r9,ee,b7,tS,List.drop_succ_cons,List.drop_zero];done));(iterate 12 (focus (simp [go_sem,simprocAttr,hb,fY,hv,iy,r9,ee,b7,tS,List.drop_succ_cons,List.drop_zero];done)));simp only [go_sem,simprocAttr,hb,fY,hv,iy,r9,ee,b7,tS,List.drop_succ_cons,List.drop_zero,List.map_cons,List.map_nil]));try simp only [go_sem,simprocAttr,hb,fY,hv,iy,r9,ee,b7,tS,List.drop_succ_cons,List.drop_zero])|(intro h))
   refine ⟨k+1,⟨by omega,fun j hj=> ?_⟩, ?_,by omega⟩
   ·by_cases e:j=k
    ·subst e;exact vl
    ·exact hok j (by omega)
   ·rw [AU]
    have C3:(vT E).set x [D.sl 3 (List.map rT su.1.1)]=vT (ec g p (k+1)):=b7
    refine Le.of ?_ ?_<;>simp [go_sem,simprocAttr,hb,fY,hv,iy,r9,ee,b7,tS,List.drop_succ_cons,List.drop_zero,C3]
 have hb:decide ((k:Int)<(p.ord.length:Int))=false:=decide_eq_false (by omega)
 obtain rfl:k=g.n.toNat:=by omega
 rw [eR.2 hok] at hR
 subst hR
 repeat' (first|fail|((first|((with_reducible (first|apply oA|apply oB));exact rfl;intro K hK)|(refine hK _ ?_;clear hK K)|((with_reducible (first|apply oG|apply oH));iterate 3 exact rfl)|((with_reducible apply oI);(iterate 2 exact rfl);intro K hK)|(with_reducible (first|apply wI|apply wJ|apply wK)));try simp only [go_sem,simprocAttr,hb])|fail|(with_reducible (first|apply oC|apply oJ|exact oK|apply wA|apply wB|apply wC hX hC|apply wD hX hC|apply wE hX hC af|apply wF hX hC af|apply wG|apply wH|apply And.intro))|((with_reducible refine oD ?_ ?_);first|fail|kernel_rfl)|((with_reducible (first|apply oE|apply oF));(iterate 3 exact rfl);all_goals (intro h;first|(exact absurd h (by decide))|((try simp only [go_sem,simprocAttr,hb] at h);(try with_reducible intro K hK);simp only [go_sem,simprocAttr,hb])))|((first|((with_reducible apply wL);exact rfl)|((with_reducible apply wM);exact rfl));all_goals (try ((with_reducible intro h);first|(exact absurd h (by decide))|(try simp only [go_sem,simprocAttr,hb] at h))))|omega|((first|first|(refine pg hX hC hP 60 (AE [vw g,sI (fK g p g.n.toNat).pl] (fK g p g.n.toNat).row (by omega)) rfl rfl rfl ?_ ?_ (by first|exact ⟨_,_,_,rfl,y9⟩|exact ⟨_,_,_,rfl,za⟩|exact ⟨_,_,_,rfl,zf⟩) rfl (by decide) ?_;(iterate 2 (focus (simp only [go_sem,simprocAttr,hb];done)));simp only [go_sem,simprocAttr,hb]));try simp only [go_sem,simprocAttr,hb])|(intro h))
end Go.Ab
end
section
namespace Go.Ab
open Go.Proofs
attribute [local congr] ACall.congr
set_option maxRecDepth 10000
set_option maxHeartbeats 8000000
def PO (n:Int) (es:List Edge) (ord:List Int) (O:List (List Int)):List (Nat × AObj):= [(10000, .box [eN n, .ref 10001, .ref 10002, .ref 10003]),(10001, .tip 58 2 (es.map rE)),(10002, .tip 3 1 (ord.map rI)),(10003, .own 25 1 (vI O))]
def PR (n:Int) (es:List Edge) (ord:List Int) (O:List (List Int)):List (Nat × AObj):= [(10000, .box [eN n, .ref 10004, .ref 10002, .ref 10003]),(10004, .tip 58 2 (es.map rE)),(10002, .tip 3 1 (ord.map rI)),(10003, .own 25 1 (vI O))]
def OI (x:Int) (items:List It):List Edge:=(loose items).map fun v=>(v,x)
end Go.Ab
end
section
namespace Go.Ab
open Go.Proofs
attribute [local congr] ACall.congr
set_option maxRecDepth 10000
set_option maxHeartbeats 16000000
def pz:Pl:=⟨[], []⟩
def OJ (b:Bool) (g:Gr) (p:Pl):Gr × Pl × Int:=
 if (bN b g p).2.1≠0 then (gz,pz,1) else if 64<(CU g p).n∨128<(CU g p).es.length then (gz,pz,10) else (CU g p,L9 g p,0)
theorem tT {b:Bool} {g:Gr} {p:Pl} (hr:b=true↔(cq g).1=0∧bE g p) (h:(bN b g p).2.1=0):cB g p∧bN b g p=((ec g p g.n.toNat,kT g p),(0,0)):=by
 cases b with
 |false=>simp [bN] at h
 |true=>
  have hR:bN true g p=match iG g p g.n.toNat with
   |some i=>(([], []),(3,(i:Int)))
   |none=>((ec g p g.n.toNat,(fK g p g.n.toNat).row),(0,0)):=rfl
  cases hs:iG g p g.n.toNat with
  |some i=>rw [hR,hs] at h;simp at h
  |none=>
   obtain ⟨h1,h2⟩:=hr.1 rfl
   exact ⟨⟨h1,h2,eR.1 hs⟩,by rw [hR,hs];rfl⟩
end Go.Ab
end
section
namespace Go.Ab
open Go.Proofs
attribute [local congr] ACall.congr
set_option maxRecDepth 10000
set_option maxHeartbeats 16000000
def OK (p:Pl) (x:Gr) (k:Nat):List (List Int):=(List.range k).map fun v=>if 0<(p.outs.getD v []).length then p.outs.getD v [] else bu x (v:Int)
theorem yy {g:Gr} {p:Pl} (hr:cB g p):∀t∈kT g p,t.1<0:=by
 obtain ⟨hc,h,hok⟩:=hr
 have hm:=aF hc
 have hn:=aV hm
 obtain ⟨hi,gu,_⟩:=dH hm h (k:=g.n.toNat) (Nat.le_refl _) hok
 intro t ht
 refine Decidable.byContradiction fun h0=> ?_
 rcases hi.it t ht with ⟨h1,_⟩|⟨h1,h2,_,h4⟩
 ·omega
 ·have M7:=(dJ hm (k:=t.1.toNat) (by omega)).2
  rw [← h4] at M7
  refine hi.head t ht h1 (jz hi.togG ?_ M7)
  rw [gu,List.length_take,b9 h];omega
end Go.Ab
end
section
namespace Go.Ab
open Go.Proofs
attribute [local congr] ACall.congr
set_option maxRecDepth 10000
set_option maxHeartbeats 8000000
def pS (g:Gr) (p:Pl):Bool:=decide (200<g.es.length)||decide (100<p.ord.length)||decide (100<p.outs.length)||p.outs.any fun l=>decide (200<l.length)
theorem zu {g:Gr} {p:Pl} (h:pS g p=false):g.es.length≤200∧p.ord.length≤100∧p.outs.length≤100∧∀l∈p.outs,l.length≤200:=by
 simp only [pS,Bool.or_eq_false_iff,decide_eq_false_iff_not,List.any_eq_false,decide_eq_true_eq] at h
 obtain ⟨⟨⟨h1,h2⟩,h3⟩,h4⟩:=h
 exact ⟨by omega,by omega,by omega,fun l hl=>by have:=h4 l hl;omega⟩
theorem xw {g:Gr} {p:Pl} (h:pS g p=false):pI p:=by
 obtain ⟨_,h1,h2,h3⟩:=zu h
 exact ⟨by omega,by omega,fun l hl=>by have:=h3 l hl;omega⟩
structure zv (p:Pl):Prop where
 ord:p.ord.length≤9223372036854775807
 outs:p.outs.length≤9223372036854775807
 each:∀l∈p.outs,l.length≤9223372036854775807
theorem vm (g:Gr) (p:Pl) (hl:g.es.length≤9223372036854775807) (hp:zv p):Spec Tryz.prog 19 (Args [eG g,ePl p]) [] (eB (pS g p)) []:=by
 have ho:=hp.ord
 have hu:=hp.outs
 (refine Spec.intro (C:=T.cfg [] []) (rs:= [.t 4]) (T.au _ _) Tryz.func19 rfl rfl Tryz.ntmps19 Tryz.results19 (by simp [AObj.isNest]) (by simp [AObj.isNest]) (by kernel_rfl) ?_;intro X hX hP hC aI aJ vals hA;refine ⟨_,by simp,hA, ?_⟩;have af:X.P.follows .mixedOrders=true:=(by rw [hP];exact T.mixed);clear aI aJ)
 generalize hB:pS g p=B
 by_cases h1:200<g.es.length
 ·have ak:decide (200<(g.es.length:Int))=true:=decide_eq_true (by omega)
  have:B=true:=by rw [← hB,pS,decide_eq_true h1];rfl
  subst this
  repeat' (first|fail|((first|((with_reducible (first|apply oA|apply oB));exact rfl;intro K hK)|(refine hK _ ?_;clear hK K)|((with_reducible (first|apply oG|apply oH));iterate 3 exact rfl)|((with_reducible apply oI);(iterate 2 exact rfl);intro K hK)|(with_reducible (first|apply wI|apply wJ|apply wK)));try simp only [go_sem,simprocAttr,ak])|fail|(with_reducible (first|apply oC|apply oJ|exact oK|apply wA|apply wB|apply wC hX hC|apply wD hX hC|apply wE hX hC af|apply wF hX hC af|apply wG|apply wH|apply And.intro))|((with_reducible refine oD ?_ ?_);first|fail|kernel_rfl)|((with_reducible (first|apply oE|apply oF));(iterate 3 exact rfl);all_goals (intro h;first|(exact absurd h (by decide))|((try simp only [go_sem,simprocAttr,ak] at h);(try with_reducible intro K hK);simp only [go_sem,simprocAttr,ak])))|((first|((with_reducible apply wL);exact rfl)|((with_reducible apply wM);exact rfl));all_goals (try ((with_reducible intro h);first|(exact absurd h (by decide))|(try simp only [go_sem,simprocAttr,ak] at h))))|omega|((first|fail);try simp only [go_sem,simprocAttr,ak])|(intro h))
 have ak:decide (200<(g.es.length:Int))=false:=decide_eq_false (by omega)
 by_cases h2:100<p.ord.length
 ·have aq:decide (100<(p.ord.length:Int))=true:=decide_eq_true (by omega)
  have:B=true:=by rw [← hB,pS,decide_eq_true h2];simp
  subst this
  repeat' (first|fail|((first|((with_reducible (first|apply oA|apply oB));exact rfl;intro K hK)|(refine hK _ ?_;clear hK K)|((with_reducible (first|apply oG|apply oH));iterate 3 exact rfl)|((with_reducible apply oI);(iterate 2 exact rfl);intro K hK)|(with_reducible (first|apply wI|apply wJ|apply wK)));try simp only [go_sem,simprocAttr,ak,aq])|fail|(with_reducible (first|apply oC|apply oJ|exact oK|apply wA|apply wB|apply wC hX hC|apply wD hX hC|apply wE hX hC af|apply wF hX hC af|apply wG|apply wH|apply And.intro))|((with_reducible refine oD ?_ ?_);first|fail|kernel_rfl)|((with_reducible (first|apply oE|apply oF));(iterate 3 exact rfl);all_goals (intro h;first|(exact absurd h (by decide))|((try simp only [go_sem,simprocAttr,ak,aq] at h);(try with_reducible intro K hK);simp only [go_sem,simprocAttr,ak,aq])))|((first|((with_reducible apply wL);exact rfl)|((with_reducible apply wM);exact rfl));all_goals (try ((with_reducible intro h);first|(exact absurd h (by decide))|(try simp only [go_sem,simprocAttr,ak,aq] at h))))|omega|((first|fail);try simp only [go_sem,simprocAttr,ak,aq])|(intro h))
 have aq:decide (100<(p.ord.length:Int))=false:=decide_eq_false (by omega)
 by_cases h3:100<p.outs.length
 ·have bt:decide (100<(p.outs.length:Int))=true:=decide_eq_true (by omega)
  have:B=true:=by rw [← hB,pS,decide_eq_true h3];simp
  subst this
  repeat' (first|fail|((first|((with_reducible (first|apply oA|apply oB));exact rfl;intro K hK)|(refine hK _ ?_;clear hK K)|((with_reducible (first|apply oG|apply oH));iterate 3 exact rfl)|((with_reducible apply oI);(iterate 2 exact rfl);intro K hK)|(with_reducible (first|apply wI|apply wJ|apply wK)));try simp only [go_sem,simprocAttr,ak,aq,bt])|fail|(with_reducible (first|apply oC|apply oJ|exact oK|apply wA|apply wB|apply wC hX hC|apply wD hX hC|apply wE hX hC af|apply wF hX hC af|apply wG|apply wH|apply And.intro))|((with_reducible refine oD ?_ ?_);first|fail|kernel_rfl)|((with_reducible (first|apply oE|apply oF));(iterate 3 exact rfl);all_goals (intro h;first|(exact absurd h (by decide))|((try simp only [go_sem,simprocAttr,ak,aq,bt] at h);(try with_reducible intro K hK);simp only [go_sem,simprocAttr,ak,aq,bt])))|((first|((with_reducible apply wL);exact rfl)|((with_reducible apply wM);exact rfl));all_goals (try ((with_reducible intro h);first|(exact absurd h (by decide))|(try simp only [go_sem,simprocAttr,ak,aq,bt] at h))))|omega|((first|fail);try simp only [go_sem,simprocAttr,ak,aq,bt])|(intro h))
 have bt:decide (100<(p.outs.length:Int))=false:=decide_eq_false (by omega)
 have xQ:B=p.outs.any fun l=>decide (200<l.length):=by rw [← hB,pS,decide_eq_false h1,decide_eq_false h2,decide_eq_false h3];simp
 clear hB
 repeat' (first|fail|((first|((with_reducible (first|apply oA|apply oB));exact rfl;intro K hK)|(refine hK _ ?_;clear hK K)|((with_reducible (first|apply oG|apply oH));iterate 3 exact rfl)|((with_reducible apply oI);(iterate 2 exact rfl);intro K hK)|(with_reducible (first|apply wI|apply wJ|apply wK)));try simp only [go_sem,simprocAttr,ak,aq,bt])|fail|(with_reducible (first|apply oC|apply oJ|exact oK|apply wA|apply wB|apply wC hX hC|apply wD hX hC|apply wE hX hC af|apply wF hX hC af|apply wG|apply wH|apply And.intro))|((with_reducible refine oD ?_ ?_);first|fail|kernel_rfl)|((with_reducible (first|apply oE|apply oF));(iterate 3 exact rfl);all_goals (intro h;first|(exact absurd h (by decide))|((try simp only [go_sem,simprocAttr,ak,aq,bt] at h);(try with_reducible intro K hK);simp only [go_sem,simprocAttr,ak,aq,bt])))|((first|((with_reducible apply wL);exact rfl)|((with_reducible apply wM);exact rfl));all_goals (try ((with_reducible intro h);first|(exact absurd h (by decide))|(try simp only [go_sem,simprocAttr,ak,aq,bt] at h))))|omega|((first|fail);try simp only [go_sem,simprocAttr,ak,aq,bt])|(intro h))
 refine an (fun k:Nat=>k≤p.outs.length∧∀j,j<k→(p.outs.getD j []).length≤200) (fun k=>⟨[(24, .d (.sl 1 (vI p.outs))),(25,eN p.outs.length),(26,eN k)], []⟩) (fun k=>p.outs.length - k) 0 (by simp) ?_ ?_
 ·(refine Le.of ?_ ?_<;>simp [go_sem,simprocAttr])
 rintro k ⟨hk,hg⟩
 rcases Nat.lt_or_ge k p.outs.length with cj|Fo
 ·have hb:decide ((k:Int)<(p.outs.length:Int))=true:=decide_eq_true (by omega)
  have hv:=jW cj
  have hm:=bq (d:= []) cj
  have kg:=hp.each _ hm
  by_cases h4:200<(p.outs.getD k []).length
  ·have hb4:decide (200<((p.outs.getD k []).length:Int))=true:=decide_eq_true (by omega)
   have:B=true:=by rw [xQ,List.any_eq_true];exact ⟨_,hm,decide_eq_true h4⟩
   subst this
   repeat' (first|fail|((first|((with_reducible (first|apply oA|apply oB));exact rfl;intro K hK)|(refine hK _ ?_;clear hK K)|((with_reducible (first|apply oG|apply oH));iterate 3 exact rfl)|((with_reducible apply oI);(iterate 2 exact rfl);intro K hK)|(with_reducible (first|apply wI|apply wJ|apply wK)));try simp only [go_sem,simprocAttr,hb,hv,hb4])|fail|(with_reducible (first|apply oC|apply oJ|exact oK|apply wA|apply wB|apply wC hX hC|apply wD hX hC|apply wE hX hC af|apply wF hX hC af|apply wG|apply wH|apply And.intro))|((with_reducible refine oD ?_ ?_);first|fail|kernel_rfl)|((with_reducible (first|apply oE|apply oF));(iterate 3 exact rfl);all_goals (intro h;first|(exact absurd h (by decide))|((try simp only [go_sem,simprocAttr,hb,hv,hb4] at h);(try with_reducible intro K hK);simp only [go_sem,simprocAttr,hb,hv,hb4])))|((first|((with_reducible apply wL);exact rfl)|((with_reducible apply wM);exact rfl));all_goals (try ((with_reducible intro h);first|(exact absurd h (by decide))|(try simp only [go_sem,simprocAttr,hb,hv,hb4] at h))))|omega|((first|fail);try simp only [go_sem,simprocAttr,hb,hv,hb4])|(intro h))
  ·have hb4:decide (200<((p.outs.getD k []).length:Int))=false:=decide_eq_false (by omega)
   repeat' (first|fail|((first|((with_reducible (first|apply oA|apply oB));exact rfl;intro K hK)|(refine hK _ ?_;clear hK K)|((with_reducible (first|apply oG|apply oH));iterate 3 exact rfl)|((with_reducible apply oI);(iterate 2 exact rfl);intro K hK)|(with_reducible (first|apply wI|apply wJ|apply wK)));try simp only [go_sem,simprocAttr,hb,hv,hb4])|fail|(with_reducible (first|apply oC|apply oJ|exact oK|apply wA|apply wB|apply wC hX hC|apply wD hX hC|apply wE hX hC af|apply wF hX hC af|apply wG|apply wH|apply And.intro))|((with_reducible refine oD ?_ ?_);first|fail|kernel_rfl)|((with_reducible (first|apply oE|apply oF));(iterate 3 exact rfl);all_goals (intro h;first|(exact absurd h (by decide))|((try simp only [go_sem,simprocAttr,hb,hv,hb4] at h);(try with_reducible intro K hK);simp only [go_sem,simprocAttr,hb,hv,hb4])))|((first|((with_reducible apply wL);exact rfl)|((with_reducible apply wM);exact rfl));all_goals (try ((with_reducible intro h);first|(exact absurd h (by decide))|(try simp only [go_sem,simprocAttr,hb,hv,hb4] at h))))|omega|((first|fail);try simp only [go_sem,simprocAttr,hb,hv,hb4])|(intro h))
   refine ⟨k+1,⟨by omega,fun j hj=> ?_⟩, ?_,by omega⟩
   ·by_cases e:j=k
    ·subst e;omega
    ·exact hg j (by omega)
   ·(refine Le.of ?_ ?_<;>simp [go_sem,simprocAttr,hb,hv,hb4])
 ·have hb:decide ((k:Int)<(p.outs.length:Int))=false:=decide_eq_false (by omega)
  have:B=false:=by
   rw [xQ,List.any_eq_false]
   intro l hl
   obtain ⟨j,hj,rfl⟩:=List.mem_iff_getElem.1 hl
   have:=hg j (by omega)
   rw [List.getD_eq_getElem?_getD,List.getElem?_eq_getElem hj,Option.getD_some] at this
   simp;omega
  subst this
  repeat' (first|fail|((first|((with_reducible (first|apply oA|apply oB));exact rfl;intro K hK)|(refine hK _ ?_;clear hK K)|((with_reducible (first|apply oG|apply oH));iterate 3 exact rfl)|((with_reducible apply oI);(iterate 2 exact rfl);intro K hK)|(with_reducible (first|apply wI|apply wJ|apply wK)));try simp only [go_sem,simprocAttr,hb])|fail|(with_reducible (first|apply oC|apply oJ|exact oK|apply wA|apply wB|apply wC hX hC|apply wD hX hC|apply wE hX hC af|apply wF hX hC af|apply wG|apply wH|apply And.intro))|((with_reducible refine oD ?_ ?_);first|fail|kernel_rfl)|((with_reducible (first|apply oE|apply oF));(iterate 3 exact rfl);all_goals (intro h;first|(exact absurd h (by decide))|((try simp only [go_sem,simprocAttr,hb] at h);(try with_reducible intro K hK);simp only [go_sem,simprocAttr,hb])))|((first|((with_reducible apply wL);exact rfl)|((with_reducible apply wM);exact rfl));all_goals (try ((with_reducible intro h);first|(exact absurd h (by decide))|(try simp only [go_sem,simprocAttr,hb] at h))))|omega|((first|fail);try simp only [go_sem,simprocAttr,hb])|(intro h))
def kq (g:Gr):Bool:=decide ((cq g).1=0)&&decide ((bI (·.1) g).length=1)
theorem sx (g:Gr) (hl:g.es.length≤1000):Spec Tryz.prog 51 (Args [eG g]) [] (eB (kq g)) []:=by
 by_cases hc:(cq g).1=0
 ·have hm:=aF hc
  have ak:decide ((cq g).1=0)=true:=decide_eq_true hc
  have hI:kq g=decide (((bI (·.1) g).length:Int)=1):=by
   unfold kq;rw [ak,Bool.true_and,decide_eq_decide];omega
  rw [hI]
  generalize iO:bI (·.1) g=bl
  have hS:=rN g hm
  rw [iO] at hS
  (refine Spec.intro (C:=T.cfg [] []) (rs:= [.t 2]) (T.au _ _) Tryz.func51 rfl rfl Tryz.ntmps51 Tryz.results51 (by simp [AObj.isNest]) (by simp [AObj.isNest]) (by kernel_rfl) ?_;intro X hX hP hC aI aJ vals hA;refine ⟨_,by simp,hA, ?_⟩;have af:X.P.follows .mixedOrders=true:=(by rw [hP];exact T.mixed);clear aI aJ)
  repeat' (first|fail|((first|((with_reducible (first|apply oA|apply oB));exact rfl;intro K hK)|(refine hK _ ?_;clear hK K)|((with_reducible (first|apply oG|apply oH));iterate 3 exact rfl)|((with_reducible apply oI);(iterate 2 exact rfl);intro K hK)|(with_reducible (first|apply wI|apply wJ|apply wK)));try simp only [go_sem,simprocAttr,ak])|fail|(with_reducible (first|apply oC|apply oJ|exact oK|apply wA|apply wB|apply wC hX hC|apply wD hX hC|apply wE hX hC af|apply wF hX hC af|apply wG|apply wH|apply And.intro))|((with_reducible refine oD ?_ ?_);first|fail|kernel_rfl)|((with_reducible (first|apply oE|apply oF));(iterate 3 exact rfl);all_goals (intro h;first|(exact absurd h (by decide))|((try simp only [go_sem,simprocAttr,ak] at h);(try with_reducible intro K hK);simp only [go_sem,simprocAttr,ak])))|((first|((with_reducible apply wL);exact rfl)|((with_reducible apply wM);exact rfl));all_goals (try ((with_reducible intro h);first|(exact absurd h (by decide))|(try simp only [go_sem,simprocAttr,ak] at h))))|omega|((first|first|refine aa hX hC hP (jQ g hl) rfl rfl rfl (by simp only [go_sem,simprocAttr,ak]) rfl ?_|refine aa hX hC hP (fZ g hm) rfl rfl rfl (by simp only [go_sem,simprocAttr,ak]) rfl ?_|refine aa hX hC hP (hS) rfl rfl rfl (by simp only [go_sem,simprocAttr,ak]) rfl ?_);try simp only [go_sem,simprocAttr,ak])|(intro h))
 ·have ak:decide ((cq g).1=0)=false:=decide_eq_false hc
  have hI:kq g=false:=by unfold kq;rw [ak];rfl
  rw [hI]
  (refine Spec.intro (C:=T.cfg [] []) (rs:= [.t 2]) (T.au _ _) Tryz.func51 rfl rfl Tryz.ntmps51 Tryz.results51 (by simp [AObj.isNest]) (by simp [AObj.isNest]) (by kernel_rfl) ?_;intro X hX hP hC aI aJ vals hA;refine ⟨_,by simp,hA, ?_⟩;have af:X.P.follows .mixedOrders=true:=(by rw [hP];exact T.mixed);clear aI aJ)
  repeat' (first|fail|((first|((with_reducible (first|apply oA|apply oB));exact rfl;intro K hK)|(refine hK _ ?_;clear hK K)|((with_reducible (first|apply oG|apply oH));iterate 3 exact rfl)|((with_reducible apply oI);(iterate 2 exact rfl);intro K hK)|(with_reducible (first|apply wI|apply wJ|apply wK)));try simp only [go_sem,simprocAttr,ak])|fail|(with_reducible (first|apply oC|apply oJ|exact oK|apply wA|apply wB|apply wC hX hC|apply wD hX hC|apply wE hX hC af|apply wF hX hC af|apply wG|apply wH|apply And.intro))|((with_reducible refine oD ?_ ?_);first|fail|kernel_rfl)|((with_reducible (first|apply oE|apply oF));(iterate 3 exact rfl);all_goals (intro h;first|(exact absurd h (by decide))|((try simp only [go_sem,simprocAttr,ak] at h);(try with_reducible intro K hK);simp only [go_sem,simprocAttr,ak])))|((first|((with_reducible apply wL);exact rfl)|((with_reducible apply wM);exact rfl));all_goals (try ((with_reducible intro h);first|(exact absurd h (by decide))|(try simp only [go_sem,simprocAttr,ak] at h))))|omega|((first|first|refine aa hX hC hP (jQ g hl) rfl rfl rfl (by simp only [go_sem,simprocAttr,ak]) rfl ?_);try simp only [go_sem,simprocAttr,ak])|(intro h))
theorem yz (g:Gr) (hl:g.es.length≤1000):Spec Tryz.prog 50 (Args [eG g]) [] (eB (kq g)) []:=by
 by_cases hc:(cq g).1=0
 ·have hm:=aF hc
  have hn:=aV hm
  have ak:decide ((cq g).1=0)=true:=decide_eq_true hc
  have hI:kq g=decide (((bI (·.1) g).length:Int)=1):=by
   unfold kq;rw [ak,Bool.true_and,decide_eq_decide];omega
  rw [hI]
  have hS:=cw g false hl (by omega)
  rw [show jR (!false)=(·.1) from rfl] at hS
  generalize bI (·.1) g=bl at hS
  (refine Spec.intro (C:=T.cfg [] []) (rs:= [.t 2]) (T.au _ _) Tryz.func50 rfl rfl Tryz.ntmps50 Tryz.results50 (by simp [AObj.isNest]) (by simp [AObj.isNest]) (by kernel_rfl) ?_;intro X hX hP hC aI aJ vals hA;refine ⟨_,by simp,hA, ?_⟩;have af:X.P.follows .mixedOrders=true:=(by rw [hP];exact T.mixed);clear aI aJ)
  repeat' (first|fail|((first|((with_reducible (first|apply oA|apply oB));exact rfl;intro K hK)|(refine hK _ ?_;clear hK K)|((with_reducible (first|apply oG|apply oH));iterate 3 exact rfl)|((with_reducible apply oI);(iterate 2 exact rfl);intro K hK)|(with_reducible (first|apply wI|apply wJ|apply wK)));try simp only [go_sem,simprocAttr,ak])|fail|(with_reducible (first|apply oC|apply oJ|exact oK|apply wA|apply wB|apply wC hX hC|apply wD hX hC|apply wE hX hC af|apply wF hX hC af|apply wG|apply wH|apply And.intro))|((with_reducible refine oD ?_ ?_);first|fail|kernel_rfl)|((with_reducible (first|apply oE|apply oF));(iterate 3 exact rfl);all_goals (intro h;first|(exact absurd h (by decide))|((try simp only [go_sem,simprocAttr,ak] at h);(try with_reducible intro K hK);simp only [go_sem,simprocAttr,ak])))|((first|((with_reducible apply wL);exact rfl)|((with_reducible apply wM);exact rfl));all_goals (try ((with_reducible intro h);first|(exact absurd h (by decide))|(try simp only [go_sem,simprocAttr,ak] at h))))|omega|((first|first|refine aa hX hC hP (aR g (by omega)) rfl rfl rfl (by simp only [go_sem,simprocAttr,ak]) rfl ?_|refine aa hX hC hP (hS) rfl rfl rfl (by simp only [go_sem,simprocAttr,ak]) rfl ?_);try simp only [go_sem,simprocAttr,ak])|(intro h))
 ·have ak:decide ((cq g).1=0)=false:=decide_eq_false hc
  have hI:kq g=false:=by unfold kq;rw [ak];rfl
  rw [hI]
  (refine Spec.intro (C:=T.cfg [] []) (rs:= [.t 2]) (T.au _ _) Tryz.func50 rfl rfl Tryz.ntmps50 Tryz.results50 (by simp [AObj.isNest]) (by simp [AObj.isNest]) (by kernel_rfl) ?_;intro X hX hP hC aI aJ vals hA;refine ⟨_,by simp,hA, ?_⟩;have af:X.P.follows .mixedOrders=true:=(by rw [hP];exact T.mixed);clear aI aJ)
  repeat' (first|fail|((first|((with_reducible (first|apply oA|apply oB));exact rfl;intro K hK)|(refine hK _ ?_;clear hK K)|((with_reducible (first|apply oG|apply oH));iterate 3 exact rfl)|((with_reducible apply oI);(iterate 2 exact rfl);intro K hK)|(with_reducible (first|apply wI|apply wJ|apply wK)));try simp only [go_sem,simprocAttr,ak])|fail|(with_reducible (first|apply oC|apply oJ|exact oK|apply wA|apply wB|apply wC hX hC|apply wD hX hC|apply wE hX hC af|apply wF hX hC af|apply wG|apply wH|apply And.intro))|((with_reducible refine oD ?_ ?_);first|fail|kernel_rfl)|((with_reducible (first|apply oE|apply oF));(iterate 3 exact rfl);all_goals (intro h;first|(exact absurd h (by decide))|((try simp only [go_sem,simprocAttr,ak] at h);(try with_reducible intro K hK);simp only [go_sem,simprocAttr,ak])))|((first|((with_reducible apply wL);exact rfl)|((with_reducible apply wM);exact rfl));all_goals (try ((with_reducible intro h);first|(exact absurd h (by decide))|(try simp only [go_sem,simprocAttr,ak] at h))))|omega|((first|first|refine aa hX hC hP (aR g (by omega)) rfl rfl rfl (by simp only [go_sem,simprocAttr,ak]) rfl ?_);try simp only [go_sem,simprocAttr,ak])|(intro h))
end Go.Ab
end
section
namespace Go.Ab
open Go.Proofs
attribute [local congr] ACall.congr
set_option maxRecDepth 10000
set_option maxHeartbeats 8000000
def PT:Gr:=⟨3, [(0,1),(0,2)]⟩
def PU:Pl:=⟨[0,1,2], [[0,1], [], []]⟩
def PV:Gr:=⟨4, [(0,1),(0,2),(1,3),(2,3)]⟩
def PW:Pl:=⟨[0,1,2,3], [[0,1], [2], [3], []]⟩
end Go.Ab
end
section
namespace Go.Ab
open Go.Proofs
attribute [local congr] ACall.congr
set_option maxRecDepth 10000
def PX (l:List Int) (k:Nat):Bool:=(List.range k).all fun i=>decide (l.getD i 0=(i:Int))
def Ey (g:Gr) (names order:List Int) (k:Nat):List Edge:=(List.range k).map fun i=>(names.getD (g.es.getD (order.getD i 0).toNat (0,0)).1.toNat 0,names.getD (g.es.getD (order.getD i 0).toNat (0,0)).2.toNat 0)
def gw (g:Gr) (names order:List Int):Gr:=⟨g.n,Ey g names order order.length⟩
theorem xx {g:Gr} {names order:List Int} {k:Nat} :(Ey g names order k).length=k:=by simp [Ey]
def Js (g:Gr) (names order:List Int):Bool:=aM g&&fJ names g.n&&fJ order g.es.length
def OL (g:Gr) (names order:List Int):Gr:=if Js g names order then gw g names order else ⟨0, []⟩
end Go.Ab
end
section
namespace Go.Ab
def Ed (g:Gr) (a b:Int):Prop:=∃i,i<g.es.length∧tl g i=a∧hd g i=b
def JZ (g:Gr) (l:List Int):Prop:=∀i,i<l.length→Ed g (l.getD i 0) (l.getD ((i+1) % l.length) 0)
def C4 (g:Gr) (way:List Int) (at_:Int):Prop:=∀p,p<way.length→Ed g ((way++ [at_]).getD (p+1) 0) (way.getD p 0)
theorem oQ {l:List Int} {a:Int} :(l++ [a]).getD l.length 0=a:=by
 rw [List.getD_eq_getElem?_getD,List.getElem?_append_right (Nat.le_refl _)];simp
theorem sy {g:Gr} (hm:aM g=true):∀(f:Nat) (way:List Int) (a:Nat),a<g.n.toNat→(a:Int)∉aK g→C4 g way a→left g way≤f→
 C4 g (jP g (cz g (aK g)) f way a).1 (jP g (cz g (aK g)) f way a).2∧0≤(jP g (cz g (aK g)) f way a).2∧(jP g (cz g (aK g)) f way a).2∈(jP g (cz g (aK g)) f way a).1
 |f,way,a,ha,hn,hc,hl=>by
  by_cases hmem:(a:Int)∈way
  ·rw [jo (.inr hmem)]
   exact ⟨hc,by simp only;omega,hmem⟩
  ·have hla:=gZ ha hmem
   cases f with
   |zero=>omega
   |succ f=>
    obtain ⟨⟨i,hi,Ma,Bi,Ji⟩,_⟩:=rV hm (FR hm ha hn)
    have htr:=bJ hm hi
    rw [Bi] at htr
    obtain ⟨b,yl⟩:∃b:Nat,iF g (cz g (aK g)) a=b:=⟨(iF g (cz g (aK g)) a).toNat,by omega⟩
    rw [yl] at Ji htr Bi
    have e1:jP g (cz g (aK g)) (f+1) way a=jP g (cz g (aK g)) f (way++ [(a:Int)]) b:=by
     simp only [jP];rw [if_neg (by intro h;rcases h with h|h;omega;exact hmem h),yl]
    rw [e1]
    refine sy hm f (way++ [(a:Int)]) b (by omega) Ji ?_ (by omega)
    intro p hp
    rw [List.length_append,List.length_singleton] at hp
    by_cases gu:p<way.length
    ·have:=hc p gu
     rw [kR (by simp;omega),kR gu]
     exact this
    ·have:p=way.length:=by omega
     subst this
     have e2:=oQ (l:=way++ [(a:Int)]) (a:=(b:Int))
     rw [List.length_append,List.length_singleton] at e2
     rw [e2,oQ]
     exact ⟨i,hi,Bi,Ma⟩
theorem oR {l:List Int} {k p:Nat} :(l.drop k).getD p 0=l.getD (k+p) 0:=by
 rw [List.getD_eq_getElem?_getD,List.getElem?_drop, ← List.getD_eq_getElem?_getD]
theorem JZ.Mb {g:Gr} {l:List Int} (h:∀p,p<l.length→Ed g (l.getD ((p+1) % l.length) 0) (l.getD p 0)) (h0:0<l.length):JZ g (j7 l.reverse):=by
 have JY:0<l.reverse.length:=by simpa using h0
 obtain ⟨k,xI,hk2,_⟩:=dr (hU JY)
 rw [List.length_reverse] at hk2
 have e1:j7 l.reverse=l.reverse.drop k++l.reverse.take k:=by simp only [j7,xI,Int.toNat_natCast]
 have hlen:(j7 l.reverse).length=l.length:=by rw [e1];simp;omega
 have hg:∀i,i<l.length→(j7 l.reverse).getD i 0=l.getD (l.length - 1 - (i+k) % l.length) 0:=by
  intro i hi
  rw [e1,List.getD_eq_getElem?_getD]
  by_cases hik:i<l.length - k
  ·rw [List.getElem?_append_left (by simp;omega),List.getElem?_drop,List.getElem?_reverse (by omega),Nat.mod_eq_of_lt (by omega), ← List.getD_eq_getElem?_getD]
   congr 1;omega
  ·rw [List.getElem?_append_right (by simp;omega),List.length_drop,List.length_reverse,List.getElem?_take,if_pos (by omega),List.getElem?_reverse (by omega), ← List.getD_eq_getElem?_getD]
   have:(i+k) % l.length=i+k - l.length:=by rw [Nat.mod_eq_sub_mod (by omega),Nat.mod_eq_of_lt (by omega)]
   rw [this];congr 1;omega
 intro i hi
 rw [hlen] at hi ⊢
 rw [hg i hi,hg _ (Nat.mod_lt _ h0)]
 have hmm:((i+1) % l.length+k) % l.length=((i+k) % l.length+1) % l.length:=by
  rw [Nat.mod_add_mod,Nat.mod_add_mod];congr 1;omega
 rw [hmm]
 have hj:=Nat.mod_lt (i+k) h0
 generalize (i+k) % l.length=j at hj ⊢
 by_cases tU:j+1<l.length
 ·rw [Nat.mod_eq_of_lt tU]
  have:=h (l.length - 1 - (j+1)) (by omega)
  rw [Nat.mod_eq_of_lt (by omega),show l.length - 1 - (j+1)+1=l.length - 1 - j from by omega] at this
  exact this
 ·have:j+1=l.length:=by omega
  rw [this,Nat.mod_self]
  have:=h (l.length - 1) (by omega)
  rw [show l.length - 1+1=l.length from by omega,Nat.mod_self] at this
  rw [show l.length - 1 - j=0 from by omega]
  exact this
def Mc (g:Gr):Prop:=∃r:Int→Nat,∀i,i<g.es.length→r (tl g i)<r (hd g i)
theorem zw {g:Gr} (hm:aM g=true):Bn g=true↔Mc g:=by
 constructor
 ·intro h
  refine ⟨fun v=>((w8 g.n.toNat (aK g) (aK g).length).getD v.toNat 0).toNat,fun i hi=> ?_⟩
  have h1:=CM (AB hm h) hi
  have h2:=rZ (n:=g.n.toNat) (l:=aK g) (k:=(aK g).length) (y:=(tl g i).toNat)
  simp only;omega
 ·rintro ⟨r,hr⟩
  cases h:Bn g with
  |true=>rfl
  |false=>
   exfalso
   obtain ⟨y,hy,hn⟩:=y8 hm h
   have key:∀(p:Nat) (y:Nat),y<g.n.toNat→(y:Int)∉aK g→r y=p→False:=by
    intro p
    induction p using Nat.strongRecOn with
    |_ p ih=>
     intro y hy hn hp
     obtain ⟨t,i,hi,h1,rfl,h2⟩:=FR hm hy hn
     have htr:=bJ hm hi
     have hlt:=hr i hi
     rw [h1,hp] at hlt
     have e:((tl g i).toNat:Int)=tl g i:=by omega
     exact ih (r (tl g i)) hlt (tl g i).toNat (by omega) (by rw [e];exact h2) (by rw [e])
   exact key _ y hy hn rfl
theorem Ez {g:Gr} (hm:aM g=true) (h:Bn g=true):jm g= []:=by
 have hall:=(bY.1 (y7 hm h)).2
 have hn:=aV hm
 rcases start_eq hm with ⟨h1,h2⟩|⟨a,ha,h1,h2,h3⟩
 ·have:jl g=([], -1):=by
   unfold jl;rw [h1];exact jo (.inl (by omega)) _
  simp only [jm,this]
  rw [if_pos (by omega)]
 ·exact absurd (hall a (dS.2 (by omega))) h3
theorem C5 {g:Gr} (hm:aM g=true) (h:Bn g=false):0<(jm g).length∧JZ g (jm g):=by
 obtain ⟨y,hy,OM⟩:=y8 hm h
 have hn:=aV hm
 rcases start_eq hm with ⟨h1,h2⟩|⟨a,ha,h1,h2,h3⟩
 ·exfalso
  rcases eM (f:=fun n:Int=>decide (0<n)) (l:=cz g (aK g)) 0 with ⟨_,h4⟩|⟨k,h4,_⟩
  ·have h5:=(oL hm hy).2 OM
   have h6:=h4 ((cz g (aK g)).getD y 0) (by rw [List.getD_eq_getElem?_getD,jN hy];exact List.mem_of_getElem? (jN hy))
   rw [kL hy] at h6
   exact absurd h5 (of_decide_eq_false h6)
  ·omega
 ·obtain ⟨h4,h5,h6⟩:=sy hm g.n.toNat [] a ha h3 (fun p hp=>by simp at hp) u9
  have hw:jl g=jP g (cz g (aK g)) g.n.toNat [] a:=by unfold jl;rw [h1]
  rw [← hw] at h4 h5 h6
  obtain ⟨k,xI,hk2,Jg⟩:=dr h6
  have hc:jm g=j7 ((jl g).1.drop k).reverse:=by
   simp only [jm]
   rw [if_neg (by omega),xI,Int.toNat_natCast]
  have hlen:((jl g).1.drop k).length=(jl g).1.length - k:=by simp
  have h0:0<((jl g).1.drop k).length:=by omega
  refine ⟨?_, ?_⟩
  ·rw [hc]
   simp only [j7,List.length_append,List.length_drop,List.length_take,List.length_reverse]
   omega
  ·rw [hc]
   refine JZ.Mb (fun p hp=> ?_) h0
   rw [hlen] at hp ⊢
   have h7:=h4 (k+p) (by omega)
   rw [oR (p:=p)]
   by_cases tU:p+1<(jl g).1.length - k
   ·rw [Nat.mod_eq_of_lt tU,oR]
    rw [kR (by omega)] at h7
    exact h7
   ·have:p+1=(jl g).1.length - k:=by omega
    rw [this,Nat.mod_self,oR,Nat.add_zero,Jg]
    rw [show k+p+1=(jl g).1.length from by omega,oQ] at h7
    exact h7
end Go.Ab
end
section
namespace Go.Ab
def nm (names:List Int) (v:Int):Int:=names.getD v.toNat 0
structure iH (g:Gr) (names order:List Int):Prop where
 may:aM g=true
 F2:fJ names g.n=true
 ord:fJ order (g.es.length:Int)=true
section
variable {g:Gr} {names order:List Int} (h:iH g names order)
include h
theorem iH.len:(gw g names order).es.length=g.es.length:=by
 have:=(bY.1 h.ord).1
 simp only [gw,xx];omega
theorem iH.iQ {i:Nat} (hi:i<g.es.length):∃j,j<g.es.length∧order.getD i 0=(j:Int)∧(gw g names order).es.getD i (0,0)=(nm names (tl g j),nm names (hd g j)):=by
 have qI:=(bY.1 h.ord).1
 have:=rY h.ord _ (gq (l:=order) (m:=i) (by omega))
 refine ⟨(order.getD i 0).toNat,by omega,by omega, ?_⟩
 simp only [gw,Ey,nm,tl,hd]
 rw [List.getD_eq_getElem?_getD,List.getElem?_map,List.getElem?_range (by omega)]
 rfl
theorem iH.back {j:Nat} (hj:j<g.es.length):∃i,i<g.es.length∧order.getD i 0=(j:Int)∧(gw g names order).es.getD i (0,0)=(nm names (tl g j),nm names (hd g j)):=by
 obtain ⟨qI,hall⟩:=bY.1 h.ord
 obtain ⟨i,hi,hil,he⟩:=dr (hall (j:Int) (dS.2 (by omega)))
 obtain ⟨j',_,h2,h3⟩:=h.iQ (i:=i) (by omega)
 have:j'=j:=by omega
 subst this
 exact ⟨i,by omega,he,h3⟩
theorem iH.inj {a b:Int} (ha:0≤a∧a<g.n) (hb:0≤b∧b<g.n) (e:nm names a=nm names b):a=b:=by
 have hnl:=(bY.1 h.F2).1
 have:=jT h.F2 (i:=a.toNat) (j:=b.toNat) (by omega) (by omega) e
 omega
theorem iH.range {a:Int} (ha:0≤a∧a<g.n):0≤nm names a∧nm names a<g.n:=by
 have hnl:=(bY.1 h.F2).1
 exact rY h.F2 _ (gq (by omega))
theorem iH.inv {a:Int} (ha:0≤a∧a<g.n):dw names (nm names a)=a:=by
 have hnl:=(bY.1 h.F2).1
 obtain ⟨k,hk,cj,he⟩:=dr (gq (l:=names) (m:=a.toNat) (by omega))
 have h2:=jT h.F2 cj (j:=a.toNat) (by omega) he
 have h3:dw names (nm names a)=k:=hk
 omega
theorem iH.of {v:Int} (hv:0≤v∧v<g.n):∃a,(0≤a∧a<g.n)∧nm names a=v:=by
 obtain ⟨hnl,hall⟩:=bY.1 h.F2
 obtain ⟨k,hk,cj,he⟩:=dr (hall v (dS.2 (by omega)))
 exact ⟨k,by omega,he⟩
theorem iH.may':aM (gw g names order)=true:=by
 have hn:=aV h.may
 have hlen:=h.len
 have hall:(gw g names order).es.any (nu (gw g names order))=false:=by
  rw [List.any_eq_false]
  intro e he
  obtain ⟨i,hi,rfl⟩:=List.getElem_of_mem he
  obtain ⟨j,hj,_,h3⟩:=h.iQ (i:=i) (by omega)
  rw [List.getD_eq_getElem?_getD,List.getElem?_eq_getElem hi,Option.getD_some] at h3
  rw [h3]
  have h4:=h.range (bJ h.may hj)
  have h5:=h.range (bW h.may hj)
  have e1:(gw g names order).n=g.n:=rfl
  simp only [nu,s4,e1,Bool.or_eq_true,decide_eq_true_eq]
  omega
 have e1:(gw g names order).n=g.n:=rfl
 simp only [aM,hall,e1,Bool.not_false,Bool.and_true,Bool.and_eq_true,decide_eq_true_eq]
 omega
omit h in
theorem oS {i j:Nat} (e:(gw g names order).es.getD i (0,0)=(nm names (tl g j),nm names (hd g j))):tl (gw g names order) i=nm names (tl g j)∧hd (gw g names order) i=nm names (hd g j):=⟨congrArg Prod.fst e,congrArg Prod.snd e⟩
theorem iH.loop:(0≤jq (gw g names order))↔0≤jq g:=by
 have key:∀g:Gr,(0≤jq g)↔∃i,i<g.es.length∧tl g i=hd g i:=by
  intro g
  have:=gQ (fun e:Edge=>decide (e.1=e.2)) g.es
  rw [show (0≤jq g)↔g.es.any (fun e:Edge=>decide (e.1=e.2))=true from by rw [← this];simp [jq],List.any_eq_true]
  constructor
  ·rintro ⟨e,he,h2⟩
   obtain ⟨i,hi,rfl⟩:=List.getElem_of_mem he
   refine ⟨i,hi, ?_⟩
   simpa [tl,hd,List.getD_eq_getElem?_getD,List.getElem?_eq_getElem hi] using h2
  ·rintro ⟨i,hi,h2⟩
   refine ⟨_,List.getElem_mem hi, ?_⟩
   simpa [tl,hd,List.getD_eq_getElem?_getD,List.getElem?_eq_getElem hi] using h2
 rw [key,key,h.len]
 constructor
 ·rintro ⟨i,hi,e⟩
  obtain ⟨j,hj,_,h3⟩:=h.iQ hi
  obtain ⟨e1,e2⟩:=oS h3
  exact ⟨j,hj,h.inj (bJ h.may hj) (bW h.may hj) (by rw [← e1, ← e2,e])⟩
 ·rintro ⟨j,hj,e⟩
  obtain ⟨i,hi,_,h3⟩:=h.back hj
  obtain ⟨e1,e2⟩:=oS h3
  exact ⟨i,hi,by rw [e1,e2,e]⟩
omit h in
theorem tV (g:Gr):(0≤eO g)↔∃i k,i<g.es.length∧k<g.es.length∧i≠k∧g.es.getD i (0,0)=g.es.getD k (0,0):=by
 have:=gQ (mC g) (List.range g.es.length)
 rw [show (0≤eO g)↔(List.range g.es.length).any (mC g)=true from by rw [← this];simp [eO],List.any_eq_true]
 constructor
 ·rintro ⟨i,hi,h2⟩
  have hil:=List.mem_range.1 hi
  have h3:=of_decide_eq_true h2
  rw [List.mem_iff_getElem?] at h3
  obtain ⟨k,hk⟩:=h3
  rw [List.getElem?_take] at hk
  split at hk
  ·rename_i hki
   exact ⟨i,k,hil,by omega,by omega,by rw [List.getD_eq_getElem?_getD (i:=k),hk];rfl⟩
  ·cases hk
 ·rintro ⟨i,k,hi,hk,hne,e⟩
  have main:∀i k,k<i→i<g.es.length→g.es.getD i (0,0)=g.es.getD k (0,0)→mC g i=true:=by
   intro i k hki hi e
   refine decide_eq_true ?_
   rw [e,List.mem_iff_getElem?]
   refine ⟨k, ?_⟩
   rw [List.getElem?_take,if_pos hki,List.getD_eq_getElem?_getD,List.getElem?_eq_getElem (by omega)];rfl
  rcases Nat.lt_or_gt_of_ne hne with hlt|hgt
  ·exact ⟨k,List.mem_range.2 hk,main k i hlt hk e.symm⟩
  ·exact ⟨i,List.mem_range.2 hi,main i k hgt hi e⟩
theorem iH.Jt:(0≤eO (gw g names order))↔0≤eO g:=by
 have qI:=(bY.1 h.ord).1
 rw [tV,tV,h.len]
 constructor
 ·rintro ⟨i,k,hi,hk,hne,e⟩
  obtain ⟨j,hj,ho,h3⟩:=h.iQ hi
  obtain ⟨j',hj',ho',D3⟩:=h.iQ hk
  refine ⟨j,j',hj,hj',fun e'=> ?_, ?_⟩
  ·subst e'
   exact hne (jT h.ord (by omega) (by omega) (by rw [ho,ho']))
  ·rw [h3,D3,Prod.mk.injEq] at e
   have e1:=h.inj (bJ h.may hj) (bJ h.may hj') e.1
   have e2:=h.inj (bW h.may hj) (bW h.may hj') e.2
   exact Prod.ext e1 e2
 ·rintro ⟨j,j',hj,hj',hne,e⟩
  obtain ⟨i,hi,ho,h3⟩:=h.back hj
  obtain ⟨k,hk,ho',D3⟩:=h.back hj'
  refine ⟨i,k,hi,hk,fun e'=> ?_, ?_⟩
  ·subst e';omega
  ·have e1:tl g j=tl g j':=congrArg Prod.fst e
   have e2:hd g j=hd g j':=congrArg Prod.snd e
   rw [h3,D3,e1,e2]
theorem iH.Md:Bn (gw g names order)=Bn g:=by
 rw [Bool.eq_iff_iff,zw h.may',zw h.may]
 constructor
 ·rintro ⟨r,hr⟩
  refine ⟨fun v=>r (nm names v),fun j hj=> ?_⟩
  obtain ⟨i,hi,_,h3⟩:=h.back hj
  obtain ⟨e1,e2⟩:=oS h3
  have:=hr i (by rw [h.len];exact hi)
  rwa [e1,e2] at this
 ·rintro ⟨r,hr⟩
  refine ⟨fun v=>r (dw names v),fun i hi=> ?_⟩
  rw [h.len] at hi
  obtain ⟨j,hj,_,h3⟩:=h.iQ hi
  obtain ⟨e1,e2⟩:=oS h3
  have:=hr j hj
  rw [e1,e2];simp only;rw [h.inv (bJ h.may hj),h.inv (bW h.may hj)]
  exact this
omit h in
theorem ir {g:Gr} {y:Int} :y∈bI (·.2) g↔(0≤y∧y<g.n)∧∀i,i<g.es.length→hd g i≠y:=by
 simp only [bI,gY,List.mem_map,List.mem_filter,List.mem_range,decide_eq_true_eq]
 have he:∀x:Nat,x<g.n.toNat→(((cZ (·.2) g).getD x []).length=0↔∀i,i<g.es.length→hd g i≠(x:Int)):=by
  intro x hx
  have e:(cZ (·.2) g).getD x []=aZ (·.2) g.es g.es.length (x:Int):=by
   simp [cZ,List.getD_eq_getElem?_getD,List.getElem?_range hx,kN]
  rw [e,List.length_eq_zero_iff]
  simp only [aZ,List.map_eq_nil_iff,List.filter_eq_nil_iff,List.mem_range,decide_eq_true_eq]
  rfl
 constructor
 ·rintro ⟨x,⟨hx,h0⟩,rfl⟩
  refine ⟨by simp;omega,(he x hx).1 h0⟩
 ·rintro ⟨⟨h1,h2⟩,h3⟩
  have e:((y.toNat:Nat):Int)=y:=by omega
  exact ⟨y.toNat,⟨by omega,(he _ (by omega)).2 (by rw [e];exact h3)⟩,e⟩
omit h in
theorem sC {f:Edge→Int} {g:Gr} :(bI f g).Nodup:=by
 unfold bI gY
 refine List.Pairwise.map _ (fun a b h e=>h (Int.ofNat.inj e)) (List.Pairwise.filter _ List.nodup_range)
theorem iH.bare:(bI (·.2) (gw g names order)).length=(bI (·.2) g).length:=by
 have e1:(gw g names order).n=g.n:=rfl
 have h1:((bI (·.2) g).map (nm names)).length≤(bI (·.2) (gw g names order)).length:=by
  refine Nat.le_trans (count_le _ (bI (·.2) (gw g names order)) ?_ ?_) List.countP_le_length
  ·rw [List.nodup_iff_pairwise_ne]
   refine List.Pairwise.map _ (fun a b h=>h) ?_
   refine List.Pairwise.imp_of_mem ?_ sC
   intro a b ha hb hab e
   exact hab (h.inj (ir.1 ha).1 (ir.1 hb).1 e)
  ·intro v hv
   obtain ⟨y,hy,rfl⟩:=List.mem_map.1 hv
   obtain ⟨hy1,hy2⟩:=ir.1 hy
   refine ir.2 ⟨h.range hy1,fun i hi e=> ?_⟩
   rw [h.len] at hi
   obtain ⟨j,hj,_,h3⟩:=h.iQ hi
   rw [(oS h3).2] at e
   exact hy2 j hj (h.inj (bW h.may hj) hy1 e)
 have h2:((bI (·.2) (gw g names order)).map (dw names)).length≤(bI (·.2) g).length:=by
  have hsplit:∀v∈bI (·.2) (gw g names order),∃a,(0≤a∧a<g.n)∧nm names a=v:=fun v hv=>h.of (ir.1 hv).1
  refine Nat.le_trans (count_le _ (bI (·.2) g) ?_ ?_) List.countP_le_length
  ·rw [List.nodup_iff_pairwise_ne]
   refine List.Pairwise.map _ (fun a b h=>h) ?_
   refine List.Pairwise.imp_of_mem ?_ sC
   intro a b ha hb hab e
   obtain ⟨a',J6,rfl⟩:=hsplit a ha
   obtain ⟨b',hb',rfl⟩:=hsplit b hb
   rw [h.inv J6,h.inv hb'] at e
   exact hab (by rw [e])
  ·intro v hv
   obtain ⟨y,hy,rfl⟩:=List.mem_map.1 hv
   obtain ⟨a,ha,rfl⟩:=hsplit y hy
   rw [h.inv ha]
   refine ir.2 ⟨ha,fun j hj e=> ?_⟩
   obtain ⟨i,hi,_,h3⟩:=h.back hj
   refine (ir.1 hy).2 i (by rw [h.len];exact hi) ?_
   rw [(oS h3).2,e]
 simp only [List.length_map] at h1 h2
 omega
theorem iH.kind:(cq (gw g names order)).1=(cq g).1:=by
 have hm:=h.may'
 have hc:(0<(jm (gw g names order)).length)↔0<(jm g).length:=by
  have key:∀g:Gr,aM g=true→((0<(jm g).length)↔Bn g=false):=by
   intro g hm
   cases ho:Bn g with
   |true=>rw [Ez hm ho];simp
   |false=>simp [(C5 hm ho).1]
  rw [key _ hm,key _ h.may,h.Md]
 have h1:=h.loop
 have h2:=h.Jt
 have h3:=h.bare
 simp only [cq,gF,hm,h.may]
 simp only [Bool.true_eq_false,if_false,h1,h2,hc,h3]
 split
 ·rfl
 split
 ·rfl
 split
 ·rfl
 split<;>rfl
end
end Go.Ab
end
section
namespace Go.Ab
open Go.Proofs
set_option maxRecDepth 10000
def M8:Nat→List Edge→Int→Option (Int × Int)
 |_, [],_=>none
 |m,e::N,v=>if e.1=v then some ((m:Int),e.2) else M8 (m+1) N v
def PY (m:Nat) (N:List Edge) (t:It):It:=if 0≤t.1 then t else match M8 m N t.2.1 with
 |some (i,h)=>(i,t.2.1,h)
 |none=>t
structure M9 (g:Gr) (p:Pl):Prop where
 run:cB g p
 n:(CU g p).n≤64
 es:(CU g p).es.length≤128
variable {g:Gr} {p:Pl}
end Go.Ab
end
section
namespace Go.Ab
open Go.Proofs
set_option maxRecDepth 10000
variable {g:Gr} {p:Pl}
theorem zx {p:Pl} {k:Nat} {v:Int} (hk:k≤p.ord.length) (h:v∈p.ord.take k):∃j,j<k∧az p j=v:=by
 obtain ⟨j,hj,e⟩:=List.mem_iff_getElem.1 h
 simp only [List.length_take] at hj
 refine ⟨j,by omega, ?_⟩
 rw [← e,az,List.getD_eq_getElem?_getD,List.getElem?_eq_getElem (by omega)]
 simp
end Go.Ab
end
section
namespace Go.Ab
open Go.Proofs
set_option maxRecDepth 10000
variable {g:Gr} {p:Pl}
theorem oT (hr:cB g p):bK p (az p (g.n.toNat - 1))= []∧az p (g.n.toNat - 1)∈loose (kT g p):=by
 have hm:=aF hr.1
 have hn:=aV hm
 obtain ⟨k,hk⟩:∃k,g.n.toNat=k+1:=⟨g.n.toNat - 1,by omega⟩
 obtain ⟨hi,_,_⟩:=dH hm hr.2.1 (k:=k) (by omega) fun j hj=>hr.2.2 j (by omega)
 obtain ⟨A,X,C,hrw,_,_,_,hs⟩:=iq hm hi.togG (hr.2.2 k (by omega))
 have hL:kT g p=A++aL g (az p k) (bK p (az p k))++C:=by
  unfold kT;rw [hk]
  show (aB _ _ _ _).2.row=_
  rw [hs]
 have xI:g.n.toNat - 1=k:=by omega
 rw [xI]
 have kg:=yy hr
 have hx:=aN hr.2.1 (k:=k) (by omega)
 have h0:bK p (az p k)= []:=by
  refine Decidable.byContradiction fun h0=> ?_
  have ha:aL g (az p k) (bK p (az p k))=(bK p (az p k)).map (fz g (az p k)):=if_neg h0
  obtain ⟨i,hi'⟩:=List.exists_mem_of_ne_nil _ h0
  have h1:=kg (fz g (az p k) i) (by rw [hL,ha];simp;exact .inr (.inl ⟨i,hi',rfl⟩))
  obtain ⟨e,rfl,_⟩:=jw ((bR hr.2.1 hx.1 hx.2).mem_iff.1 hi')
  simp [fz] at h1
  omega
 refine ⟨h0, ?_⟩
 have ha:aL g (az p k) (bK p (az p k))= [(-1,az p k, -1)]:=if_pos h0
 rw [hL,ha,tQ,tQ]
 simp [loose]
theorem lE {f:Edge→Int} {g:Gr} {y:Int} :y∈bI f g↔(0≤y∧y<g.n)∧aZ f g.es g.es.length y= []:=by
 simp only [bI,gY,List.mem_map,List.mem_filter,List.mem_range,decide_eq_true_eq]
 have he:∀x:Nat,x<g.n.toNat→(((cZ f g).getD x []).length=0↔aZ f g.es g.es.length (x:Int)= []):=by
  intro x hx
  have e:(cZ f g).getD x []=aZ f g.es g.es.length (x:Int):=by
   simp [cZ,List.getD_eq_getElem?_getD,List.getElem?_range hx,kN]
  rw [e,List.length_eq_zero_iff]
 constructor
 ·rintro ⟨x,⟨hx,h0⟩,rfl⟩
  exact ⟨by simp;omega,(he x hx).1 h0⟩
 ·rintro ⟨⟨h1,h2⟩,h3⟩
  have e:((y.toNat:Nat):Int)=y:=by omega
  exact ⟨y.toNat,⟨by omega,(he _ (by omega)).2 (by rw [e];exact h3)⟩,e⟩
end Go.Ab
end
section
namespace Go.Ab
open Go.Proofs
set_option maxRecDepth 10000
def iU (l:List It):List It:=l.filter fun t=>decide (0≤t.1)
theorem lF {a b:List It} :iU (a++b)=iU a++iU b:=by simp [iU]
theorem iI {l:List It} {t:It} :t∈iU l↔t∈l∧0≤t.1:=by simp [iU]
theorem qe {x:Int} {l:List It} (h:fE x l):fE x (iU l):=fun t ht=>h t (iI.1 ht).1
def vn (x:Int) (l:List It):Prop:=∀t∈l,t.2.2=x
theorem lG {g:Gr} {x:Int} {o:List Int} (ho:∀i∈o,0≤i):iU (aL g x o)=o.map (fz g x):=by
 unfold aL
 split
 ·rename_i h;subst h;rfl
 ·refine List.filter_eq_self.2 fun t ht=> ?_
  obtain ⟨i,hi,rfl⟩:=List.mem_map.1 ht
  exact decide_eq_true (ho i hi)
theorem tW {x:Int} :∀ {X Y c d:List It},vn x X→vn x Y→fE x c→fE x d→X++c=Y++d→X=Y∧c=d
 | [], [],c,d,_,_,_,_,e=>⟨rfl,e⟩
 | [],u::Y,c,d,_,hY,hc,_,e=>by
   simp only [List.nil_append] at e
   exact absurd (hY u (by simp)) (hc u (by rw [e];simp))
 |t::X, [],c,d,hX,_,_,hd,e=>by
  simp only [List.nil_append] at e
  exact absurd (hX t (by simp)) (hd t (by rw [← e];simp))
 |t::X,u::Y,c,d,hX,hY,hc,hd,e=>by
  simp only [List.cons_append,List.cons.injEq] at e
  obtain ⟨e1,e2⟩:=tW (fun s hs=>hX s (by simp [hs])) (fun s hs=>hY s (by simp [hs])) hc hd e.2
  exact ⟨by rw [e.1,e1],e2⟩
theorem xy {x:Int} :∀ {a b X Y c d:List It},fE x a→fE x b→vn x X→vn x Y→fE x c→fE x d→X≠ []→Y≠ []→a++X++c=b++Y++d→a=b∧X=Y∧c=d
 |t::a, [],X,u::Y,c,d,ha,_,_,hY,_,_,_,_,e=>by
  simp only [List.cons_append,List.nil_append,List.cons.injEq] at e
  exact absurd (by rw [e.1];exact hY u (by simp)) (ha t (by simp))
 | [],t::b,u::X,Y,c,d,_,hb,hX,_,_,_,_,_,e=>by
   simp only [List.cons_append,List.nil_append,List.cons.injEq] at e
   exact absurd (by rw [← e.1];exact hX u (by simp)) (hb t (by simp))
 |t::a,u::b,X,Y,c,d,ha,hb,hX,hY,hc,hd,nX,nY,e=>by
  simp only [List.cons_append,List.cons.injEq] at e
  obtain ⟨e1,e2,e3⟩:=xy (fun s hs=>ha s (by simp [hs])) (fun s hs=>hb s (by simp [hs])) hX hY hc hd nX nY e.2
  exact ⟨by rw [e.1,e1],e2,e3⟩
 | [], [],X,Y,c,d,_,_,hX,hY,hc,hd,_,_,e=>by
   refine ⟨rfl, ?_⟩
   simp only [List.nil_append] at e
   exact tW hX hY hc hd e
 | [],_::_, [],_,_,_,_,_,_,_,_,_,h,_,_=>absurd rfl h
 |_::_, [],_, [],_,_,_,_,_,_,_,_,_,h,_=>absurd rfl h
theorem C6 {g:Gr} (hm:aM g=true) {f:Fr} (hi:gG g f) {x:Int} (hR:aD g f x=true) (hn:bz g x≠0):
 ∃a X c,iU f.row=a++X++c∧fE x a∧fE x c∧vn x X∧X.length=bz g x∧∀o,iU (aB g f x o).2.row=a++iU (aL g x o)++c:=by
 obtain ⟨A,X,C,hr,hA,hC,hX,cX⟩:=cV hm hi hR hn
 have hx:=(aT hR).1
 have hmem:∀t∈X,t∈f.row:=fun t ht=>by rw [hr];simp [ht]
 have hiff:∀t∈X,(0≤t.1↔t.2.2=x):=fun t ht=>by
  have h1:=(hi.it t (hmem t ht)).head hm
  have h2:=hX.al t ht
  omega
 refine ⟨iU A,iU X,iU C,by rw [hr,lF,lF],qe hA,qe hC,fun t ht=> ?_, ?_,fun o=> ?_⟩
 ·obtain ⟨h1,h2⟩:=iI.1 ht
  exact (hiff t h1).1 h2
 ·rw [← cX,iU, ← List.countP_eq_length_filter]
  refine List.countP_congr fun t ht=> ?_
  simp only [ko,decide_eq_true_eq]
  exact hiff t ht
 ·rw [jY o hr hA hC hX]
  simp only [lF]
theorem EA {g:Gr} (hm:aM g=true) {f:Fr} (hi:gG g f) {x:Int} (hR:aD g f x=true) (hn:bz g x≠0) {a X c:List It} (e:iU f.row=a++X++c) (ha:fE x a) (hc:fE x c) (hX:vn x X) (nX:X≠ []) (o:List Int):
 iU (aB g f x o).2.row=a++iU (aL g x o)++c:=by
 obtain ⟨b,Y,d,e',hb,hd,hY,lY,hs⟩:=C6 hm hi hR hn
 have nY:Y≠ []:=fun h=>hn (by rw [← lY,h];rfl)
 obtain ⟨e1,_,e3⟩:=xy hb ha hY hX hd hc nY nX (e'.symm.trans e)
 rw [hs o,e1,e3]
theorem C7 {g:Gr} (hm:aM g=true) {f:Fr} (hi:gG g f) {x:Int} (h0:0≤x) (h1:x<g.n) (hp:x∉f.pl) {a X c:List It} (e:iU f.row=a++X++c) (ha:fE x a) (hc:fE x c) (hX:vn x X) (nX:X≠ []) (hl:X.length=bz g x):aD g f x=true:=by
 have hmem:∀j,j<f.row.length→AI g (f.row.getD j (0,0,0)):=fun j hj=>hi.it _ (bq hj)
 have Ai:f.row.countP (ko x)=X.length:=by
  have h2:f.row.countP (ko x)=(iU f.row).countP (ko x):=by
   rw [iU,List.countP_filter]
   refine List.countP_congr fun t ht=> ?_
   have:=(hi.it t ht).head hm
   simp only [ko,Bool.and_eq_true,decide_eq_true_eq]
   omega
  have c1:a.countP (ko x)=0:=List.countP_eq_zero.2 fun t ht=>by simp [ko,ha t ht]
  have c2:c.countP (ko x)=0:=List.countP_eq_zero.2 fun t ht=>by simp [ko,hc t ht]
  have c3:X.countP (ko x)=X.length:=List.countP_eq_length.2 fun t ht=>by simp [ko,hX t ht]
  rw [h2,e,List.countP_append,List.countP_append,c1,c2,c3]
  omega
 rw [← nI hm hi,fT,if_neg (by rintro (h|h|h);omega;omega;exact hp h),fU h0 h1,Bool.and_eq_true,decide_eq_true_eq]
 have hN:(aZ (fun e=>e.2) g.es g.es.length x).length=bz g x:=rfl
 rw [hN]
 refine ⟨?_, ?_⟩
 ·unfold aU
  rw [ju,jX (Nat.le_refl _),List.take_length,Ai,hl]
 ·rw [Bool.or_eq_true];right
  rcases cR (row:=f.row) (x:=x) f.row.length with ⟨hs,hno⟩|⟨p,q,n,hs,hab,iO,hc0,dL,hpx,Me,hlo,hhi⟩
  ·have hs':aU f.row x=(-1,0,0):=hs
   rw [hs'];simp [pG]
  ·have hs':aU f.row x=((p:Int),(q:Int),(n:Int)):=hs
   rw [hs']
   simp only [Int.toNat_natCast,pG,Bool.not_eq_true']
   rw [← Bool.not_eq_true,tN iO]
   rintro ⟨j,h2,h3,h4⟩
   simp only [jU,Bool.and_eq_true,decide_eq_true_eq] at h4
   have hja:p<j:=by
    refine Nat.lt_of_le_of_ne h2 fun e=> ?_
    subst e;exact h4.1 hpx
   have hjb:j<q - 1:=by
    refine Nat.lt_of_le_of_ne (by omega) fun e=> ?_
    subst e;exact h4.1 Me
   have hsub:=((sr (i:=j+1) (j:=q - 1) (sr (i:=p+1) (j:=j) (sr (i:=0) (j:=p) (List.nil_sublist _) (by omega) (by omega)) (by omega) (by omega)) (by omega) (by omega)).trans (List.take_sublist _ f.row)).filter fun t=>decide (0≤t.1)
   have hp1:=(hmem p (by omega)).head hm
   have Na:=(hmem j (by omega)).head hm
   have hq1:=(hmem (q - 1) (by omega)).head hm
   generalize f.row.getD p (0,0,0)=s1 at hsub hp1 hpx
   generalize f.row.getD j (0,0,0)=s2 at hsub Na h4
   generalize f.row.getD (q - 1) (0,0,0)=s3 at hsub hq1 Me
   have hf:([]++ [s1]++ [s2]++ [s3]).filter (fun t=>decide (0≤t.1))= [s1,s2,s3]:=List.filter_eq_self.2 fun t ht=>by
    simp only [List.nil_append,List.cons_append,List.mem_cons,List.not_mem_nil,or_false] at ht
    rcases ht with rfl|rfl|rfl
    ·exact decide_eq_true (hp1.1.2 (by omega))
    ·exact decide_eq_true (Na.1.2 h4.2)
    ·exact decide_eq_true (hq1.1.2 (by omega))
   rw [hf] at hsub
   have hsub: [s1,s2,s3].Sublist (a++(X++c)):=by rw [← List.append_assoc, ← e];exact hsub
   rw [List.sublist_append_iff] at hsub
   obtain ⟨l1,l',el,k1,k'⟩:=hsub
   rw [List.sublist_append_iff] at k'
   obtain ⟨l2,l3,rfl,k2,k3⟩:=k'
   match l1,el,k1 with
   |t::l1,el,k1=>
    simp only [List.cons_append,List.cons.injEq] at el
    exact ha t (k1.subset (by simp)) (by rw [← el.1];exact hpx)
   | [],el,_=>
     match l2,el,k2 with
     | [],el,_=>
       simp only [List.nil_append] at el
       exact hc s1 (k3.subset (by rw [← el];simp)) hpx
     | [t],el,_=>
       simp only [List.nil_append,List.cons_append,List.cons.injEq] at el
       exact hc s3 (k3.subset (by rw [← el.2];simp)) Me
     |t::u::l2,el,k2=>
      simp only [List.nil_append,List.cons_append,List.cons.injEq] at el
      exact h4.1 (by rw [el.2.1];exact hX u (k2.subset (by simp)))
end Go.Ab
end
section
namespace Go.Ab
open Go.Proofs
set_option maxRecDepth 10000
def Ju (gone:List Int) (i:Nat):Bool:= !decide ((i:Int)∈gone)
def Gk (gone:List Int) (k:Nat):List Nat:=(List.range k).filter (Ju gone)
def ON (gone:List Int) (k:Nat):Nat:=(Gk gone k).length
def Mf (gone:List Int) (es:List Edge) (k:Nat):List Edge:=(Gk gone k).map fun i=>es.getD i (0,0)
def OO (g:Gr) (gone:List Int):Gr:=⟨g.n,Mf gone g.es g.es.length⟩
def Nb (gone:List Int) (i:Int):Int:=if i∈gone then -1 else (ON gone i.toNat:Int)
def Mg (gone:List Int) (l:List Int):List Int:=(l.filter fun i=>decide (i∉gone)).map (Nb gone)
def OP (p:Pl) (gone:List Int):Pl:=⟨p.ord,p.outs.map (Mg gone)⟩
variable {g:Gr} {p:Pl} {gone:List Int}
def OQ (gone:List Int) (t:It):It:=(Nb gone t.1,t.2.1,t.2.2)
def OR (gone:List Int) (l:List It):List It:=(l.filter fun t=>decide (t.1∉gone)).map (OQ gone)
theorem fV (hr:cB g p):bz g (az p 0)=0:=by
 have hm:=aF hr.1
 have hn:=aV hm
 refine Decidable.byContradiction fun hnz=> ?_
 obtain ⟨A,X,C,hrw,_,_,hX,_⟩:=cV hm (zj g).togG (hr.2.2 0 (by omega)) hnz
 obtain ⟨q,X0,e1,_⟩:=hX.fst
 rw [e1] at hrw
 simp at hrw
end Go.Ab
end
section
namespace Go.Ab
open Go.Proofs
set_option maxRecDepth 10000
theorem vo {g:Gr} (hm:aM g=true) {f:Fr} (hi:gG g f) {x:Int} (hR:aD g f x=true) (hn:bz g x≠0) (o:List Int):
 ∃a c,iU f.row=a++iU (aB g f x o).1.1++c∧fE x a∧fE x c∧vn x (iU (aB g f x o).1.1)∧(iU (aB g f x o).1.1).length=bz g x∧iU (aB g f x o).2.row=a++iU (aL g x o)++c:=by
 obtain ⟨A,X,C,hr,hA,hC,hX,hc⟩:=cV hm hi hR hn
 have hx:=(aT hR).1
 have hmem:∀t∈X,t∈f.row:=fun t ht=>by rw [hr];simp [ht]
 have hiff:∀t∈X,(0≤t.1↔t.2.2=x):=fun t ht=>by
  have h1:=(hi.it t (hmem t ht)).head hm
  have h2:=hX.al t ht
  constructor
  ·intro h;rcases h2 with h2|h2
   ·exact h2
   ·exact absurd h2 (h1.1.1 h)
  ·intro h;exact h1.1.2 (by omega)
 rw [jY o hr hA hC hX]
 refine ⟨iU A,iU C,by rw [hr,lF,lF],qe hA,qe hC,fun t ht=> ?_, ?_,by simp only [lF]⟩
 ·obtain ⟨h1,h2⟩:=iI.1 ht
  exact (hiff t h1).1 h2
 ·rw [← hc,iU, ← List.countP_eq_length_filter]
  refine List.countP_congr fun t ht=> ?_
  simp only [ko,decide_eq_true_eq]
  exact hiff t ht
def cG (g:Gr) (p:Pl) (x:Int):List Int:=(iU ((ec g p g.n.toNat).getD x.toNat [])).map (·.1)
def nP (g:Gr) (p:Pl) (f:Fr) (x:Int):List Int:=(iU (aB g f x (bK p x)).1.1).map (·.1)
def pJ (g:Gr) (p:Pl):Nat→Fr→Prop
 |0,f=>(f.pl.length:Int)=g.n
 |m+1,f=>∃x,aD g f x=true∧nP g p f x=cG g p x∧pJ g p m (tP g p f x)
theorem sD {g:Gr} {p:Pl} :∀ {m:Nat} {f f':Fr},f.row=f'.row→f.pl.Perm f'.pl→pJ g p m f→pJ g p m f'
 |0,f,f',_,hp,h=>by
  have h:(f.pl.length:Int)=g.n:=h
  show (f'.pl.length:Int)=g.n
  rw [← hp.length_eq];exact h
 |m+1,f,f',hr,hp,⟨x,h1,h3,h2⟩=>by
  refine ⟨x,by rw [← xk hr hp];exact h1, ?_,sD ?_ ?_ h2⟩
  ·simp only [nP,aB,hr] at h3 ⊢;exact h3
  ·simp only [tP,aB,hr]
  ·exact hp.append_right _
theorem tX {g:Gr} (hc:(cq g).1=0) {p:Pl} (hp:bE g p):∀ {m:Nat} {f:Fr},xg g f→(f.pl.length:Int)+(m+1:Nat)=g.n→pJ g p (m+1) f→∀ {x:Int},aD g f x=true→nP g p f x=cG g p x∧pJ g p m (tP g p f x)
 |m,f,hi,hl,⟨y,tO,J0,hcan⟩,x,hR=>by
  have hm:=aF hc
  by_cases hxy:x=y
  ·subst hxy;exact ⟨J0,hcan⟩
  have py:=bR hp (aT tO).1 (aT tO).2.1
  have px:=bR hp (aT hR).1 (aT hR).2.1
  have i2:=jy hm hi tO py
  match m,hl,hcan with
  |0,hl,hcan=>
   exfalso
   have h1:=jz i2.togG (by show ((f.pl++ [y]).length:Int)=g.n;simp;omega) (x:=x) ⟨(aT hR).1,(aT hR).2.1⟩
   have h2:x∈f.pl++ [y]:=h1
   simp [(aT hR).2.2,hxy] at h2
  |m+1,hl,hcan=>
   obtain ⟨h4,h5,h6,h7,h8⟩:=AP hc hi hxy hR tO px py
   obtain ⟨h9,h3⟩:=tX hc hp i2 (by show (((f.pl++ [y]).length:Nat):Int)+_=_;simp;omega) hcan h5
   refine ⟨?_,y,h4, ?_,sD h6.symm ?_ h3⟩
   ·unfold nP at h9 ⊢;rw [h7];exact h9
   ·unfold nP at J0 ⊢;rw [h8] at J0;exact J0
   show (f.pl++ [y]++ [x]).Perm (f.pl++ [x]++ [y])
   rw [List.append_assoc,List.append_assoc]
   exact List.Perm.append_left _ (List.Perm.swap ..)
theorem tY {g:Gr} {p:Pl} (h:cB g p):∀ {d k:Nat},k+d=g.n.toNat→pJ g p d (fK g p k)
 |0,k,hk=>by
  have hn:=aV (aF h.1)
  obtain ⟨_,gu,_⟩:=dH (aF h.1) h.2.1 (k:=k) (by omega) fun j hj=>h.2.2 j (by omega)
  show ((fK g p k).pl.length:Int)=g.n
  rw [gu,List.length_take,b9 h.2.1];omega
 |d+1,k,hk=>⟨az p k,h.2.2 k (by omega),by
   unfold cG
   rw [nL h.2.1 (Nat.le_refl _) (show k<g.n.toNat by omega)]
   rfl,tY h (k:=k+1) (by omega)⟩
theorem zy {g:Gr} (hc:(cq g).1=0) {p:Pl} (hp:bE g p):∀ {m:Nat} {f:Fr},xg g f→pJ g p m f→∀ {i:Nat},i<g.es.length→tl g i∈f.pl→hd g i∉f.pl→∃t∈f.row,t.1=(i:Int)
 |0,f,hi,h,i,hil,_,hh=>by
  have hr:=bW (aF hc) hil
  exact absurd (jz hi.togG h (x:=hd g i) hr) hh
 |m+1,f,hi,⟨x,hR,_,h⟩,i,hil,ht,hh=>by
  have hm:=aF hc
  have px:=bR hp (aT hR).1 (aT hR).2.1
  by_cases hx:hd g i=x
  ·obtain ⟨t,h1,h2,_⟩:=vj hm hi hR hil hx
   exact ⟨t,h1,h2⟩
  ·obtain ⟨t,h1,h2⟩:=zy hc hp (jy hm hi hR px) h hil (List.mem_append.2 (.inl ht)) (fun h1=>by
    rcases List.mem_append.1 h1 with h1|h1
    ·exact hh h1
    ·exact hx (by simpa using h1))
   obtain ⟨A,X,C,hr,_,_,_,hs⟩:=iq hm hi.togG hR
   rw [hs] at h1
   simp only [List.mem_append] at h1
   rcases h1 with (h1|h1)|h1
   ·exact ⟨t,by rw [hr];simp [h1],h2⟩
   ·rcases jx (fun i hi=>px.mem_iff.1 hi) h1 with ⟨h3,_⟩|⟨k,h3,h4,h5,_,h6,_⟩
    ·omega
    ·have:k=i:=by omega
     subst this
     exact absurd (h6 ▸ ht) (aT hR).2.2
   ·exact ⟨t,by rw [hr];simp [h1],h2⟩
def qf (g:Gr) (e:Int):Int:=(g.es.getD e.toNat (0,0)).1
def DH (g:Gr) (e:Int):Int:=(g.es.getD e.toNat (0,0)).2
def pK (g:Gr) (x:Int):Prop:=0≤x∧x<g.n
instance {g:Gr} {x:Int} :Decidable (pK g x):=inferInstanceAs (Decidable (0≤x∧x<g.n))
def kV (g:Gr) (p:Pl) (k:Nat) (W D:List Int):Prop:=∃f,xg g f∧f.pl=D∧W=(iU f.row).map (·.1)∧pJ g p k f∧(D.length:Int)+k=g.n∧az p 0∈D
def C8 (g:Gr) (p:Pl) (x:Int):Nat:=((w8 g.n.toNat p.ord p.ord.length).getD x.toNat 0).toNat
def cx (g:Gr) (p:Pl):PS:=
 {m:=g.es.length,src:=az p 0,E7:=az p (g.n.toNat - 1),tl:=qf g,hd:=DH g,ins:=fun x=>if pK g x then cG g p x else [],outs:=fun x=>if pK g x then bK p x else [],Dw:=C8 g p,Row:=kV g p,k0:=g.n.toNat - 1}
theorem j0 {g:Gr} {p:Pl} {x:Int} (h:pK g x):(cx g p).ins x=cG g p x:=if_pos h
theorem nQ {g:Gr} {p:Pl} {x:Int} (h:¬pK g x):(cx g p).ins x= []:=if_neg h
theorem iJ {g:Gr} {p:Pl} {x:Int} (h:pK g x):(cx g p).outs x=bK p x:=if_pos h
theorem nR {g:Gr} {p:Pl} {x:Int} (h:¬pK g x):(cx g p).outs x= []:=if_neg h
theorem cC {f:Edge→Int} {es:List Edge} {x e:Int} :e∈aZ f es es.length x↔(0≤e∧e<es.length)∧f (es.getD e.toNat (0,0))=x:=by
 refine ⟨gU,fun ⟨h1,h2⟩=> ?_⟩
 simp only [aZ,List.mem_map,List.mem_filter,List.mem_range,decide_eq_true_eq]
 exact ⟨e.toNat,⟨by omega,h2⟩,by simp;omega⟩
section
variable {g:Gr} {p:Pl}
theorem zA (hm:aM g=true) (hp:bE g p) {k:Nat} (hk:k<g.n.toNat):C8 g p (az p k)=k:=by
 have hE:=((zn hm).2 hp).1
 have:=ve hE (p:=k) (k:=p.ord.length) (by rw [b9 hp];exact hk) (Nat.le_refl _)
 unfold C8
 show ((w8 _ _ _).getD (p.ord.getD k 0).toNat 0).toNat=k
 rw [this];simp
theorem sF (h:cB g p) {e:Int} (he:0≤e∧e<g.es.length) {k:Nat} (hk:k<g.n.toNat) (hx:DH g e=az p k):∃j,j<k∧az p j=qf g e:=by
 have hm:=aF h.1
 obtain ⟨hi,gu,_⟩:=dH hm h.2.1 (k:=k) (by omega) fun j hj=>h.2.2 j (by omega)
 obtain ⟨t,h1,h2,h3,_⟩:=vj hm hi (h.2.2 k hk) (i:=e.toNat) (by omega) hx
 have h4:=hi.tail t h1 (by omega)
 rw [h3,gu] at h4
 exact zx (by rw [b9 h.2.1];omega) h4
theorem nS (hm:aM g=true) {f:Fr} (hi:gG g f) {t:It} (ht:t∈iU f.row):(0≤t.1∧t.1<g.es.length)∧t.2.1=qf g t.1∧t.2.2=DH g t.1:=by
 obtain ⟨h1,h2⟩:=iI.1 ht
 rcases hi.it t h1 with h3|h3
 ·omega
 ·exact ⟨⟨h3.1,h3.2.1⟩,h3.2.2.1,h3.2.2.2⟩
theorem C9 {f:Fr} (hi:xg g f):((iU f.row).map (·.1)).Nodup:=by
 refine List.pairwise_map.2 ?_
 have:=hi.once.filter (fun t:It=>decide (0≤t.1))
 refine List.Pairwise.imp_of_mem (fun {s t} hs ht h1=>h1 (iI.1 hs).2) this
theorem EB (hm:aM g=true) {f:Fr} (hi:xg g f) {x:Int} (hR:aD g f x=true):(nP g p f x).Nodup∧∀e,e∈nP g p f x↔(0≤e∧e<g.es.length)∧DH g e=x:=by
 by_cases hn:bz g x=0
 ·have hno:=sq hm hi.togG (aT hR).1 hn
  have e0:nP g p f x= []:=by unfold nP;rw [lC _ hno];rfl
  rw [e0]
  refine ⟨List.nodup_nil,fun e=>⟨fun h=>by (cases h),fun ⟨h1,h2⟩=> ?_⟩⟩
  have:=cC.2 ⟨h1,h2⟩
  have h3:aZ (·.2) g.es g.es.length x= []:=List.eq_nil_of_length_eq_zero hn
  rw [h3] at this;cases this
 ·obtain ⟨a,c,e1,ha,hc,hX,hl,_⟩:=vo hm hi.togG hR hn (bK p x)
  have bX:=C9 hi
  have hmem:∀t∈iU (aB g f x (bK p x)).1.1,t∈iU f.row:=fun t ht=>by rw [e1];simp [ht]
  rw [e1,List.map_append,List.map_append,List.nodup_append] at bX
  have Nc:(nP g p f x).Nodup:=(List.nodup_append.1 bX.1).2.1
  have hsub:∀e∈nP g p f x,e∈aZ (·.2) g.es g.es.length x:=fun e he=>by
   obtain ⟨t,ht,rfl⟩:=List.mem_map.1 he
   obtain ⟨h1,_,h3⟩:=nS hm hi.togG (hmem t ht)
   exact cC.2 ⟨h1,by rw [← hX t ht,h3];rfl⟩
  have hlen:(aZ (·.2) g.es g.es.length x).length=(nP g p f x).length:=by
   unfold nP;rw [List.length_map,hl];rfl
  exact ⟨Nc,fun e=>⟨fun he=>cC.1 (hsub e he),fun he=>vi Nc hsub hlen e (cC.2 he)⟩⟩
theorem zB (h:cB g p) {k:Nat} (hk:k<g.n.toNat):cG g p (az p k)=nP g p (fK g p k) (az p k):=by
 unfold cG
 rw [nL h.2.1 (Nat.le_refl _) hk];rfl
theorem kW (h:cB g p) {x:Int} (hx:pK g x):(cG g p x).Nodup∧∀e,e∈cG g p x↔(0≤e∧e<g.es.length)∧DH g e=x:=by
 obtain ⟨k,hk,rfl⟩:=ga h.2.1 hx.1 hx.2
 have hm:=aF h.1
 obtain ⟨hi,_,_⟩:=dH hm h.2.1 (k:=k) (by omega) fun j hj=>h.2.2 j (by omega)
 rw [zB h hk]
 exact EB hm hi (h.2.2 k hk)
theorem jA (h:cB g p) {x:Int} (hx:pK g x):(cG g p x).length=bz g x:=by
 obtain ⟨h1,h2⟩:=kW h hx
 refine Nat.le_antisymm ?_ ?_
 ·exact eS h1 fun e he=>cC.2 ((h2 e).1 he)
 ·exact eS cU fun e he=>(h2 e).2 (cC.1 he)
theorem ew (h:cB g p) (hI:kq g=true) {x:Int} (hx:pK g x):bK p x= []↔x=az p (g.n.toNat - 1):=by
 have hm:=aF h.1
 have hn:=aV hm
 constructor
 ·intro h1
  have hs:=(oT h).1
  have hsi:=aN h.2.1 (k:=g.n.toNat - 1) (by omega)
  have b1:=lE (f:=(·.1)) (g:=g) (y:=x) |>.2 ⟨hx,(nN h.2.1 hx.1 hx.2).2 h1⟩
  have b2:=lE (f:=(·.1)) (g:=g) (y:=az p (g.n.toNat - 1)) |>.2 ⟨hsi,(nN h.2.1 hsi.1 hsi.2).2 hs⟩
  have hl:(bI (·.1) g).length=1:=by
   unfold kq at hI
   simp only [Bool.and_eq_true,decide_eq_true_eq] at hI
   exact hI.2
  obtain ⟨y,hy⟩:=List.length_eq_one_iff.1 hl
  rw [hy,List.mem_singleton] at b1 b2
  rw [b1,b2]
 ·rintro rfl;exact (oT h).1
theorem tZ (h:cB g p) (hI:kq g=true) {f:Fr} (hi:xg g f):∀ {d k:Nat},k+d=g.n.toNat→k<g.n.toNat→az p k∉f.pl→az p (g.n.toNat - 1)∉f.pl
 |0,k,h1,h2,_=>by omega
 |d+1,k,h1,h2,h3=>by
  have hm:=aF h.1
  have hx:=aN h.2.1 h2
  by_cases hs:bK p (az p k)= []
  ·rw [(ew h hI hx).1 hs] at h3;exact h3
  ·obtain ⟨e,u,he⟩:=iB hs
   have sR:e∈bu g (az p k):=(bR h.2.1 hx.1 hx.2).mem_iff.1 (by rw [he];simp)
   obtain ⟨mY,vB⟩:=cC.1 sR
   have hh:=bW hm (i:=e.toNat) (by omega)
   obtain ⟨k',hk',e'⟩:=ga h.2.1 hh.1 hh.2
   obtain ⟨j,hj,e2⟩:=sF h mY hk' e'.symm
   have:j=k:=dK h.2.1 (by omega) h2 (e2.trans vB)
   refine tZ h hI hi (d:=g.n.toNat - k') (k:=k') (by omega) hk' fun h4=> ?_
   have:=hi.low e.toNat (by omega) (e' ▸ h4)
   have h5:tl g e.toNat=az p k:=vB
   exact h3 (h5 ▸ this)
 termination_by d=>d
theorem kV.nd {k:Nat} {W D:List Int} (h:kV g p k W D):W.Nodup:=by
 obtain ⟨f,hi,_,rfl,_⟩:=h;exact C9 hi
theorem kV.mem (h:cB g p) {k:Nat} {W D:List Int} (hr:kV g p k W D) (e:Int):e∈W↔(0≤e∧e<g.es.length)∧qf g e∈D∧DH g e∉D:=by
 have hm:=aF h.1
 obtain ⟨f,hi,rfl,rfl,hc,_⟩:=hr
 constructor
 ·intro he
  obtain ⟨t,ht,rfl⟩:=List.mem_map.1 he
  obtain ⟨h1,h2,h3⟩:=nS hm hi.togG ht
  obtain ⟨h4,h5⟩:=iI.1 ht
  exact ⟨h1,h2 ▸ hi.tail t h4 h5,h3 ▸ hi.head t h4 h5⟩
 ·rintro ⟨h1,h2,h3⟩
  obtain ⟨t,h4,h5⟩:=zy h.1 h.2.1 hi hc (i:=e.toNat) (by omega) h2 h3
  exact List.mem_map.2 ⟨t,iI.2 ⟨h4,by omega⟩,by omega⟩
theorem kV.next (h:cB g p) {k:Nat} {W D:List Int} (hr:kV g p (k+1) W D):∃x A C,W=A++(cx g p).ins x++C∧(cx g p).ins x≠ []:=by
 have hm:=aF h.1
 obtain ⟨f,hi,rfl,rfl,⟨x,hR,hg,_⟩,_,hs⟩:=hr
 obtain ⟨x0,x1,x2⟩:=aT hR
 have hx:pK g x:=⟨x0,x1⟩
 have hn:bz g x≠0:=fun h0=>by
  have:=nJ h.1 (x:=x) (y:=az p 0) hx (hi.FY _ hs) h0 (fV h)
  exact x2 (this ▸ hs)
 obtain ⟨a,c,e1,_,_,_,hl,_⟩:=vo hm hi.togG hR hn (bK p x)
 refine ⟨x,a.map (·.1),c.map (·.1), ?_, ?_⟩
 ·rw [j0 hx, ← hg,e1,List.map_append,List.map_append];rfl
 ·rw [j0 hx]
  intro h0
  have:=jA h hx
  rw [h0] at this
  exact hn this.symm
theorem kV.step (h:cB g p) {k:Nat} {W D A C:List Int} {x:Int} (hr:kV g p k W D) (hW:W=A++(cx g p).ins x++C) (hI:(cx g p).ins x≠ []):∃k',k=k'+1∧kV g p k' (A++(cx g p).outs x++C) (D++ [x]):=by
 have hm:=aF h.1
 have hx:pK g x:=Decidable.byContradiction fun h0=>hI (nQ h0)
 have bX:=hr.nd
 have hmem:=kV.mem h hr
 rw [j0 hx] at hW hI
 rw [iJ hx]
 obtain ⟨i1,i2⟩:=kW h hx
 obtain ⟨e0,u0,Ep⟩:=iB hI
 have Nd:x∉D:=by
  have h1:=(i2 e0).1 (by rw [Ep];simp)
  have h2:=(hmem e0).1 (by rw [hW,Ep];simp)
  rw [h1.2] at h2;exact h2.2.2
 obtain ⟨f,hi,rfl,OS,hc,hD,hs⟩:=hr
 rw [OS] at hW bX
 obtain ⟨l1,c,e1,e2,e3⟩:=List.map_eq_append_iff.1 hW
 obtain ⟨a,X,e4,e5,e6⟩:=List.map_eq_append_iff.1 e2
 have hrow:iU f.row=a++X++c:=by rw [e1,e4]
 rw [hrow,List.map_append,List.map_append,e5,e6,e3] at bX
 have hit:∀t∈a++X++c,(0≤t.1∧t.1<g.es.length)∧t.2.1=qf g t.1∧t.2.2=DH g t.1:=fun t ht=>nS hm hi.togG (by rw [hrow];exact ht)
 have hX:vn x X:=fun t ht=>by
  have h1:t.1∈cG g p x:=by rw [← e6];exact List.mem_map_of_mem ht
  rw [(hit t (by simp [ht])).2.2,((i2 _).1 h1).2]
 have hin:∀t∈a++X++c,t.2.2=x→t.1∈cG g p x:=fun t ht e=>by
  obtain ⟨h1,_,h3⟩:=hit t ht
  exact (i2 _).2 ⟨h1,by rw [← h3,e]⟩
 have ha:fE x a:=fun t ht e=>by
  have h1:=hin t (by simp [ht]) e
  have h2:t.1∈A:=by rw [← e5];exact List.mem_map_of_mem ht
  exact (List.nodup_append.1 (List.nodup_append.1 bX).1).2.2 _ h2 _ h1 rfl
 have Nf:fE x c:=fun t ht e=>by
  have h1:=hin t (by simp [ht]) e
  have h2:t.1∈C:=by rw [← e3];exact List.mem_map_of_mem ht
  exact (List.nodup_append.1 bX).2.2 _ (List.mem_append.2 (.inr h1)) _ h2 rfl
 have LZ:X.length=bz g x:=by rw [← jA h hx, ← e6,List.length_map]
 have nX:X≠ []:=fun h0=>hI (by rw [← e6,h0];rfl)
 have hR:=C7 hm hi.togG hx.1 hx.2 Nd hrow ha Nf hX nX LZ
 have hn:bz g x≠0:=fun h0=>nX (List.eq_nil_of_length_eq_zero (LZ.trans h0))
 have px:=bR h.2.1 hx.1 hx.2
 cases k with
 |zero=>exact absurd (jz hi.togG (by omega) hx) Nd
 |succ k=>
  refine ⟨k,rfl,tP g p f x,jy hm hi hR px,rfl, ?_,(tX h.1 h.2.1 hi (by omega) hc hR).2, ?_,List.mem_append.2 (.inl hs)⟩
  ·have:=EA hm hi.togG hR hn hrow ha Nf hX nX (bK p x)
   show _=(iU (aB g f x (bK p x)).2.row).map (·.1)
   rw [this,List.map_append,List.map_append,e5,e3,lG (fun i hi=>by
    have:=cC.1 (px.mem_iff.1 hi);exact this.1.1),List.map_map]
   have e7:((fun t:It=>t.1) ∘ fz g x)=id:=rfl
   rw [e7,List.map_id]
  ·show (((f.pl++ [x]).length:Nat):Int)+_=_
   rw [List.length_append,List.length_singleton];omega
theorem AW (h:cB g p):kV g p (g.n.toNat - 1) (bK p (az p 0)) [az p 0]:=by
 have hm:=aF h.1
 have hn:=aV hm
 have hx:=aN h.2.1 (k:=0) (by omega)
 obtain ⟨hi,gu,_⟩:=dH hm h.2.1 (k:=1) (by omega) fun j hj=>h.2.2 j (by omega)
 have px:=bR h.2.1 hx.1 hx.2
 have hno:fE (az p 0) (fK g p 0).row:=fun t ht=>by cases ht
 have hf:fK g p 1=⟨aL g (az p 0) (bK p (az p 0)), [az p 0]⟩:=by
  show (aB g (fK g p 0) (az p 0) _).2=_
  rw [lC _ hno]
  show (⟨_++ [], []++ [_]⟩:Fr)=_
  simp
 refine ⟨fK g p 1,hi,by rw [hf], ?_,tY h (by omega),by simp;omega,by simp⟩
 rw [hf]
 show _=(iU (aL g (az p 0) (bK p (az p 0)))).map (·.1)
 rw [lG (fun i hi=>(cC.1 (px.mem_iff.1 hi)).1.1),List.map_map]
 have e7:((fun t:It=>t.1) ∘ fz g (az p 0))=id:=rfl
 rw [e7,List.map_id]
theorem zC (h:cB g p) (hI:kq g=true):(cx g p).Ok:=by
 have hm:=aF h.1
 have hn:=aV hm
 have h0:pK g (az p 0):=aN h.2.1 (by omega)
 exact {
  fk:=fun x e=>by
   show _↔(0≤e∧e<g.es.length)∧qf g e=x
   by_cases hx:pK g x
   ·rw [iJ hx,(bR h.2.1 hx.1 hx.2).mem_iff];exact cC
   ·rw [nR hx]
    refine ⟨fun h=>by (cases h),fun ⟨h1,h2⟩=>absurd ?_ hx⟩
    rw [← h2];exact bJ hm (i:=e.toNat) (by omega)
  cL:=fun x e=>by
   show _↔(0≤e∧e<g.es.length)∧DH g e=x
   by_cases hx:pK g x
   ·rw [j0 hx];exact (kW h hx).2 e
   ·rw [nQ hx]
    refine ⟨fun h=>by (cases h),fun ⟨h1,h2⟩=>absurd ?_ hx⟩
    rw [← h2];exact bW hm (i:=e.toNat) (by omega)
  mO:=fun x=>by
   by_cases hx:pK g x
   ·rw [iJ hx,(bR h.2.1 hx.1 hx.2).nodup_iff];exact cU
   ·rw [nR hx];exact List.nodup_nil
  xO:=fun x=>by
   by_cases hx:pK g x
   ·rw [j0 hx];exact (kW h hx).1
   ·rw [nQ hx];exact List.nodup_nil
  nZ:=fun e he=>by
   have he:0≤e∧e<g.es.length:=he
   have hh:=bW hm (i:=e.toNat) (by omega)
   obtain ⟨k,hk,e1⟩:=ga h.2.1 hh.1 hh.2
   obtain ⟨j,hj,e2⟩:=sF h he hk e1.symm
   show C8 g p (qf g e)<C8 g p (DH g e)
   have e3:DH g e=az p k:=e1.symm
   rw [← e2,e3,zA hm h.2.1 hk,zA hm h.2.1 (by omega)]
   exact hj
  DK:=by
   show kV g p (g.n.toNat - 1) ((cx g p).outs (az p 0)) [az p 0]
   rw [iJ h0];exact AW h
  kr:=fun hr=>kV.nd hr
  dz:=fun hr e=>kV.mem h hr e
  ku:=fun hr=>kV.next h hr
  mP:=fun hr h1 h2=>kV.step h hr h1 h2
  k8:=fun {W D} hr e he=>by
   obtain ⟨f,hi,rfl,_,_,hD,_⟩:=hr
   exact jz hi.togG (by omega) (bW hm (i:=e.toNat) (by have:=he.1;have:=he.2;have:e<g.es.length:=he.2;omega))
  pT:=fun {k W D} hr=>by obtain ⟨f,hi,rfl,_,_,_,hs⟩:=hr;exact hs
  pU:=fun {k W D} hr hs=>by
   obtain ⟨f,hi,rfl,_,_,hD,_⟩:=hr
   refine Decidable.byContradiction fun hk=> ?_
   have:∃k',k'<g.n.toNat∧az p k'∉f.pl:=by
    refine Decidable.byContradiction fun hall=> ?_
    have hall:∀k',k'<g.n.toNat→az p k'∈f.pl:=fun k' hk'=>Decidable.byContradiction fun h1=>hall ⟨k',hk',h1⟩
    have:=eS (l:=p.ord) (m:=f.pl) (sw h.2.1) fun x hx=>by
     have hx:=dS.1 (h.2.1.2.1.mem_iff.1 hx)
     obtain ⟨k',h1,rfl⟩:=ga h.2.1 hx.1 (by omega)
     exact hall k' h1
    rw [b9 h.2.1] at this
    omega
   obtain ⟨k',h1,h2⟩:=this
   exact tZ h hI hi (d:=g.n.toNat - k') (by omega) h1 h2 hs
  qo:=by
   show (cx g p).ins (az p 0)= []
   rw [j0 h0]
   have:=jA h h0
   rw [fV h] at this
   exact List.eq_nil_of_length_eq_zero this
  mQ:=fun x hx=>by
   have DF:pK g x:=Decidable.byContradiction fun h0=>hx (nQ h0)
   rw [iJ DF]
   exact ew h hI DF}
end
end Go.Ab
end
section
namespace Go.Ab
open Go.Proofs
set_option maxRecDepth 10000
set_option linter.unusedSectionVars false
section
variable (g:Gr) (p:Pl)
def cK:Nat→Nat
 |0=>1
 |k+1=>cK k+((bK p (az p k)).length - 1)
def F3 (e:Int):Nat:=(bK p (qf g e)).findIdx (fun i=>decide (i=e))
def ez (x:Int):Int:=(cG g p x).headD 0
def l7 (x:Int):Int:=(cG g p x).getLastD 0
def LK:Nat→Int→Int
 |0,_=>0
 |k+1,e=>if qf g e=az p k then (if F3 g p e=0 then (if k=0 then 0 else LK k (ez g p (az p k))) else (cK p k:Int)+F3 g p e - 1) else LK k e
def RK (r:Int):Nat→Int→Int
 |0,_=>0
 |k+1,e=>if qf g e=az p k then (if F3 g p e+1<(bK p (az p k)).length then (cK p k:Int)+F3 g p e else (if k=0 then r else RK r k (l7 g p (az p k)))) else RK r k e
def iu:Nat→List Int
 |0=> [az p 0]
 |k+1=>iu k++List.replicate ((bK p (az p k)).length - 1) (az p k)
end
section
variable {g:Gr} {p:Pl}
theorem gr:∀ {k:Nat},(iu p k).length=cK p k
 |0=>rfl
 |k+1=>by rw [iu,List.length_append,List.length_replicate,gr,cK]
theorem oU:∀ {k:Nat},0<cK p k
 |0=>by simp [cK]
 |k+1=>by rw [cK];have:= @oU k;omega
theorem qg {k:Nat} :∀ {d:Nat},cK p k≤cK p (k+d)
 |0=>Nat.le_refl _
 |d+1=>by
  have:= @qg k d
  show _≤cK p (k+d+1)
  rw [cK];omega
theorem ua {k:Nat} {f:Nat} (hf:f<cK p k):∀ {d:Nat},(iu p (k+d)).getD f 0=(iu p k).getD f 0
 |0=>rfl
 |d+1=>by
  show (iu p (k+d+1)).getD f 0=_
  have:=qg (p:=p) (k:=k) (d:=d)
  rw [iu,List.getD_eq_getElem?_getD,List.getElem?_append_left (by rw [gr];omega), ← List.getD_eq_getElem?_getD,ua hf]
theorem Da {k f:Nat} (h1:cK p k≤f) (h2:f<cK p (k+1)):(iu p (k+1)).getD f 0=az p k:=by
 rw [iu,List.getD_eq_getElem?_getD,List.getElem?_append_right (by rw [gr];exact h1),List.getElem?_replicate,gr,if_pos (by rw [cK] at h2;omega)]
 rfl
variable (h:cB g p)
include h
theorem mK {k:Nat} (hk:k<g.n.toNat) {u v:List Int} {e:Int} (he:bK p (az p k)=u++e::v):qf g e=az p k∧F3 g p e=u.length:=by
 have hx:=aN h.2.1 hk
 have px:=bR h.2.1 hx.1 hx.2
 have h1:=(cC.1 (px.mem_iff.1 (show e∈bK p (az p k) by rw [he];simp))).2
 have h1:qf g e=az p k:=h1
 refine ⟨h1, ?_⟩
 have bX:(bK p (az p k)).Nodup:=px.nodup_iff.2 cU
 unfold F3
 rw [h1,he]
 rw [he,List.nodup_append] at bX
 rw [List.findIdx_append]
 have h2:u.findIdx (fun i=>decide (i=e))=u.length:=by
  rw [List.findIdx_eq_length]
  intro i hi
  exact decide_eq_false fun e2=>bX.2.2 i hi e (by simp) e2
 rw [h2,if_neg (by omega)]
 simp [List.findIdx_cons]
theorem zD {e:Int} {k:Nat} (hk:k<g.n.toNat) (he:qf g e=az p k):∀ {d:Nat},k+1+d≤g.n.toNat→LK g p (k+1+d) e=LK g p (k+1) e
 |0,_=>rfl
 |d+1,hd=>by
  show LK g p (k+1+d+1) e=_
  rw [LK,if_neg (fun e2=>by have:=dK h.2.1 hk (show k+1+d<g.n.toNat by omega) (he.symm.trans e2);omega),zD hk he (by omega)]
theorem zE {r:Int} {e:Int} {k:Nat} (hk:k<g.n.toNat) (he:qf g e=az p k):∀ {d:Nat},k+1+d≤g.n.toNat→RK g p r (k+1+d) e=RK g p r (k+1) e
 |0,_=>rfl
 |d+1,hd=>by
  show RK g p r (k+1+d+1) e=_
  rw [RK,if_neg (fun e2=>by have:=dK h.2.1 hk (show k+1+d<g.n.toNat by omega) (he.symm.trans e2);omega),zE hk he (by omega)]
theorem kX {e:Int} {k:Nat} (hk:k<g.n.toNat) (he:qf g e=az p k) {j:Nat} (h1:k+1≤j) (h2:j≤g.n.toNat):LK g p j e=LK g p (k+1) e:=by
 obtain ⟨d,rfl⟩:=Nat.exists_eq_add_of_le h1
 exact zD h hk he h2
theorem gy {r:Int} {e:Int} {k:Nat} (hk:k<g.n.toNat) (he:qf g e=az p k) {j:Nat} (h1:k+1≤j) (h2:j≤g.n.toNat):RK g p r j e=RK g p r (k+1) e:=by
 obtain ⟨d,rfl⟩:=Nat.exists_eq_add_of_le h1
 exact zE h hk he h2
theorem vp {k:Nat} (hk:k<g.n.toNat) {v:List Int} {e:Int} (he:bK p (az p k)=e::v) {j:Nat} (h1:k+1≤j) (h2:j≤g.n.toNat):LK g p j e=if k=0 then 0 else LK g p k (ez g p (az p k)):=by
 obtain ⟨a,b⟩:=mK h hk (u:= []) he
 rw [kX h hk a h1 h2,LK,if_pos a,if_pos (show F3 g p e=0 from b)]
theorem zF {k:Nat} (hk:k<g.n.toNat) {u v:List Int} {e:Int} (he:bK p (az p k)=u++e::v) (hu:u≠ []) {j:Nat} (h1:k+1≤j) (h2:j≤g.n.toNat):LK g p j e=(cK p k:Int)+u.length - 1:=by
 obtain ⟨a,b⟩:=mK h hk he
 have:=List.length_pos_iff.2 hu
 rw [kX h hk a h1 h2,LK,if_pos a,if_neg (by omega),b]
theorem sG {r:Int} {k:Nat} (hk:k<g.n.toNat) {u:List Int} {e:Int} (he:bK p (az p k)=u++ [e]) {j:Nat} (h1:k+1≤j) (h2:j≤g.n.toNat):RK g p r j e=if k=0 then r else RK g p r k (l7 g p (az p k)):=by
 obtain ⟨a,b⟩:=mK h hk he
 rw [gy h hk a h1 h2,RK,if_pos a,if_neg (by rw [b,he];simp)]
theorem iK {r:Int} {k:Nat} (hk:k<g.n.toNat) {u v:List Int} {e c:Int} (he:bK p (az p k)=u++e::c::v) {j:Nat} (h1:k+1≤j) (h2:j≤g.n.toNat):RK g p r j e=(cK p k:Int)+u.length:=by
 obtain ⟨a,b⟩:=mK h hk he
 rw [gy h hk a h1 h2,RK,if_pos a,if_pos (by rw [b,he];simp),b]
theorem oV {x:Int} {a:Int} {u:List Int} (hu:cG g p x=a::u):ez g p x=a:=by unfold ez;rw [hu];rfl
theorem kY {x:Int} {a:Int} {u:List Int} (hu:cG g p x=u++ [a]):l7 g p x=a:=by unfold l7;rw [hu];simp
theorem zG {k:Nat} (hk:k<g.n.toNat) (hI:cG g p (az p k)≠ []):k≠0:=fun h0=>by
 subst h0
 have:=jA h (aN h.2.1 hk)
 rw [fV h] at this
 exact hI (List.eq_nil_of_length_eq_zero this)
theorem xz {k:Nat} (hk:k<g.n.toNat) {a:Int} (ha:a∈cG g p (az p k)):∃j,j<k∧qf g a=az p j:=by
 obtain ⟨h1,h2⟩:=((kW h (aN h.2.1 hk)).2 a).1 ha
 obtain ⟨j,h3,h4⟩:=sF h h1 hk h2
 exact ⟨j,h3,h4.symm⟩
def WK (g:Gr) (p:Pl) (k:Nat):List Int:=(iU (fK g p k).row).map (·.1)
theorem sH (hn:0<g.n.toNat):WK g p 1=bK p (az p 0):=by
 have hx:=aN h.2.1 hn
 have px:=bR h.2.1 hx.1 hx.2
 have hno:fE (az p 0) (fK g p 0).row:=fun t ht=>by cases ht
 have hf:(fK g p 1).row=aL g (az p 0) (bK p (az p 0)):=by
  show (aB g (fK g p 0) (az p 0) _).2.row=_
  rw [lC _ hno]
  show _++ []=_
  simp
 unfold WK
 rw [hf,lG (fun i hi=>(cC.1 (px.mem_iff.1 hi)).1.1),List.map_map]
 have e7:((fun t:It=>t.1) ∘ fz g (az p 0))=id:=rfl
 rw [e7,List.map_id]
theorem lH {k:Nat} (h0:k≠0) (hk:k<g.n.toNat):∃A C,WK g p k=A++cG g p (az p k)++C∧cG g p (az p k)≠ []∧WK g p (k+1)=A++bK p (az p k)++C:=by
 have hm:=aF h.1
 obtain ⟨hi,gu,_⟩:=dH hm h.2.1 (k:=k) (by omega) fun j hj=>h.2.2 j (by omega)
 have hR:=h.2.2 k hk
 have hx:=aN h.2.1 hk
 have px:=bR h.2.1 hx.1 hx.2
 have hn:bz g (az p k)≠0:=fun hz=>by
  have OU:=aN h.2.1 (show 0<g.n.toNat by omega)
  have:=nJ h.1 hx OU hz (fV h)
  exact h0 (dK h.2.1 hk (by omega) this)
 obtain ⟨a,c,e1,_,_,_,hl,e2⟩:=vo hm hi.togG hR hn (bK p (az p k))
 refine ⟨a.map (·.1),c.map (·.1), ?_, ?_, ?_⟩
 ·rw [zB h hk];unfold WK;rw [e1,List.map_append,List.map_append];rfl
 ·intro h1
  have:=jA h hx
  rw [h1] at this
  exact hn this.symm
 ·unfold WK
  show (iU (aB g (fK g p k) (az p k) _).2.row).map (·.1)=_
  rw [e2,List.map_append,List.map_append,lG (fun i hi=>(cC.1 (px.mem_iff.1 hi)).1.1),List.map_map]
  have e7:((fun t:It=>t.1) ∘ fz g (az p k))=id:=rfl
  rw [e7,List.map_id]
theorem qh {k:Nat} (hk:k≤g.n.toNat) {a:Int} (ha:a∈WK g p k):∃j,j<k∧qf g a=az p j:=by
 have hm:=aF h.1
 obtain ⟨hi,gu,_⟩:=dH hm h.2.1 (k:=k) (by omega) fun j hj=>h.2.2 j (by omega)
 obtain ⟨t,ht,rfl⟩:=List.mem_map.1 ha
 obtain ⟨h1,h2,_⟩:=nS hm hi.togG ht
 obtain ⟨h4,h5⟩:=iI.1 ht
 have:=hi.tail t h4 h5
 rw [gu,h2] at this
 obtain ⟨j,hj,e⟩:=zx (by rw [b9 h.2.1];omega) this
 exact ⟨j,hj,e.symm⟩
theorem zH {r:Int} {k:Nat} (hk:k<g.n.toNat) {j:Nat} (h1:k+1≤j) (h2:j≤g.n.toNat):fF (LK g p j) (RK g p r j) (if k=0 then 0 else LK g p k (ez g p (az p k))) (bK p (az p k)):=by
 refine mR (fun u a b v e=> ?_) fun a u e=>vp h hk e h1 h2
 rw [iK h hk e h1 h2,zF h hk (u:=u++ [a]) (v:=v) (e:=b) (by rw [e];simp) (by simp) h1 h2]
 simp;omega
theorem zI {r:Int} {k:Nat} (hk:k<g.n.toNat) {j:Nat} (h1:k+1≤j) (h2:j≤g.n.toNat) (hO:bK p (az p k)≠ []) (f:Int):gI (RK g p r j) f (bK p (az p k))=if k=0 then r else RK g p r k (l7 g p (az p k)):=by
 obtain ⟨v,b,hv⟩:=cM hO
 rw [hv,cH,sG h hk hv h1 h2]
theorem kZ {L R L' R':Int→Int} :∀ {W:List Int} {f:Int},(∀a∈W,L a=L' a∧R a=R' a)→(fF L R f W↔fF L' R' f W)
 | [],_,_=>Iff.rfl
 |a::W,f,hh=>by
  have h1:=hh a (List.mem_cons_self ..)
  simp only [fF,h1.1,h1.2,kZ (W:=W) fun b hb=>hh b (List.mem_cons_of_mem _ hb)]
theorem sJ {R R':Int→Int} :∀ {W:List Int} {f:Int},(∀a∈W,R a=R' a)→gI R f W=gI R' f W
 | [],_,_=>rfl
 |a::W,f,hh=>by
  simp only [gI,hh a (List.mem_cons_self ..),sJ (W:=W) fun b hb=>hh b (List.mem_cons_of_mem _ hb)]
theorem yA {r:Int} (hI:kq g=true):∀ {k:Nat},1≤k→k<g.n.toNat→WK g p k≠ []→fF (LK g p k) (RK g p r k) 0 (WK g p k)∧gI (RK g p r k) 0 (WK g p k)=r
 |0,h1,_,_=>by omega
 |k+1,_,hk,hW=>by
  by_cases h0:k=0
  ·subst h0
   rw [sH h (by omega)] at hW ⊢
   have a:=zH (r:=r) h (k:=0) (by omega) (j:=1) (Nat.le_refl _) (by omega)
   have b:=zI (r:=r) h (k:=0) (by omega) (j:=1) (Nat.le_refl _) (by omega) hW 0
   rw [if_pos rfl] at a b
   exact ⟨a,b⟩
  ·obtain ⟨A,C,e1,hne,e2⟩:=lH h h0 (show k<g.n.toNat by omega)
   obtain ⟨l1,l2⟩:=yA hI (k:=k) (by omega) (by omega) (by rw [e1];simp [hne])
   have hO:bK p (az p k)≠ []:=fun h1=>by
    have:=(ew h hI (aN h.2.1 (show k<g.n.toNat by omega))).1 h1
    have:=dK h.2.1 (show k<g.n.toNat by omega) (by omega) this
    omega
   have zJ:∀a∈WK g p k,LK g p (k+1) a=LK g p k a∧RK g p r (k+1) a=RK g p r k a:=fun a ha=>by
    obtain ⟨j,hj,e⟩:=qh h (by omega) ha
    exact ⟨by rw [kX h (by omega) e (j:=k+1) (by omega) (by omega),kX h (by omega) e (j:=k) (by omega) (by omega)],by rw [gy h (by omega) e (j:=k+1) (by omega) (by omega),gy h (by omega) e (j:=k) (by omega) (by omega)]⟩
   rw [← kZ h zJ] at l1
   rw [← sJ h fun a ha=>(zJ a ha).2] at l2
   rw [e1] at l1 l2 zJ
   rw [e2]
   obtain ⟨a0,u0,DL⟩:=iB hne
   obtain ⟨u,a,hu⟩:=cM hne
   obtain ⟨l3,l5⟩:=bS.1 l1
   obtain ⟨l4,l6⟩:=bS.1 l3
   have OV:LK g p (k+1) a0=gI (RK g p r (k+1)) 0 A:=by rw [DL] at l6;exact l6.1
   have DN:∀f,gI (RK g p r (k+1)) f (cG g p (az p k))=RK g p r k (l7 g p (az p k)):=fun f=>by
    rw [kY h hu,hu,cH,(zJ a (by rw [hu];simp)).2]
   have hlk:=zH (r:=r) h (k:=k) (by omega) (j:=k+1) (Nat.le_refl _) (by omega)
   have Mh:=zI (r:=r) h (k:=k) (by omega) (j:=k+1) (Nat.le_refl _) (by omega) hO
   rw [if_neg h0] at hlk Mh
   rw [oV h DL, ← (zJ a0 (by rw [DL];simp)).1,OV] at hlk
   refine ⟨?_, ?_⟩
   ·rw [bS,bS,cr,Mh]
    rw [cr,DN] at l5
    exact ⟨⟨l4,hlk⟩,l5⟩
   ·rw [cr,cr,Mh]
    rw [cr,cr,DN] at l2
    exact l2
theorem mL (hI:kq g=true) {r:Int} (hr:r<0∨cK p g.n.toNat≤r):(cx g p).gA (LK g p g.n.toNat) (RK g p r g.n.toNat) 0 r (fun f=>(iu p g.n.toNat).getD f.toNat 0):=by
 have hm:=aF h.1
 have hn:=aV hm
 have Bm:∀ {x:Int} {l:List Int},(cx g p).outs x=l→l≠ []→∃k,k<g.n.toNat∧az p k=x∧bK p (az p k)=l:=fun {x l} h1 h2=>by
  by_cases hx:pK g x
  ·obtain ⟨k,hk,rfl⟩:=ga h.2.1 hx.1 hx.2
   exact ⟨k,hk,rfl,by rw [← h1,iJ hx]⟩
  ·rw [nR hx] at h1;exact absurd h1.symm h2
 have Mi:∀ {x:Int} {l:List Int},(cx g p).ins x=l→l≠ []→∃k,k<g.n.toNat∧az p k=x∧cG g p (az p k)=l:=fun {x l} h1 h2=>by
  by_cases hx:pK g x
  ·obtain ⟨k,hk,rfl⟩:=ga h.2.1 hx.1 hx.2
   exact ⟨k,hk,rfl,by rw [← h1,j0 hx]⟩
  ·rw [nQ hx] at h1;exact absurd h1.symm h2
 have h0:(cx g p).src=az p 0:=rfl
 have G3:∀k,0<cK p k:=fun k=>oU
 exact {
  ne:=by have:=G3 g.n.toNat;omega
  gH:=fun {x u a b v} e=>by
   obtain ⟨k,hk,_,e2⟩:=Bm e (by simp)
   rw [iK h hk e2 (by omega) (Nat.le_refl _),zF h hk (u:=u++ [a]) (v:=v) (e:=b) (by rw [e2];simp) (by simp) (by omega) (Nat.le_refl _)]
   simp;omega
  qs:=fun {x u a b v} e=>by
   obtain ⟨k,hk,_,e2⟩:=Mi e (by simp)
   have vX:=zG h hk (by rw [e2];simp)
   obtain ⟨A,C,e1,hne,_⟩:=lH h vX hk
   have l1:=(yA (r:=r) h hI (k:=k) (by omega) hk (by rw [e1];simp [hne])).1
   have zJ:∀a∈WK g p k,LK g p g.n.toNat a=LK g p k a∧RK g p r g.n.toNat a=RK g p r k a:=fun a ha=>by
    obtain ⟨j,hj,e⟩:=qh h (by omega) ha
    exact ⟨by rw [kX h (by omega) e (j:=g.n.toNat) (by omega) (by omega),kX h (by omega) e (j:=k) (by omega) (by omega)],by rw [gy h (by omega) e (j:=g.n.toNat) (by omega) (by omega),gy h (by omega) e (j:=k) (by omega) (by omega)]⟩
   rw [← kZ h zJ,e1,e2,show A++(u++a::b::v)++C=(A++u)++a::b::(v++C) by simp] at l1
   exact Br l1
  fst:=fun {x a u b v} e1 e2=>by
   obtain ⟨k,hk,hx,e3⟩:=Bm e2 (by simp)
   have e4:cG g p (az p k)=a::u:=by
    have DF:pK g x:=by rw [← hx];exact aN h.2.1 hk
    rw [hx, ← j0 DF];exact e1
   have vX:=zG h hk (by rw [e4];simp)
   obtain ⟨j,hj,et⟩:=xz h hk (a:=a) (by rw [e4];simp)
   rw [vp h hk e3 (by omega) (Nat.le_refl _),if_neg vX,oV h e4,kX h (by omega) et (j:=g.n.toNat) (by omega) (Nat.le_refl _),kX h (by omega) et (j:=k) (by omega) (by omega)]
  Bp:=fun {x a u b v} e1 e2=>by
   obtain ⟨k,hk,hx,e3⟩:=Bm e2 (by simp)
   have e4:cG g p (az p k)=u++ [a]:=by
    have DF:pK g x:=by rw [← hx];exact aN h.2.1 hk
    rw [hx, ← j0 DF];exact e1
   have vX:=zG h hk (by rw [e4];simp)
   obtain ⟨j,hj,et⟩:=xz h hk (a:=a) (by rw [e4];simp)
   rw [sG h hk e3 (by omega) (Nat.le_refl _),if_neg vX,kY h e4,gy h (by omega) et (j:=g.n.toNat) (by omega) (Nat.le_refl _),gy h (by omega) et (j:=k) (by omega) (by omega)]
  s0:=fun {b v} e=>by
   obtain ⟨k,hk,hx,e3⟩:=Bm e (by simp)
   have:k=0:=dK h.2.1 hk (by omega) hx
   rw [vp h hk e3 (by omega) (Nat.le_refl _),if_pos this]
  s1:=fun {b v} e=>by
   obtain ⟨k,hk,hx,e3⟩:=Bm e (by simp)
   have:k=0:=dK h.2.1 hk (by omega) hx
   rw [sG h hk e3 (by omega) (Nat.le_refl _),if_pos this]
  new:=fun {x u a b v} e=>by
   obtain ⟨k,hk,hx,e3⟩:=Bm e (by simp)
   have hR:=iK (r:=r) h hk e3 (j:=g.n.toNat) (by omega) (Nat.le_refl _)
   have hl:(bK p (az p k)).length=u.length+(v.length+2):=by rw [e3];simp
   have DD:cK p (k+1)=cK p k+((bK p (az p k)).length - 1):=rfl
   obtain ⟨d,hd⟩:=Nat.exists_eq_add_of_le (show k+1≤g.n.toNat by omega)
   have hmo:=qg (p:=p) (k:=k+1) (d:=d)
   rw [← hd] at hmo
   have:=G3 k
   refine ⟨?_,by omega,by omega⟩
   show (iu p g.n.toNat).getD (RK g p r g.n.toNat a).toNat 0=x
   rw [hR,show ((cK p k:Int)+(u.length:Int)).toNat=cK p k+u.length by omega,hd,ua (by omega),Da (by omega) (by omega),hx]
  new1:=fun {x u a b v u' a' b' v'} e1 e2 e3=>by
   obtain ⟨k,hk,hx,e4⟩:=Bm e1 (by simp)
   have e5:bK p (az p k)=u'++a'::b'::v':=by
    have DF:pK g x:=by rw [← hx];exact aN h.2.1 hk
    rw [hx, ← iJ DF];exact e2
   rw [iK h hk e4 (by omega) (Nat.le_refl _),iK h hk e5 (by omega) (Nat.le_refl _)] at e3
   have hl:u.length=u'.length:=by omega
   rw [e4] at e5
   have:=(List.append_inj e5 hl).2
   simp only [List.cons.injEq] at this
   exact this.1}
end
end Go.Ab
end
section
namespace Go.Ab
theorem nT {X:Ctx} {o:Oper} {s:ASt} {K:LA→Prop} (hX:X.Ok) {C:Cfg} (hC:X.C=C) {P:Program} (hP:X.P=P) {c:Call} {fo:Operand} {f:Nat} {first caps F4 F5:List AV} {ob:AObj} (d:Nat)
 (hs:Spec P f (Args F5) [] (.ref 10000) [(10000,ob)]) (ho:o.op= .call c) (hc:c.callee= .value fo) (hf:aev C 0 s fo= .fn f first caps) (has:evA C s c.args.toList c.argTypes.toList=F4)
 (wz:cvts (fun a x=>rdX C (fun _=>false) true (reach s 3 (AV.idss (first++F4++caps))) 4 a=some x) (first++F4++caps) F5)
 (BO:∃e sz rows,ob= .own e sz rows∧∀r∈rows,∀x∈r,∃v,x=D.sc v) (hd:o.dst=some d) (hdl:d<10000)
 (hK:K ⟨rsOf s (fo::c.args.toList),reach s 3 (AV.idss (first++F4++caps)), [(d,none)], [(d,ob)],some d, .ref d⟩):ACall X o (.fn f first caps) F4 s K:=by
 subst hC;subst hP
 refine ⟨_,⟨hd.symm, ?_⟩,⟨aC s _,jM s _ _⟩,hK⟩
 rintro s' a w hdn fP ⟨E,hE⟩
 have hfo:=hE.evs fP.1 X.C 0 (x:=fo) (by simp)
 rw [hf] at hfo
 obtain ⟨us,vs,hfo,iP,td⟩:=hfo
 have hargs:=lp (s:=s) hE c.args.toList c.argTypes.toList (fun p hp=>fP.1 p (by cases fo<;>simp [rsOf,hp]))
 rw [has] at hargs
 have qU:AVrs w E (first++F4++caps) (us++c.args.toList.map a.eval++vs):=(iP.append hargs).append td
 obtain ⟨fn,cd,hfn,hname,hbody⟩:=hs.can
 have hrun:(execOp a.eval o).run X.P w= .ok (.enter f (us++c.args.toList.map a.eval++vs).toArray) w:=by
  have h1:us.toArray++c.args.map a.eval++vs.toArray=(us++c.args.toList.map a.eval++vs).toArray:=by
   apply Array.toList_inj.1;simp
  have h2:=c7 (P:=X.P) hfn hname hbody (us.toArray++c.args.map a.eval++vs.toArray) w
  rw [h1] at h2
  simp only [execOp,ho,resolve,hc,hfo,Deferred.ofValue,Sem.run_bind,Sem.run_pure,Result.andThen_ok,invoke]
  rw [h1];exact h2
 have gv:∀l,bF [] l=none:=fun l=>by unfold bF;split<;>rfl
 have wO:aH w E.z w (fun b=>max (E.z b) (cl w b)):=fun b=>⟨Nat.le_max_left _ _,fun _ _=>rfl⟩
 have qV:Good [] ⟨E.ρ,E.σ,fun b=>max (E.z b) (cl w b)⟩ w:=by
  refine ⟨fun l h=>by simp [look] at h,fun l l' b h=>by simp [gv] at h,fun l o h=>by simp [gv] at h,fun b hb=> ?_⟩
  simp [hE.good.fresh b hb,cl,Array.getElem?_eq_none hb]
 have hA:AVrs w ⟨E.ρ,E.σ,fun b=>max (E.z b) (cl w b)⟩ F5 (us++c.args.toList.map a.eval++vs):=
  gm (E':=⟨E.ρ,E.σ,fun b=>max (E.z b) (cl w b)⟩) ⟨wO,fun _ _=>rfl,fun _ _=>rfl⟩ (fun a x v DB hr=>nc hE.good wO (fun l o b _ _ _ _=>Nat.le_max_right _ _) (rz (fun l o hl=>fP.2 _ (aW hl)) DB) hr) wz qU
 unfold Oper.wp
 rw [hrun]
 refine (hs.calls _ w _ qV hA).mono ?_
 rintro e w' ⟨v,E',rfl,hst,hg',tv,hres⟩
 have hheap:∀b,b<w.heap.size→w'.heap[b]? =w.heap[b]? :=fun b hb=>(hst.frame b hb (by rintro ⟨l,o,hl,_⟩;simp [gv] at hl)).1
 obtain ⟨e0,sz,rows,rfl,hfl⟩:=BO
 have Cp:bF [(10000,AObj.own e0 sz rows)] 10000=some (.own e0 sz rows):=by rw [dA (by omega)];simp [look]
 have iW:=hg'.iX 10000 _ Cp
 have wT:∀b,E'.ρ 10000=some b→w.heap.size≤b:=fun b hb=>by
  rcases tv 10000 _ b Cp rfl hb with h|⟨l,q,hl,_⟩
  ·exact h
  ·simp [gv] at hl
 obtain ⟨E2,hρ,hσ,FI,FJ,Eh,zX⟩:∃E2:Env,(∀l,l≠d→E2.ρ l=E.ρ l)∧(∀l,l≠d→E2.σ l=E.σ l)∧E2.ρ d=E'.ρ 10000∧E2.σ d=E'.σ 10000∧(∀b,b<w.heap.size→E2.z b=E.z b)∧(∀b,w.heap.size≤b→E2.z b=E'.z b):=
  ⟨⟨fun l=>if l=d then E'.ρ 10000 else E.ρ l,fun l=>if l=d then E'.σ 10000 else E.σ l,fun b=>if b<w.heap.size then E.z b else E'.z b⟩,fun l h=>by simp [h],fun l h=>by simp [h],by simp,by simp,fun b h=>by simp [h],fun b h=>by simp [show ¬b<w.heap.size by omega]⟩
 have cj:∀l,kl [(d,(none:Option D))] l=if d=l then some none else none:=fun l=>by simp only [kl]
 have hlk:∀l,look [(d,AObj.own e0 sz rows)] l=if d=l then some (.own e0 sz rows) else none:=fun l=>by simp only [look]
 refine ⟨E2,hd ▸ hE.app' ⟨rsOf s (fo::c.args.toList),reach s 3 (AV.idss (first++F4++caps)), [(d,none)], [(d, .own e0 sz rows)],some d, .ref d⟩ E2 w' v (fun b=> ?_) hst.os hst.tape hst.output hst.size (fun l hl=> ?_) (fun l x hl=> ?_) (fun l hl=> ?_) (fun l hl=> ?_) (fun l q hl=> ?_) (fun b hb=> .inl ⟨hheap b hb,Eh b hb⟩) (fun l q hl=> ?_) (fun l l' b hl hl' _ _=> ?_) (fun l b hl hb=> ?_) (fun b hb=> ?_) ?_ (fun k hk=>hdn k (hd ▸ hk))⟩
 ·by_cases hb:b<w.heap.size
  ·exact ⟨by rw [Eh b hb];exact Nat.le_refl _,fun o _=>cell?_of_heap (hheap b hb) o⟩
  ·have:=hE.good.fresh b (by omega)
   exact ⟨by omega,fun o ho=>by omega⟩
 ·have:l≠d:=fun e=>by subst e;simp [kl] at hl
  exact ⟨hρ l this,hσ l this⟩
 ·simp only [cj] at hl;split at hl<;>simp at hl
 ·have:l≠d:=fun e=>by
   subst e
   have:=hX.low l hl
   omega
  exact ⟨hρ l this,hσ l this⟩
 ·simp only [cj] at hl
  split at hl
  ·omega
  ·exact absurd rfl hl
 ·simp only [hlk] at hl
  split at hl
  ·cases hl;exact ⟨by omega,rfl⟩
  ·cases hl
 ·simp only [hlk] at hl
  split at hl
  ·rename_i he;subst he
   cases hl
   obtain ⟨g1,g2,g3⟩:=iW
   refine ⟨g1,g2, ?_⟩
   rcases g3 with ⟨h1,h2,h3⟩|⟨b,cur,cap,h1,h2,h3,h4,h5,h6,h7,h8⟩
   ·exact .inl ⟨by rw [FI];exact h1,h2,by rw [FJ];exact h3⟩
   ·refine .inr ⟨b,cur,cap,by rw [FI];exact h1,h2,by rw [FJ];exact h3,h4,h5,h6,by rw [zX b (wT b h1)];exact h7,fun i j r x hi hj=> ?_⟩
    obtain ⟨v,hv,hx⟩:=h8 i j r x hi hj
    obtain ⟨u,rfl⟩:=hfl r (List.mem_of_getElem? hi) x (List.mem_of_getElem? hj)
    cases hx with
    |sc _ h=>exact ⟨_,hv, .sc _ h⟩
  ·cases hl
 ·simp only [hlk] at hl hl'
  split at hl
  ·rename_i he;split at hl'
   ·rename_i he';rw [← he, ← he']
   ·exact absurd rfl hl'
  ·exact absurd rfl hl
 ·simp only [hlk] at hl
  split at hl
  ·rename_i he;subst he
   rw [FI] at hb;exact .inl (wT b hb)
  ·exact absurd rfl hl
 ·rw [zX b (Nat.le_trans hst.size hb)];exact hg'.fresh b hb
 ·exact ⟨by rw [FJ];exact hres.1,hres.2⟩
end Go.Ab
end
section
namespace Go.Ab
open Go.Proofs
attribute [local congr] ACall.congr
set_option maxRecDepth 10000
set_option maxHeartbeats 8000000
def jB (A o:List Int) (f:Nat→Int):Nat→List Int
 |0=>A
 |j+1=>(jB A o f j).set (o.getD j 0).toNat (f j)
theorem fW {A o:List Int} {f:Nat→Int} :∀ {j:Nat},(jB A o f j).length=A.length
 |0=>rfl
 |j+1=>by rw [jB,List.length_set,fW]
def l8 (A o:List Int) (left:Int) (c:Nat) (j:Nat):List Int:=jB A o (fun j=>if j=0 then left else (c:Int)+j - 1) j
def l9 (A o:List Int) (right:Int) (c:Nat) (j:Nat):List Int:=jB A o (fun j=>if j+1<o.length then (c:Int)+j else right) j
theorem AX {A o:List Int} {left:Int} {c:Nat} {j:Nat} :(l8 A o left c j).length=A.length:=fW
theorem AY {A o:List Int} {left:Int} {c:Nat} {j:Nat} :(l9 A o left c j).length=A.length:=fW
theorem uc {A o:List Int} {f:Nat→Int} {e:Nat} :∀ {j:Nat},(∀i,i<j→(o.getD i 0).toNat≠e)→(jB A o f j).getD e 0=A.getD e 0
 |0,_=>rfl
 |j+1,h=>by
  have h1:=h j (by omega)
  rw [jB,List.getD_eq_getElem?_getD,List.getElem?_set,if_neg h1, ← List.getD_eq_getElem?_getD,uc fun i hi=>h i (by omega)]
theorem xA {A o:List Int} {f:Nat→Int} {i:Nat} (hA:(o.getD i 0).toNat<A.length):∀ {j:Nat},i<j→(∀k,k<j→(o.getD k 0).toNat=(o.getD i 0).toNat→k=i)→(jB A o f j).getD (o.getD i 0).toNat 0=f i
 |0,h,_=>by omega
 |j+1,h,hn=>by
  rw [jB,List.getD_eq_getElem?_getD,List.getElem?_set]
  by_cases e:(o.getD j 0).toNat=(o.getD i 0).toNat
  ·have:=hn j (by omega) e
   subst this
   rw [if_pos rfl,if_pos (by rw [fW];exact hA)];rfl
  ·have hji:j≠i:=fun e2=>e (by rw [e2])
   rw [if_neg e, ← List.getD_eq_getElem?_getD,xA hA (by omega) fun k hk=>hn k (by omega)]
def fe (c k:Nat):List Int:=(List.range k).map fun i:Nat=>((c+i:Nat):Int)
theorem yB {c k:Nat} :fe c (k+1)=fe c k++ [((c+k:Nat):Int)]:=by simp [fe,List.range_succ]
theorem jC {c k:Nat} :(fe c k).length=k:=by simp [fe]
def EC (left:Int) (c d j:Nat):Int:=if min j (d - 1)=0 then left else (c:Int)+(min j (d - 1):Nat) - 1
def Gy (ed gp:D) (A B lo hi:List Int):List (Nat × AObj):= [(10000, .box [.d ed, .d gp, .ref 10001, .ref 10002, .ref 10003, .ref 10004]),(10001, .own 3 1 (A.map rI)),(10002, .own 3 1 (B.map rI)),(10003, .tip 3 1 (lo.map rI)),(10004, .own 3 1 (hi.map rI))]
def Gz (ed gp:D) (A B lo hi:List Int):List (Nat × AObj):= [(10000, .box [.d ed, .d gp, .ref 10001, .ref 10002, .ref 10005, .ref 10006]),(10001, .own 3 1 (A.map rI)),(10002, .own 3 1 (B.map rI)),(10005, .tip 3 1 (lo.map rI)),(10006, .own 3 1 (hi.map rI))]
theorem ud (x left right:Int) (o:List Int) (ed gp:D) (A B lo hi:List Int) (ho:o.length≤100000) (hO:∀i∈o,0≤i∧i<A.length) (hB:B.length=A.length) (hlo:lo.length≤100000) (hhi:hi.length≤100000):
 Spec Tryz.prog 52 (Args [.ptr 10000 0,eN x, .d (sI o),eN left,eN right]) (Gy ed gp A B lo hi)
  (.d (sI (fe lo.length (o.length - 1)))) (Gz ed gp (l8 A o left lo.length o.length) (l9 B o right lo.length o.length) (lo++List.replicate (o.length - 1) x) (hi++List.replicate (o.length - 1) 0)):=by
 unfold Gy Gz
 generalize hc:lo.length=c at*
 (refine Spec.ef (C:=T.cfg [] []) (rs:= [.t 10]) [(10005,200),(10006,201)] (T.au _ _) Tryz.func52 rfl rfl Tryz.ntmps52 Tryz.results52 (by simp [AObj.isNest]) (by simp [AObj.isNest]) (by first|(simp [look];done)|(simp [asN];done)|(intro l hl;simp only [asN];repeat (rw [if_neg (fun e=>by subst e;simp [look] at hl)]))) (by first|(simp [look];done)|(simp [asN];done)|(intro l hl;simp only [asN];repeat (rw [if_neg (fun e=>by subst e;simp [look] at hl)]))) (by kernel_rfl) ?_;intro X hX hP hC aI aJ vals hA;refine ⟨_,by simp,hA, ?_⟩;have af:X.P.follows .mixedOrders=true:=(by rw [hP];exact T.mixed);clear aI aJ)
 repeat' (first|fail|((first|((with_reducible (first|apply oA|apply oB));exact rfl;intro K hK)|(refine hK _ ?_;clear hK K)|((with_reducible (first|apply oG|apply oH));iterate 3 exact rfl)|((with_reducible apply oI);(iterate 2 exact rfl);intro K hK)|(with_reducible (first|apply wI|apply wJ|apply wK)));try simp only [go_sem,simprocAttr])|(show dD _ (.seq (.region 1 _ _) _) _ _;(refine gL hX 10 202 (.tip 3 1 []) (by simp only [go_sem,simprocAttr]) (by simp only [go_sem,simprocAttr]) (by decide) ⟨3,1,by decide, .inr rfl⟩ ?_;simp only [go_sem,simprocAttr]);(refine iE hX 10000 4 10003 200 rfl rfl rfl (by first|exact .inl rfl|exact .inr rfl) (by decide) (by decide) ?_;simp only [LA.app,ASt.put,ASt.kill,subT,rmk,putM,rml,kl,AV.sub,AV.subs,AObj.sub,List.set_cons_zero,List.set_cons_succ,go_sem,simprocAttr]);(refine iE hX 10000 5 10004 201 rfl rfl rfl (by first|exact .inl rfl|exact .inr rfl) (by decide) (by decide) ?_;simp only [LA.app,ASt.put,ASt.kill,subT,rmk,putM,rml,kl,AV.sub,AV.subs,AObj.sub,List.set_cons_zero,List.set_cons_succ,go_sem,simprocAttr]))|(with_reducible (first|apply oC|apply oJ|exact oK|apply wA|apply wB|apply wC hX hC|apply wD hX hC|apply wE hX hC af|apply wF hX hC af|apply wG|apply wH|apply And.intro))|((with_reducible refine oD ?_ ?_);first|fail|kernel_rfl)|((with_reducible (first|apply oE|apply oF));(iterate 3 exact rfl);all_goals (intro h;first|(exact absurd h (by decide))|((try simp only [go_sem,simprocAttr] at h);(try with_reducible intro K hK);simp only [go_sem,simprocAttr])))|((first|((with_reducible apply wL);exact rfl)|((with_reducible apply wM);exact rfl));all_goals (try ((with_reducible intro h);first|(exact absurd h (by decide))|(try simp only [go_sem,simprocAttr] at h))))|omega|((first|fail);try simp only [go_sem,simprocAttr])|(intro h))
 refine an (fun j:Nat=>j≤o.length) (fun j=>⟨[(0, .ptr 10000 0),(1,eN x),(2, .d (sI o)),(3,eN (EC left c o.length j)),(4,eN right),(10, .ref 202),(13, .d (sI o)),(14,eN o.length),(15,eN j)], [(10000, .box [.d ed, .d gp, .ref 10001, .ref 10002, .ref 200, .ref 201]),(10001, .own 3 1 ((l8 A o left c j).map rI)),(10002, .own 3 1 ((l9 B o right c j).map rI)),(200, .tip 3 1 ((lo++List.replicate (min j (o.length - 1)) x).map rI)),(201, .own 3 1 ((hi++List.replicate (min j (o.length - 1)) 0).map rI)),(202, .tip 3 1 ((fe c (min j (o.length - 1))).map rI))]⟩) (fun j=>o.length - j) 0 (by omega) ?_ ?_
 ·refine Le.of ?_ ?_<;>simp [go_sem,simprocAttr,EC,l8,l9,jB,fe]
 rintro j hj
 rcases Nat.lt_or_ge j o.length with hjl|JW
 rotate_left
 ·have hb:decide ((j:Int)<(o.length:Int))=false:=decide_eq_false (by omega)
  obtain rfl:j=o.length:=by omega
  have hmin:min o.length (o.length - 1)=o.length - 1:=by omega
  rw [hmin]
  repeat' (first|fail|((first|((with_reducible (first|apply oA|apply oB));exact rfl;intro K hK)|(refine hK _ ?_;clear hK K)|((with_reducible (first|apply oG|apply oH));iterate 3 exact rfl)|((with_reducible apply oI);(iterate 2 exact rfl);intro K hK)|(with_reducible (first|apply wI|apply wJ|apply wK)));try simp only [go_sem,simprocAttr,hb])|fail|(with_reducible (first|apply oC|apply oJ|exact oK|apply wA|apply wB|apply wC hX hC|apply wD hX hC|apply wE hX hC af|apply wF hX hC af|apply wG|apply wH|apply And.intro))|((with_reducible refine oD ?_ ?_);first|fail|kernel_rfl)|((with_reducible (first|apply oE|apply oF));(iterate 3 exact rfl);all_goals (intro h;first|(exact absurd h (by decide))|((try simp only [go_sem,simprocAttr,hb] at h);(try with_reducible intro K hK);simp only [go_sem,simprocAttr,hb])))|((first|((with_reducible apply wL);exact rfl)|((with_reducible apply wM);exact rfl));all_goals (try ((with_reducible intro h);first|(exact absurd h (by decide))|(try simp only [go_sem,simprocAttr,hb] at h))))|omega|((first|fail);try simp only [go_sem,simprocAttr,hb])|(intro h))
 have hb:decide ((j:Int)<(o.length:Int))=true:=decide_eq_true (by omega)
 have hin:=hO _ (bq (d:=0) hjl)
 have sS:=AX (A:=A) (o:=o) (left:=left) (c:=c) (j:=j)
 have iO:=AY (A:=B) (o:=o) (left:=right) (c:=c) (j:=j)
 have F6:l8 A o left c (j+1)=(l8 A o left c j).set (o.getD j 0).toNat (if j=0 then left else (c:Int)+j - 1):=rfl
 have AZ:l9 B o right c (j+1)=(l9 B o right c j).set (o.getD j 0).toNat (if j+1<o.length then (c:Int)+j else right):=rfl
 have sR:min j (o.length - 1)=j:=by omega
 have hlf:EC left c o.length j=if j=0 then left else (c:Int)+j - 1:=by unfold EC;rw [sR]
 rw [sR,hlf]
 generalize sK:o.getD j 0=v at hin F6 AZ
 obtain ⟨i,rfl⟩:∃i:Nat,v=i:=⟨v.toNat,by omega⟩
 rw [Int.toNat_natCast] at F6 AZ
 generalize (if j=0 then left else (c:Int)+j - 1)=lv at F6 hlf ⊢
 by_cases hj2:j+1<o.length
 ·have aq:decide ((j:Int)+1<(o.length:Int))=true:=decide_eq_true (by omega)
  have hm2:min (j+1) (o.length - 1)=j+1:=by omega
  rw [if_pos hj2] at AZ
  have F7:EC left c o.length (j+1)=((c+j:Nat):Int):=by unfold EC;rw [hm2,if_neg (by omega)];omega
  have kg:(lo++List.replicate j x).length=c+j:=by rw [List.length_append,List.length_replicate,hc]
  have sM:(hi++List.replicate j (0:Int)).length=hi.length+j:=by rw [List.length_append,List.length_replicate]
  have Jv:lo++List.replicate (j+1) x=(lo++List.replicate j x)++ [x]:=by rw [List.replicate_succ', ← List.append_assoc]
  have Jw:hi++List.replicate (j+1) (0:Int)=(hi++List.replicate j 0)++ [0]:=by rw [List.replicate_succ', ← List.append_assoc]
  have qE:=jC (c:=c) (k:=j)
  have Cf:=yB (c:=c) (k:=j)
  generalize lo++List.replicate j x=PZ at kg Jv
  generalize hi++List.replicate j (0:Int)=hi1 at sM Jw
  generalize fe c j=gs at qE Cf
  generalize l8 A o left c j=A1 at sS F6
  generalize l9 B o right c j=B1 at iO AZ
  repeat' (first|fail|((first|((with_reducible (first|apply oA|apply oB));exact rfl;intro K hK)|(refine hK _ ?_;clear hK K)|((with_reducible (first|apply oG|apply oH));iterate 3 exact rfl)|((with_reducible apply oI);(iterate 2 exact rfl);intro K hK)|(with_reducible (first|apply wI|apply wJ|apply wK)));try simp only [go_sem,simprocAttr,hb,aq,sK,sS,iO,kg,sM,qE])|(show dD _ (.seq (.region 8 _ _) _) _ _;(refine iE hX 10000 4 48 200 rfl rfl rfl (by first|exact .inl rfl|exact .inr rfl) (by decide) (by decide) ?_;simp only [LA.app,ASt.put,ASt.kill,subT,rmk,putM,rml,kl,AV.sub,AV.subs,AObj.sub,List.set_cons_zero,List.set_cons_succ,go_sem,simprocAttr,hb,aq,sK,sS,iO,kg,sM,qE]);(refine iE hX 10000 5 55 201 rfl rfl rfl (by first|exact .inl rfl|exact .inr rfl) (by decide) (by decide) ?_;simp only [LA.app,ASt.put,ASt.kill,subT,rmk,putM,rml,kl,AV.sub,AV.subs,AObj.sub,List.set_cons_zero,List.set_cons_succ,go_sem,simprocAttr,hb,aq,sK,sS,iO,kg,sM,qE]))|(show dD _ (.region 9 _ _) _ _;(refine kI hX 10 65 202 (by simp only [go_sem,simprocAttr,hb,aq,sK,sS,iO,kg,sM,qE]) rfl (by first|exact .inl rfl|exact .inr rfl) (by decide) ?_;simp only [go_sem,simprocAttr,hb,aq,sK,sS,iO,kg,sM,qE]))|(with_reducible (first|apply oC|apply oJ|exact oK|apply wA|apply wB|apply wC hX hC|apply wD hX hC|apply wE hX hC af|apply wF hX hC af|apply wG|apply wH|apply And.intro))|((with_reducible refine oD ?_ ?_);first|fail|kernel_rfl)|((with_reducible (first|apply oE|apply oF));(iterate 3 exact rfl);all_goals (intro h;first|(exact absurd h (by decide))|((try simp only [go_sem,simprocAttr,hb,aq,sK,sS,iO,kg,sM,qE] at h);(try with_reducible intro K hK);simp only [go_sem,simprocAttr,hb,aq,sK,sS,iO,kg,sM,qE])))|((first|((with_reducible apply wL);exact rfl)|((with_reducible apply wM);exact rfl));all_goals (try ((with_reducible intro h);first|(exact absurd h (by decide))|(try simp only [go_sem,simprocAttr,hb,aq,sK,sS,iO,kg,sM,qE] at h))))|omega|((first|fail);try simp only [go_sem,simprocAttr,hb,aq,sK,sS,iO,kg,sM,qE])|(intro h))
  refine ⟨j+1,by omega, ?_,by omega⟩
  rw [F6,AZ,hm2,Jv,Jw,Cf,F7]
  refine Le.of ?_ ?_<;>simp [go_sem,simprocAttr,hb,aq,sK,sS,iO,kg,sM,qE,rI]
 ·have aq:decide ((j:Int)+1<(o.length:Int))=false:=decide_eq_false (by omega)
  have hm2:min (j+1) (o.length - 1)=j:=by omega
  have F7:EC left c o.length (j+1)=EC left c o.length j:=by unfold EC;rw [hm2,sR]
  rw [if_neg hj2] at AZ
  generalize l8 A o left c j=A1 at sS F6
  generalize l9 B o right c j=B1 at iO AZ
  repeat' (first|fail|((first|((with_reducible (first|apply oA|apply oB));exact rfl;intro K hK)|(refine hK _ ?_;clear hK K)|((with_reducible (first|apply oG|apply oH));iterate 3 exact rfl)|((with_reducible apply oI);(iterate 2 exact rfl);intro K hK)|(with_reducible (first|apply wI|apply wJ|apply wK)));try simp only [go_sem,simprocAttr,hb,aq,sK,sS,iO])|fail|(with_reducible (first|apply oC|apply oJ|exact oK|apply wA|apply wB|apply wC hX hC|apply wD hX hC|apply wE hX hC af|apply wF hX hC af|apply wG|apply wH|apply And.intro))|((with_reducible refine oD ?_ ?_);first|fail|kernel_rfl)|((with_reducible (first|apply oE|apply oF));(iterate 3 exact rfl);all_goals (intro h;first|(exact absurd h (by decide))|((try simp only [go_sem,simprocAttr,hb,aq,sK,sS,iO] at h);(try with_reducible intro K hK);simp only [go_sem,simprocAttr,hb,aq,sK,sS,iO])))|((first|((with_reducible apply wL);exact rfl)|((with_reducible apply wM);exact rfl));all_goals (try ((with_reducible intro h);first|(exact absurd h (by decide))|(try simp only [go_sem,simprocAttr,hb,aq,sK,sS,iO] at h))))|omega|((first|fail);try simp only [go_sem,simprocAttr,hb,aq,sK,sS,iO])|(intro h))
  refine ⟨j+1,by omega, ?_,by omega⟩
  rw [F6,AZ,hm2,F7,hlf]
  refine Le.of ?_ ?_<;>simp [go_sem,simprocAttr,hb,aq,sK,sS,iO,rI]
end Go.Ab
end
section
namespace Go.Ab
open Go.Proofs
attribute [local congr] ACall.congr
set_option maxRecDepth 10000
set_option maxHeartbeats 8000000
def k4 (A fs:List Int) (x:Int) (j:Nat):List Int:=jB A fs (fun _=>x) j
theorem oW {A fs:List Int} {x:Int} {j:Nat} :(k4 A fs x j).length=A.length:=fW
theorem iV (l items:List Int) (a b:Nat) (h0:0<(l.take a++items++l.drop b).length) (hr:l.length≤400000) (hi:items.length≤100000):Spec Tryz.prog 54 (Args [.d (.sl 1 [[.sl 1 (List.take a (l.map rI))], [.sl 1 (items.map rI)], [.sl 1 (List.drop b (l.map rI))]])]) [] (.d (sI (l.take a++items++l.drop b))) []:=by
 have hf: [l.take a,items,l.drop b].flatten=l.take a++items++l.drop b:=by simp
 have:=dQ [l.take a,items,l.drop b] (by simp) (by rw [hf];exact h0) (by rw [hf];simp;omega)
 rw [hf] at this
 simpa only [vL,List.map_cons,List.map_nil,sI,List.map_take,List.map_drop] using this
theorem vq (x:Int) (o W G A B lo hi:List Int) (a b:Nat) (hab:a<b) (P3:b<G.length) (P4:b≤W.length) (hG:G.length≤100000) (hW:W.length≤100000) (hf:∀f∈(G.take b).drop (a+1),0≤f∧f<hi.length)
 (ho:o.length≤100000) (hO:∀i∈o,0≤i∧i<A.length) (hB:B.length=A.length) (hlo:lo.length≤100000) (hhi:hi.length≤100000):
 Spec Tryz.prog 56 (Args [.ptr 10000 0,eN x, .d (sI o),eN a,eN b]) (Gy (sI W) (sI G) A B lo hi) (.tup [])
  (Gz (sI (if o= [] then W else W.take a++o++W.drop b)) (sI (G.take (a+1)++fe lo.length (o.length - 1)++G.drop b)) (l8 A o (G.getD a 0) lo.length o.length) (l9 B o (G.getD b 0) lo.length o.length) (lo++List.replicate (o.length - 1) x) (k4 hi ((G.take b).drop (a+1)) x ((G.take b).drop (a+1)).length++List.replicate (o.length - 1) 0)):=by
 have uA:List.drop (a+1) (List.take b (List.map rI G))=((G.take b).drop (a+1)).map rI:=by rw [List.map_drop,List.map_take]
 have hfl:((G.take b).drop (a+1)).length≤100000:=by simp;omega
 generalize (G.take b).drop (a+1)=fs at uA hf hfl ⊢
 have sV:List.take G.length (List.map rI G)=List.map rI G:=List.take_of_length_le (by simp)
 have oe:List.take W.length (List.map rI W)=List.map rI W:=List.take_of_length_le (by simp)
 have hmn:min ((a:Int)+1) (b:Int)=((a+1:Nat):Int):=by omega
 have Db:=ud x (G.getD a 0) (G.getD b 0) o (sI W) (sI G) A B lo (k4 hi fs x fs.length) ho hO hB hlo (by rw [oW];exact hhi)
 have Mj:=iV G (fe lo.length (o.length - 1)) (a+1) b (by simp;omega) (by omega) (by rw [jC];omega)
 have Ng:=fun (h:o≠ [])=>iV W o a b (by have:=List.length_pos_iff.2 h;simp;omega) (by omega) (by omega)
 generalize hg:fe lo.length (o.length - 1)=gs at Db Mj
 unfold Gy Gz at Db ⊢
 (refine Spec.ef (C:=T.cfg [] []) (rs:= []) [(10005,300),(10006,301)] (T.au _ _) Tryz.func56 rfl rfl Tryz.ntmps56 Tryz.results56 (by simp [AObj.isNest]) (by simp [AObj.isNest]) (by first|(simp [look];done)|(simp [asN];done)|(intro l hl;simp only [asN];repeat (rw [if_neg (fun e=>by subst e;simp [look] at hl)]))) (by first|(simp [look];done)|(simp [asN];done)|(intro l hl;simp only [asN];repeat (rw [if_neg (fun e=>by subst e;simp [look] at hl)]))) (by kernel_rfl) ?_;intro X hX hP hC aI aJ vals hA;refine ⟨_,by simp,hA, ?_⟩;have af:X.P.follows .mixedOrders=true:=(by rw [hP];exact T.mixed);clear aI aJ)
 repeat' (first|fail|((first|((with_reducible (first|apply oA|apply oB));exact rfl;intro K hK)|(refine hK _ ?_;clear hK K)|((with_reducible (first|apply oG|apply oH));iterate 3 exact rfl)|((with_reducible apply oI);(iterate 2 exact rfl);intro K hK)|(with_reducible (first|apply wI|apply wJ|apply wK)));try simp only [go_sem,simprocAttr,hmn,uA])|fail|(with_reducible (first|apply oC|apply oJ|exact oK|apply wA|apply wB|apply wC hX hC|apply wD hX hC|apply wE hX hC af|apply wF hX hC af|apply wG|apply wH|apply And.intro))|((with_reducible refine oD ?_ ?_);first|fail|kernel_rfl)|((with_reducible (first|apply oE|apply oF));(iterate 3 exact rfl);all_goals (intro h;first|(exact absurd h (by decide))|((try simp only [go_sem,simprocAttr,hmn,uA] at h);(try with_reducible intro K hK);simp only [go_sem,simprocAttr,hmn,uA])))|((first|((with_reducible apply wL);exact rfl)|((with_reducible apply wM);exact rfl));all_goals (try ((with_reducible intro h);first|(exact absurd h (by decide))|(try simp only [go_sem,simprocAttr,hmn,uA] at h))))|omega|((first|fail);try simp only [go_sem,simprocAttr,hmn,uA])|(intro h))
 refine an (fun j:Nat=>j≤fs.length) (fun j=>⟨[(0, .ptr 10000 0),(1,eN x),(2, .d (sI o)),(3,eN a),(4,eN b),(24, .d (sI fs)),(25,eN fs.length),(26,eN j)], [(10000, .box [.d (sI W), .d (sI G), .ref 10001, .ref 10002, .ref 10003, .ref 10004]),(10001, .own 3 1 (A.map rI)),(10002, .own 3 1 (B.map rI)),(10003, .tip 3 1 (lo.map rI)),(10004, .own 3 1 ((k4 hi fs x j).map rI))]⟩) (fun j=>fs.length - j) 0 (by omega) ?_ ?_
 ·refine Le.of ?_ ?_<;>simp [go_sem,simprocAttr,k4,jB]
 rintro j hj
 rcases Nat.lt_or_ge j fs.length with hjl|JW
 ·have hb:decide ((j:Int)<(fs.length:Int))=true:=decide_eq_true (by omega)
  have hin:=hf _ (bq (d:=0) hjl)
  have sM:=oW (A:=hi) (fs:=fs) (x:=x) (j:=j)
  have J1:k4 hi fs x (j+1)=(k4 hi fs x j).set (fs.getD j 0).toNat x:=rfl
  generalize sK:fs.getD j 0=v at hin J1
  obtain ⟨i,rfl⟩:∃i:Nat,v=i:=⟨v.toNat,by omega⟩
  rw [Int.toNat_natCast] at J1
  generalize k4 hi fs x j=H1 at sM J1
  repeat' (first|fail|((first|((with_reducible (first|apply oA|apply oB));exact rfl;intro K hK)|(refine hK _ ?_;clear hK K)|((with_reducible (first|apply oG|apply oH));iterate 3 exact rfl)|((with_reducible apply oI);(iterate 2 exact rfl);intro K hK)|(with_reducible (first|apply wI|apply wJ|apply wK)));try simp only [go_sem,simprocAttr,hb,sK,sM])|fail|(with_reducible (first|apply oC|apply oJ|exact oK|apply wA|apply wB|apply wC hX hC|apply wD hX hC|apply wE hX hC af|apply wF hX hC af|apply wG|apply wH|apply And.intro))|((with_reducible refine oD ?_ ?_);first|fail|kernel_rfl)|((with_reducible (first|apply oE|apply oF));(iterate 3 exact rfl);all_goals (intro h;first|(exact absurd h (by decide))|((try simp only [go_sem,simprocAttr,hb,sK,sM] at h);(try with_reducible intro K hK);simp only [go_sem,simprocAttr,hb,sK,sM])))|((first|((with_reducible apply wL);exact rfl)|((with_reducible apply wM);exact rfl));all_goals (try ((with_reducible intro h);first|(exact absurd h (by decide))|(try simp only [go_sem,simprocAttr,hb,sK,sM] at h))))|omega|((first|fail);try simp only [go_sem,simprocAttr,hb,sK,sM])|(intro h))
  refine ⟨j+1,by omega, ?_,by omega⟩
  rw [J1]
  refine Le.of ?_ ?_<;>simp [go_sem,simprocAttr,hb,sK,sM,rI]
 have hb:decide ((j:Int)<(fs.length:Int))=false:=decide_eq_false (by omega)
 obtain rfl:j=fs.length:=by omega
 have qd:((a:Int)+1).toNat=a+1:=by omega
 by_cases hne:o= []
 ·have aq:decide ((o.length:Int)=0)=true:=decide_eq_true (by rw [hne];rfl)
  repeat' (first|fail|((first|((with_reducible (first|apply oA|apply oB));exact rfl;intro K hK)|(refine hK _ ?_;clear hK K)|((with_reducible (first|apply oG|apply oH));iterate 3 exact rfl)|((with_reducible apply oI);(iterate 2 exact rfl);intro K hK)|(with_reducible (first|apply wI|apply wJ|apply wK)));try simp only [go_sem,simprocAttr,hb,aq,if_pos hne,qd,sV,oe])|fail|(with_reducible (first|apply oC|apply oJ|exact oK|apply wA|apply wB|apply wC hX hC|apply wD hX hC|apply wE hX hC af|apply wF hX hC af|apply wG|apply wH|apply And.intro))|((with_reducible refine oD ?_ ?_);first|fail|kernel_rfl)|((with_reducible (first|apply oE|apply oF));(iterate 3 exact rfl);all_goals (intro h;first|(exact absurd h (by decide))|((try simp only [go_sem,simprocAttr,hb,aq,if_pos hne,qd,sV,oe] at h);(try with_reducible intro K hK);simp only [go_sem,simprocAttr,hb,aq,if_pos hne,qd,sV,oe])))|((first|((with_reducible apply wL);exact rfl)|((with_reducible apply wM);exact rfl));all_goals (try ((with_reducible intro h);first|(exact absurd h (by decide))|(try simp only [go_sem,simprocAttr,hb,aq,if_pos hne,qd,sV,oe] at h))))|omega|((first|first|(refine aA hX hC hP [(10000,10000),(10001,10001),(10002,10002),(10003,10003),(10004,10004),(10005,300),(10006,301)] (Db) rfl rfl rfl ?_ ?_ ?_ ?_ ?_ ?_ ?_ ?_ ?_ ?_ ?_ ?_ ?_ ?_;(focus (simp only [go_sem,simprocAttr,hb,aq,if_pos hne,qd,sV,oe];done));(iterate 12 (focus (simp [go_sem,simprocAttr,hb,aq,if_pos hne,qd,sV,oe];done)));simp only [go_sem,simprocAttr,hb,aq,if_pos hne,qd,sV,oe,List.map_cons,List.map_nil])|(refine bG hX hC hP (Mj) rfl rfl rfl ?_ ?_ rfl ?_;iterate 2 (focus (simp only [go_sem,simprocAttr,hb,aq,if_pos hne,qd,sV,oe];done)))|(refine bG hX hC hP (Ng hne) rfl rfl rfl ?_ ?_ rfl ?_;iterate 2 (focus (simp only [go_sem,simprocAttr,hb,aq,if_pos hne,qd,sV,oe];done))));try simp only [go_sem,simprocAttr,hb,aq,if_pos hne,qd,sV,oe])|(intro h))
  all_goals (first|rfl|(simp only [go_sem,simprocAttr,hb,aq,if_pos hne,qd,sV,oe];done))
 ·have aq:decide ((o.length:Int)=0)=false:=decide_eq_false (by have:=List.length_pos_iff.2 hne;omega)
  repeat' (first|fail|((first|((with_reducible (first|apply oA|apply oB));exact rfl;intro K hK)|(refine hK _ ?_;clear hK K)|((with_reducible (first|apply oG|apply oH));iterate 3 exact rfl)|((with_reducible apply oI);(iterate 2 exact rfl);intro K hK)|(with_reducible (first|apply wI|apply wJ|apply wK)));try simp only [go_sem,simprocAttr,hb,aq,if_neg hne,qd,sV,oe])|fail|(with_reducible (first|apply oC|apply oJ|exact oK|apply wA|apply wB|apply wC hX hC|apply wD hX hC|apply wE hX hC af|apply wF hX hC af|apply wG|apply wH|apply And.intro))|((with_reducible refine oD ?_ ?_);first|fail|kernel_rfl)|((with_reducible (first|apply oE|apply oF));(iterate 3 exact rfl);all_goals (intro h;first|(exact absurd h (by decide))|((try simp only [go_sem,simprocAttr,hb,aq,if_neg hne,qd,sV,oe] at h);(try with_reducible intro K hK);simp only [go_sem,simprocAttr,hb,aq,if_neg hne,qd,sV,oe])))|((first|((with_reducible apply wL);exact rfl)|((with_reducible apply wM);exact rfl));all_goals (try ((with_reducible intro h);first|(exact absurd h (by decide))|(try simp only [go_sem,simprocAttr,hb,aq,if_neg hne,qd,sV,oe] at h))))|omega|((first|first|(refine aA hX hC hP [(10000,10000),(10001,10001),(10002,10002),(10003,10003),(10004,10004),(10005,300),(10006,301)] (Db) rfl rfl rfl ?_ ?_ ?_ ?_ ?_ ?_ ?_ ?_ ?_ ?_ ?_ ?_ ?_ ?_;(focus (simp only [go_sem,simprocAttr,hb,aq,if_neg hne,qd,sV,oe];done));(iterate 12 (focus (simp [go_sem,simprocAttr,hb,aq,if_neg hne,qd,sV,oe];done)));simp only [go_sem,simprocAttr,hb,aq,if_neg hne,qd,sV,oe,List.map_cons,List.map_nil])|(refine bG hX hC hP (Mj) rfl rfl rfl ?_ ?_ rfl ?_;iterate 2 (focus (simp only [go_sem,simprocAttr,hb,aq,if_neg hne,qd,sV,oe];done)))|(refine bG hX hC hP (Ng hne) rfl rfl rfl ?_ ?_ rfl ?_;iterate 2 (focus (simp only [go_sem,simprocAttr,hb,aq,if_neg hne,qd,sV,oe];done))));try simp only [go_sem,simprocAttr,hb,aq,if_neg hne,qd,sV,oe])|(intro h))
  all_goals (first|rfl|(simp only [go_sem,simprocAttr,hb,aq,if_neg hne,qd,sV,oe];done))
end Go.Ab
end
