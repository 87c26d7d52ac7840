/- A part of the proof. -/
import Derived.Test.YtjmaiddbinlooaaGreatL2P14
set_option linter.unusedSimpArgs false
set_option linter.unusedVariables false
section
namespace Go.Ab
open Go.Proofs
attribute [local congr] ACall.congr
set_option maxRecDepth 10000
set_option maxHeartbeats 8000000
def mT (m:Nat) (fl:List Int):List Int:=(List.range m).map fun i:Nat=>if (i:Int)∈fl then (1:Int) else 0
theorem xd {m:Nat} {fl:List Int} :(mT m fl).length=m:=by simp [mT]
theorem AA {m:Nat} :mT m []=List.replicate m 0:=by
 refine List.ext_getElem (by simp [mT]) fun i h1 h2=> ?_
 simp [mT]
theorem y8 {m:Nat} {fl:List Int} {i:Nat} (h:i<m):(mT m fl).getD i 0=if (i:Int)∈fl then 1 else 0:=by
 simp [mT,List.getD_eq_getElem?_getD,List.getElem?_range h]
theorem CD {m:Nat} {fl:List Int} {i:Nat} (h:i<m):(mT m fl).set i 1=mT m (fl++ [(i:Int)]):=by
 refine List.ext_getElem (by simp [mT]) fun j h1 h2=> ?_
 rw [List.getElem_set]
 simp only [mT,List.getElem_map,List.getElem_range,List.mem_append,List.mem_singleton]
 by_cases e:i=j
 ·subst e;simp
 ·rw [if_neg e]
  have:¬(j:Int)=(i:Int):=by omega
  simp [this]
theorem CE {outs:List (List Int)} {x k:Nat} (hx:x<outs.length):((outs.take x).flatten++(outs.getD x []).take k).Sublist outs.flatten:=by
 have e:outs=outs.take x++outs.getD x []::outs.drop (x+1):=by
  conv=>lhs;rw [← List.take_append_drop x outs]
  congr 1
  rw [List.drop_eq_getElem_cons hx,List.getD_eq_getElem?_getD,List.getElem?_eq_getElem hx]
  rfl
 conv=>rhs;rw [e]
 rw [List.flatten_append,List.flatten_cons]
 exact List.Sublist.append (List.Sublist.refl _) ((List.take_sublist _ _).trans (List.sublist_append_left _ _))
theorem yh {l:List Int} {k:Nat} (h:k<l.length):l.take (k+1)=l.take k++ [l.getD k 0]:=by
 rw [List.take_add_one,List.getD_eq_getElem?_getD,List.getElem?_eq_getElem h];rfl
theorem nW {g:Gr} {x i:Int} :i∈bt g x↔(0≤i∧i<g.es.length)∧(g.es.getD i.toNat (0,0)).1=x:=by
 constructor
 ·exact gV
 ·rintro ⟨⟨h1,h2⟩,h3⟩
  simp only [bt,bf,List.mem_map,List.mem_filter,List.mem_range,decide_eq_true_eq]
  exact ⟨i.toNat,⟨by omega,h3⟩,by simp;omega⟩
theorem CF (g:Gr) (hl:g.es.length≤9223372036854775807) (p:Pl) (hp:pO p) (res:Bool) (hr:res=true↔(cg g).1=0∧bF g p):Spec Tryz.prog 117 (Args [eG g,ePl p]) [] (eB res) []:=by
 have ho:p.ord.length≤9223372036854775807:=by have:=hp.ord;omega
 have Gs:=hp.outs
 by_cases hc:(cg g).1=0
 rotate_left
 ·have hres:res=false:=by
   rw [← Bool.not_eq_true,hr]
   rintro ⟨h,_⟩
   exact hc h
  subst hres
  have aj:decide ((cg g).1=0)=false:=decide_eq_false hc
  (refine Spec.intro (C:=T.cfg [] []) (rs:= [.t 4]) (T.aq _ _) Tryz.func117 rfl rfl Tryz.ntmps117 Tryz.results117 (by simp [AObj.isNest]) (by simp [AObj.isNest]) (by kernel_rfl) ?_;intro X hX hP hC aM aN vals hA;refine ⟨_,by simp,hA, ?_⟩;have af:X.P.follows .mixedOrders=true:=(by rw [hP];exact T.mixed);clear aM aN)
  repeat' (first|fail|((first|((with_reducible (first|apply oA|apply oB));exact rfl;intro K hK)|(refine hK _ ?_;clear hK K)|((with_reducible (first|apply oG|apply oH));iterate 3 exact rfl)|((with_reducible apply oI);(iterate 2 exact rfl);intro K hK)|(with_reducible (first|apply wI|apply wJ|apply wK)));try simp only [go_sem,simprocAttr,aj])|fail|(with_reducible (first|apply oC|apply oJ|exact oK|apply wA|apply wB|apply wC hX hC|apply wD hX hC|apply wE hX hC af|apply wF hX hC af|apply wG|apply wH|apply And.intro))|((with_reducible refine oD ?_ ?_);first|fail|kernel_rfl)|((with_reducible (first|apply oE|apply oF));(iterate 3 exact rfl);all_goals (intro h;first|(exact absurd h (by decide))|((try simp only [go_sem,simprocAttr,aj] at h);(try with_reducible intro K hK);simp only [go_sem,simprocAttr,aj])))|((first|((with_reducible apply wL);exact rfl)|((with_reducible apply wM);exact rfl));all_goals (try ((with_reducible intro h);first|(exact absurd h (by decide))|(try simp only [go_sem,simprocAttr,aj] at h))))|omega|((first|first|refine aa hX hC hP (aP g hl) rfl rfl rfl (by simp only [go_sem,simprocAttr,aj]) rfl ?_);try simp only [go_sem,simprocAttr,aj])|(intro h))
 have aj:decide ((cg g).1=0)=true:=decide_eq_true hc
 have hm:=aG hc
 have hn:=aY hm
 have hr:res=true↔bF g p:=by rw [hr];exact ⟨fun h=>h.2,fun h=>⟨hc,h⟩⟩
 rw [← y6 hm] at hr
 by_cases he:fN p.ord g.n=true∧p.outs.length=g.n.toNat
 rotate_left
 ·have hres:res=false:=by
   rw [← Bool.not_eq_true,hr]
   rintro ⟨h2,h3,_⟩
   exact he ⟨h2,h3⟩
  subst hres
  cases h2:fN p.ord g.n with
  |false=>
   (refine Spec.intro (C:=T.cfg [] []) (rs:= [.t 4]) (T.aq _ _) Tryz.func117 rfl rfl Tryz.ntmps117 Tryz.results117 (by simp [AObj.isNest]) (by simp [AObj.isNest]) (by kernel_rfl) ?_;intro X hX hP hC aM aN vals hA;refine ⟨_,by simp,hA, ?_⟩;have af:X.P.follows .mixedOrders=true:=(by rw [hP];exact T.mixed);clear aM aN)
   repeat' (first|fail|((first|((with_reducible (first|apply oA|apply oB));exact rfl;intro K hK)|(refine hK _ ?_;clear hK K)|((with_reducible (first|apply oG|apply oH));iterate 3 exact rfl)|((with_reducible apply oI);(iterate 2 exact rfl);intro K hK)|(with_reducible (first|apply wI|apply wJ|apply wK)));try simp only [go_sem,simprocAttr,aj,h2])|fail|(with_reducible (first|apply oC|apply oJ|exact oK|apply wA|apply wB|apply wC hX hC|apply wD hX hC|apply wE hX hC af|apply wF hX hC af|apply wG|apply wH|apply And.intro))|((with_reducible refine oD ?_ ?_);first|fail|kernel_rfl)|((with_reducible (first|apply oE|apply oF));(iterate 3 exact rfl);all_goals (intro h;first|(exact absurd h (by decide))|((try simp only [go_sem,simprocAttr,aj,h2] at h);(try with_reducible intro K hK);simp only [go_sem,simprocAttr,aj,h2])))|((first|((with_reducible apply wL);exact rfl)|((with_reducible apply wM);exact rfl));all_goals (try ((with_reducible intro h);first|(exact absurd h (by decide))|(try simp only [go_sem,simprocAttr,aj,h2] at h))))|omega|((first|first|refine aa hX hC hP (aP g hl) rfl rfl rfl (by simp only [go_sem,simprocAttr,aj,h2]) rfl ?_|refine aa hX hC hP (b9 p.ord g.n ho) rfl rfl rfl (by simp only [go_sem,simprocAttr,aj,h2]) rfl ?_);try simp only [go_sem,simprocAttr,aj,h2])|(intro h))
  |true=>
   have ak:decide ((p.outs.length:Int)=g.n)=false:=decide_eq_false fun h3=>he ⟨h2,by omega⟩
   (refine Spec.intro (C:=T.cfg [] []) (rs:= [.t 4]) (T.aq _ _) Tryz.func117 rfl rfl Tryz.ntmps117 Tryz.results117 (by simp [AObj.isNest]) (by simp [AObj.isNest]) (by kernel_rfl) ?_;intro X hX hP hC aM aN vals hA;refine ⟨_,by simp,hA, ?_⟩;have af:X.P.follows .mixedOrders=true:=(by rw [hP];exact T.mixed);clear aM aN)
   repeat' (first|fail|((first|((with_reducible (first|apply oA|apply oB));exact rfl;intro K hK)|(refine hK _ ?_;clear hK K)|((with_reducible (first|apply oG|apply oH));iterate 3 exact rfl)|((with_reducible apply oI);(iterate 2 exact rfl);intro K hK)|(with_reducible (first|apply wI|apply wJ|apply wK)));try simp only [go_sem,simprocAttr,aj,h2,ak])|fail|(with_reducible (first|apply oC|apply oJ|exact oK|apply wA|apply wB|apply wC hX hC|apply wD hX hC|apply wE hX hC af|apply wF hX hC af|apply wG|apply wH|apply And.intro))|((with_reducible refine oD ?_ ?_);first|fail|kernel_rfl)|((with_reducible (first|apply oE|apply oF));(iterate 3 exact rfl);all_goals (intro h;first|(exact absurd h (by decide))|((try simp only [go_sem,simprocAttr,aj,h2,ak] at h);(try with_reducible intro K hK);simp only [go_sem,simprocAttr,aj,h2,ak])))|((first|((with_reducible apply wL);exact rfl)|((with_reducible apply wM);exact rfl));all_goals (try ((with_reducible intro h);first|(exact absurd h (by decide))|(try simp only [go_sem,simprocAttr,aj,h2,ak] at h))))|omega|((first|first|refine aa hX hC hP (aP g hl) rfl rfl rfl (by simp only [go_sem,simprocAttr,aj,h2,ak]) rfl ?_|refine aa hX hC hP (b9 p.ord g.n ho) rfl rfl rfl (by simp only [go_sem,simprocAttr,aj,h2,ak]) rfl ?_);try simp only [go_sem,simprocAttr,aj,h2,ak])|(intro h))
 obtain ⟨nq,vp⟩:=he
 have ak:decide ((p.outs.length:Int)=g.n)=true:=decide_eq_true (by omega)
 (refine Spec.intro (C:=T.cfg [] []) (rs:= [.t 4]) (T.aq _ _) Tryz.func117 rfl rfl Tryz.ntmps117 Tryz.results117 (by simp [AObj.isNest]) (by simp [AObj.isNest]) (by kernel_rfl) ?_;intro X hX hP hC aM aN vals hA;refine ⟨_,by simp,hA, ?_⟩;have af:X.P.follows .mixedOrders=true:=(by rw [hP];exact T.mixed);clear aM aN)
 repeat' (first|fail|((first|((with_reducible (first|apply oA|apply oB));exact rfl;intro K hK)|(refine hK _ ?_;clear hK K)|((with_reducible (first|apply oG|apply oH));iterate 3 exact rfl)|((with_reducible apply oI);(iterate 2 exact rfl);intro K hK)|(with_reducible (first|apply wI|apply wJ|apply wK)));try simp only [go_sem,simprocAttr,aj,nq,ak])|fail|(with_reducible (first|apply oC|apply oJ|exact oK|apply wA|apply wB|apply wC hX hC|apply wD hX hC|apply wE hX hC af|apply wF hX hC af|apply wG|apply wH|apply And.intro))|((with_reducible refine oD ?_ ?_);first|fail|kernel_rfl)|((with_reducible (first|apply oE|apply oF));(iterate 3 exact rfl);all_goals (intro h;first|(exact absurd h (by decide))|((try simp only [go_sem,simprocAttr,aj,nq,ak] at h);(try with_reducible intro K hK);simp only [go_sem,simprocAttr,aj,nq,ak])))|((first|((with_reducible apply wL);exact rfl)|((with_reducible apply wM);exact rfl));all_goals (try ((with_reducible intro h);first|(exact absurd h (by decide))|(try simp only [go_sem,simprocAttr,aj,nq,ak] at h))))|omega|((first|first|refine aa hX hC hP (aP g hl) rfl rfl rfl (by simp only [go_sem,simprocAttr,aj,nq,ak]) rfl ?_|refine aa hX hC hP (b9 p.ord g.n ho) rfl rfl rfl (by simp only [go_sem,simprocAttr,aj,nq,ak]) rfl ?_);try simp only [go_sem,simprocAttr,aj,nq,ak])|(intro h))
 clear aj ak
 have sS:List.replicate g.es.length [D.sc (.int .i64 0)]=(mT g.es.length []).map rI:=by rw [AA,List.map_replicate];rfl
 rw [sS]
 clear sS
 refine an (fun x:Nat=>x≤p.outs.length∧(p.outs.take x).flatten.Nodup∧∀y:Nat,y<x→∀i∈p.outs.getD y [],i∈bt g y) (fun x=>⟨[(2, .ptr 2 0),(3, .ptr 3 0),(5, .ref 32),(6,eN x)], [(32, .own 3 1 ((mT g.es.length (p.outs.take x).flatten).map rI)),(3, .box [.d (sI p.ord), .d (.sl 1 (vI p.outs))]),(2, .box [eN g.n, .d (sE g.es)])]⟩) (fun x=>p.outs.length - x) 0 (by simp) ?_ ?_
 ·refine Le.of ?_ ?_<;>simp [go_sem,simprocAttr]
 rintro x ⟨hx,bT,u7⟩
 rcases Nat.lt_or_ge x p.outs.length with hxl|Dj
 ·have hb:decide ((x:Int)<(p.outs.length:Int))=true:=decide_eq_true (by omega)
  have hv:=j7 hxl
  have hle:=hp.each _ (aT (d:= []) hxl)
  have hpre:=fun k=>CE (k:=k) hxl
  have hnext:(p.outs.take (x+1)).flatten=(p.outs.take x).flatten++p.outs.getD x []:=by
   rw [List.take_add_one,List.flatten_append,List.getD_eq_getElem?_getD,List.getElem?_eq_getElem hxl];simp
  have jd:∀i∈p.outs.getD x [],i∉bt g x→res=false:=fun i hi hn=>by
   rw [← Bool.not_eq_true,hr]
   rintro ⟨_,_,h3,_⟩
   exact hn (h3 x hxl i hi)
  have vo:∀k,¬((p.outs.take x).flatten++(p.outs.getD x []).take k).Nodup→res=false:=fun k hn=>by
   rw [← Bool.not_eq_true,hr]
   rintro ⟨_,_,_,h4,_⟩
   exact hn (List.Nodup.sublist (hpre k) h4)
  have BR:(∀i∈p.outs.getD x [],i∈bt g x)→∀y:Nat,y<x+1→∀i∈p.outs.getD y [],i∈bt g y:=fun h y hy=>by
   by_cases e:y=x
   ·subst e;exact h
   ·exact u7 y (by omega)
  generalize p.outs.getD x []=l at hv hle hpre hnext jd vo BR
  generalize (p.outs.take x).flatten=fl at bT hpre hnext vo
  clear hpre
  repeat' (first|fail|((first|((with_reducible (first|apply oA|apply oB));exact rfl;intro K hK)|(refine hK _ ?_;clear hK K)|((with_reducible (first|apply oG|apply oH));iterate 3 exact rfl)|((with_reducible apply oI);(iterate 2 exact rfl);intro K hK)|(with_reducible (first|apply wI|apply wJ|apply wK)));try simp only [go_sem,simprocAttr,hb,hv])|fail|(with_reducible (first|apply oC|apply oJ|exact oK|apply wA|apply wB|apply wC hX hC|apply wD hX hC|apply wE hX hC af|apply wF hX hC af|apply wG|apply wH|apply And.intro))|((with_reducible refine oD ?_ ?_);first|fail|kernel_rfl)|((with_reducible (first|apply oE|apply oF));(iterate 3 exact rfl);all_goals (intro h;first|(exact absurd h (by decide))|((try simp only [go_sem,simprocAttr,hb,hv] at h);(try with_reducible intro K hK);simp only [go_sem,simprocAttr,hb,hv])))|((first|((with_reducible apply wL);exact rfl)|((with_reducible apply wM);exact rfl));all_goals (try ((with_reducible intro h);first|(exact absurd h (by decide))|(try simp only [go_sem,simprocAttr,hb,hv] at h))))|omega|((first|first|refine aa hX hC hP (aP g hl) rfl rfl rfl (by simp only [go_sem,simprocAttr,hb,hv]) rfl ?_|refine aa hX hC hP (b9 p.ord g.n ho) rfl rfl rfl (by simp only [go_sem,simprocAttr,hb,hv]) rfl ?_);try simp only [go_sem,simprocAttr,hb,hv])|(intro h))
  clear hb
  refine an (fun k:Nat=>k≤l.length∧(fl++l.take k).Nodup∧∀i∈l.take k,i∈bt g x) (fun k=>⟨[(2, .ptr 2 0),(3, .ptr 3 0),(5, .ref 32),(6,eN x),(7,eN k)], [(32, .own 3 1 ((mT g.es.length (fl++l.take k)).map rI)),(3, .box [.d (sI p.ord), .d (.sl 1 (vI p.outs))]),(2, .box [eN g.n, .d (sE g.es)])]⟩) (fun k=>l.length - k) 0 (by simpa using bT) ?_ ?_
  ·refine Le.of ?_ ?_<;>simp [go_sem,simprocAttr]
  rintro k ⟨hk,zR,Gf⟩
  rcases Nat.lt_or_ge k l.length with cw|Ev
  ·have cm:decide ((k:Int)<(l.length:Int))=true:=decide_eq_true (by omega)
   have wU:=yh cw
   have him:=aT (d:=0) cw
   have dD:=xd (m:=g.es.length) (fl:=fl++l.take k)
   generalize hi:l.getD k 0=i at wU him
   by_cases h0:i<0
   ·have hres:=jd i him (fun h=>by have:=(nW.1 h).1;omega)
    subst hres
    have aj:decide (i<0)=true:=decide_eq_true h0
    repeat' (first|fail|((first|((with_reducible (first|apply oA|apply oB));exact rfl;intro K hK)|(refine hK _ ?_;clear hK K)|((with_reducible (first|apply oG|apply oH));iterate 3 exact rfl)|((with_reducible apply oI);(iterate 2 exact rfl);intro K hK)|(with_reducible (first|apply wI|apply wJ|apply wK)));try simp only [go_sem,simprocAttr,cm,hv,hi,aj])|fail|(with_reducible (first|apply oC|apply oJ|exact oK|apply wA|apply wB|apply wC hX hC|apply wD hX hC|apply wE hX hC af|apply wF hX hC af|apply wG|apply wH|apply And.intro))|((with_reducible refine oD ?_ ?_);first|fail|kernel_rfl)|((with_reducible (first|apply oE|apply oF));(iterate 3 exact rfl);all_goals (intro h;first|(exact absurd h (by decide))|((try simp only [go_sem,simprocAttr,cm,hv,hi,aj] at h);(try with_reducible intro K hK);simp only [go_sem,simprocAttr,cm,hv,hi,aj])))|((first|((with_reducible apply wL);exact rfl)|((with_reducible apply wM);exact rfl));all_goals (try ((with_reducible intro h);first|(exact absurd h (by decide))|(try simp only [go_sem,simprocAttr,cm,hv,hi,aj] at h))))|omega|((first|first|refine aa hX hC hP (aP g hl) rfl rfl rfl (by simp only [go_sem,simprocAttr,cm,hv,hi,aj]) rfl ?_|refine aa hX hC hP (b9 p.ord g.n ho) rfl rfl rfl (by simp only [go_sem,simprocAttr,cm,hv,hi,aj]) rfl ?_);try simp only [go_sem,simprocAttr,cm,hv,hi,aj])|(intro h))
   have aj:decide (i<0)=false:=decide_eq_false h0
   by_cases h1:(g.es.length:Int)≤i
   ·have hres:=jd i him (fun h=>by have:=(nW.1 h).1;omega)
    subst hres
    have ak:decide ((g.es.length:Int)≤i)=true:=decide_eq_true h1
    repeat' (first|fail|((first|((with_reducible (first|apply oA|apply oB));exact rfl;intro K hK)|(refine hK _ ?_;clear hK K)|((with_reducible (first|apply oG|apply oH));iterate 3 exact rfl)|((with_reducible apply oI);(iterate 2 exact rfl);intro K hK)|(with_reducible (first|apply wI|apply wJ|apply wK)));try simp only [go_sem,simprocAttr,cm,hv,hi,aj,ak,dD])|fail|(with_reducible (first|apply oC|apply oJ|exact oK|apply wA|apply wB|apply wC hX hC|apply wD hX hC|apply wE hX hC af|apply wF hX hC af|apply wG|apply wH|apply And.intro))|((with_reducible refine oD ?_ ?_);first|fail|kernel_rfl)|((with_reducible (first|apply oE|apply oF));(iterate 3 exact rfl);all_goals (intro h;first|(exact absurd h (by decide))|((try simp only [go_sem,simprocAttr,cm,hv,hi,aj,ak,dD] at h);(try with_reducible intro K hK);simp only [go_sem,simprocAttr,cm,hv,hi,aj,ak,dD])))|((first|((with_reducible apply wL);exact rfl)|((with_reducible apply wM);exact rfl));all_goals (try ((with_reducible intro h);first|(exact absurd h (by decide))|(try simp only [go_sem,simprocAttr,cm,hv,hi,aj,ak,dD] at h))))|omega|((first|first|refine aa hX hC hP (aP g hl) rfl rfl rfl (by simp only [go_sem,simprocAttr,cm,hv,hi,aj,ak,dD]) rfl ?_|refine aa hX hC hP (b9 p.ord g.n ho) rfl rfl rfl (by simp only [go_sem,simprocAttr,cm,hv,hi,aj,ak,dD]) rfl ?_);try simp only [go_sem,simprocAttr,cm,hv,hi,aj,ak,dD])|(intro h))
   have ak:decide ((g.es.length:Int)≤i)=false:=decide_eq_false h1
   obtain ⟨e,rfl⟩:∃e:Nat,i=e:=⟨i.toNat,by omega⟩
   have hel:e<g.es.length:=by omega
   by_cases h2:(g.es.getD e (0,0)).1=x
   rotate_left
   ·have hres:=jd _ him (fun h=>h2 (by have:=(nW.1 h).2;rwa [Int.toNat_natCast] at this))
    subst hres
    have aX:decide ((g.es.getD e (0,0)).1=(x:Int))=false:=decide_eq_false h2
    repeat' (first|fail|((first|((with_reducible (first|apply oA|apply oB));exact rfl;intro K hK)|(refine hK _ ?_;clear hK K)|((with_reducible (first|apply oG|apply oH));iterate 3 exact rfl)|((with_reducible apply oI);(iterate 2 exact rfl);intro K hK)|(with_reducible (first|apply wI|apply wJ|apply wK)));try simp only [go_sem,simprocAttr,cm,hv,hi,aj,ak,aX,dD])|fail|(with_reducible (first|apply oC|apply oJ|exact oK|apply wA|apply wB|apply wC hX hC|apply wD hX hC|apply wE hX hC af|apply wF hX hC af|apply wG|apply wH|apply And.intro))|((with_reducible refine oD ?_ ?_);first|fail|kernel_rfl)|((with_reducible (first|apply oE|apply oF));(iterate 3 exact rfl);all_goals (intro h;first|(exact absurd h (by decide))|((try simp only [go_sem,simprocAttr,cm,hv,hi,aj,ak,aX,dD] at h);(try with_reducible intro K hK);simp only [go_sem,simprocAttr,cm,hv,hi,aj,ak,aX,dD])))|((first|((with_reducible apply wL);exact rfl)|((with_reducible apply wM);exact rfl));all_goals (try ((with_reducible intro h);first|(exact absurd h (by decide))|(try simp only [go_sem,simprocAttr,cm,hv,hi,aj,ak,aX,dD] at h))))|omega|((first|first|refine aa hX hC hP (aP g hl) rfl rfl rfl (by simp only [go_sem,simprocAttr,cm,hv,hi,aj,ak,aX,dD]) rfl ?_|refine aa hX hC hP (b9 p.ord g.n ho) rfl rfl rfl (by simp only [go_sem,simprocAttr,cm,hv,hi,aj,ak,aX,dD]) rfl ?_);try simp only [go_sem,simprocAttr,cm,hv,hi,aj,ak,aX,dD])|(intro h))
   have aX:decide ((g.es.getD e (0,0)).1=(x:Int))=true:=decide_eq_true h2
   have k6:=y8 (fl:=fl++l.take k) hel
   by_cases h3:(e:Int)∈fl++l.take k
   ·have hres:=vo (k+1) (fun h=>by
     rw [wU, ← List.append_assoc,List.nodup_append] at h
     exact h.2.2 _ h3 _ (List.mem_singleton.2 rfl) rfl)
    subst hres
    rw [if_pos h3] at k6
    repeat' (first|fail|((first|((with_reducible (first|apply oA|apply oB));exact rfl;intro K hK)|(refine hK _ ?_;clear hK K)|((with_reducible (first|apply oG|apply oH));iterate 3 exact rfl)|((with_reducible apply oI);(iterate 2 exact rfl);intro K hK)|(with_reducible (first|apply wI|apply wJ|apply wK)));try simp only [go_sem,simprocAttr,cm,hv,hi,aj,ak,aX,dD,k6])|fail|(with_reducible (first|apply oC|apply oJ|exact oK|apply wA|apply wB|apply wC hX hC|apply wD hX hC|apply wE hX hC af|apply wF hX hC af|apply wG|apply wH|apply And.intro))|((with_reducible refine oD ?_ ?_);first|fail|kernel_rfl)|((with_reducible (first|apply oE|apply oF));(iterate 3 exact rfl);all_goals (intro h;first|(exact absurd h (by decide))|((try simp only [go_sem,simprocAttr,cm,hv,hi,aj,ak,aX,dD,k6] at h);(try with_reducible intro K hK);simp only [go_sem,simprocAttr,cm,hv,hi,aj,ak,aX,dD,k6])))|((first|((with_reducible apply wL);exact rfl)|((with_reducible apply wM);exact rfl));all_goals (try ((with_reducible intro h);first|(exact absurd h (by decide))|(try simp only [go_sem,simprocAttr,cm,hv,hi,aj,ak,aX,dD,k6] at h))))|omega|((first|first|refine aa hX hC hP (aP g hl) rfl rfl rfl (by simp only [go_sem,simprocAttr,cm,hv,hi,aj,ak,aX,dD,k6]) rfl ?_|refine aa hX hC hP (b9 p.ord g.n ho) rfl rfl rfl (by simp only [go_sem,simprocAttr,cm,hv,hi,aj,ak,aX,dD,k6]) rfl ?_);try simp only [go_sem,simprocAttr,cm,hv,hi,aj,ak,aX,dD,k6])|(intro h))
   ·rw [if_neg h3] at k6
    have cl:=CD (fl:=fl++l.take k) hel
    rw [List.append_assoc, ← wU] at cl
    repeat' (first|fail|((first|((with_reducible (first|apply oA|apply oB));exact rfl;intro K hK)|(refine hK _ ?_;clear hK K)|((with_reducible (first|apply oG|apply oH));iterate 3 exact rfl)|((with_reducible apply oI);(iterate 2 exact rfl);intro K hK)|(with_reducible (first|apply wI|apply wJ|apply wK)));try simp only [go_sem,simprocAttr,cm,hv,hi,aj,ak,aX,dD,k6])|fail|(with_reducible (first|apply oC|apply oJ|exact oK|apply wA|apply wB|apply wC hX hC|apply wD hX hC|apply wE hX hC af|apply wF hX hC af|apply wG|apply wH|apply And.intro))|((with_reducible refine oD ?_ ?_);first|fail|kernel_rfl)|((with_reducible (first|apply oE|apply oF));(iterate 3 exact rfl);all_goals (intro h;first|(exact absurd h (by decide))|((try simp only [go_sem,simprocAttr,cm,hv,hi,aj,ak,aX,dD,k6] at h);(try with_reducible intro K hK);simp only [go_sem,simprocAttr,cm,hv,hi,aj,ak,aX,dD,k6])))|((first|((with_reducible apply wL);exact rfl)|((with_reducible apply wM);exact rfl));all_goals (try ((with_reducible intro h);first|(exact absurd h (by decide))|(try simp only [go_sem,simprocAttr,cm,hv,hi,aj,ak,aX,dD,k6] at h))))|omega|((first|first|refine aa hX hC hP (aP g hl) rfl rfl rfl (by simp only [go_sem,simprocAttr,cm,hv,hi,aj,ak,aX,dD,k6]) rfl ?_|refine aa hX hC hP (b9 p.ord g.n ho) rfl rfl rfl (by simp only [go_sem,simprocAttr,cm,hv,hi,aj,ak,aX,dD,k6]) rfl ?_);try simp only [go_sem,simprocAttr,cm,hv,hi,aj,ak,aX,dD,k6])|(intro h))
    refine ⟨k+1,⟨by omega, ?_, ?_⟩, ?_,by omega⟩
    ·rw [wU, ← List.append_assoc,List.nodup_append]
     exact ⟨zR,by simp,fun a ha b hb h=>h3 (by rw [List.mem_singleton] at hb;rw [← hb, ← h];exact ha)⟩
    ·intro j hj
     rw [wU,List.mem_append,List.mem_singleton] at hj
     rcases hj with hj|rfl
     ·exact Gf j hj
     ·exact nW.2 ⟨⟨by omega,by omega⟩,by rw [Int.toNat_natCast];exact h2⟩
    ·rw [← cl]
     refine Le.of ?_ ?_<;>simp [go_sem,simprocAttr,cm,hv,hi,aj,ak,aX,dD,k6,rI]
  ·have cm:decide ((k:Int)<(l.length:Int))=false:=decide_eq_false (by omega)
   obtain rfl:k=l.length:=by omega
   rw [List.take_length] at zR Gf
   repeat' (first|fail|((first|((with_reducible (first|apply oA|apply oB));exact rfl;intro K hK)|(refine hK _ ?_;clear hK K)|((with_reducible (first|apply oG|apply oH));iterate 3 exact rfl)|((with_reducible apply oI);(iterate 2 exact rfl);intro K hK)|(with_reducible (first|apply wI|apply wJ|apply wK)));try simp only [go_sem,simprocAttr,cm,hv])|fail|(with_reducible (first|apply oC|apply oJ|exact oK|apply wA|apply wB|apply wC hX hC|apply wD hX hC|apply wE hX hC af|apply wF hX hC af|apply wG|apply wH|apply And.intro))|((with_reducible refine oD ?_ ?_);first|fail|kernel_rfl)|((with_reducible (first|apply oE|apply oF));(iterate 3 exact rfl);all_goals (intro h;first|(exact absurd h (by decide))|((try simp only [go_sem,simprocAttr,cm,hv] at h);(try with_reducible intro K hK);simp only [go_sem,simprocAttr,cm,hv])))|((first|((with_reducible apply wL);exact rfl)|((with_reducible apply wM);exact rfl));all_goals (try ((with_reducible intro h);first|(exact absurd h (by decide))|(try simp only [go_sem,simprocAttr,cm,hv] at h))))|omega|((first|first|refine aa hX hC hP (aP g hl) rfl rfl rfl (by simp only [go_sem,simprocAttr,cm,hv]) rfl ?_|refine aa hX hC hP (b9 p.ord g.n ho) rfl rfl rfl (by simp only [go_sem,simprocAttr,cm,hv]) rfl ?_);try simp only [go_sem,simprocAttr,cm,hv])|(intro h))
   refine ⟨x+1,⟨by omega,by rw [hnext];exact zR,BR Gf⟩, ?_,by omega⟩
   rw [hnext]
   refine Le.of ?_ ?_<;>simp [go_sem,simprocAttr,cm,hv]
 have hb:decide ((x:Int)<(p.outs.length:Int))=false:=decide_eq_false (by omega)
 obtain rfl:x=p.outs.length:=by omega
 rw [List.take_length] at bT
 rw [List.take_length]
 have dD:=xd (m:=g.es.length) (fl:=p.outs.flatten)
 repeat' (first|fail|((first|((with_reducible (first|apply oA|apply oB));exact rfl;intro K hK)|(refine hK _ ?_;clear hK K)|((with_reducible (first|apply oG|apply oH));iterate 3 exact rfl)|((with_reducible apply oI);(iterate 2 exact rfl);intro K hK)|(with_reducible (first|apply wI|apply wJ|apply wK)));try simp only [go_sem,simprocAttr,hb])|fail|(with_reducible (first|apply oC|apply oJ|exact oK|apply wA|apply wB|apply wC hX hC|apply wD hX hC|apply wE hX hC af|apply wF hX hC af|apply wG|apply wH|apply And.intro))|((with_reducible refine oD ?_ ?_);first|fail|kernel_rfl)|((with_reducible (first|apply oE|apply oF));(iterate 3 exact rfl);all_goals (intro h;first|(exact absurd h (by decide))|((try simp only [go_sem,simprocAttr,hb] at h);(try with_reducible intro K hK);simp only [go_sem,simprocAttr,hb])))|((first|((with_reducible apply wL);exact rfl)|((with_reducible apply wM);exact rfl));all_goals (try ((with_reducible intro h);first|(exact absurd h (by decide))|(try simp only [go_sem,simprocAttr,hb] at h))))|omega|((first|first|refine aa hX hC hP (aP g hl) rfl rfl rfl (by simp only [go_sem,simprocAttr,hb]) rfl ?_|refine aa hX hC hP (b9 p.ord g.n ho) rfl rfl rfl (by simp only [go_sem,simprocAttr,hb]) rfl ?_);try simp only [go_sem,simprocAttr,hb])|(intro h))
 clear hb
 refine an (fun k:Nat=>k≤g.es.length∧∀i:Nat,i<k→(i:Int)∈p.outs.flatten) (fun k=>⟨[(5, .ref 32),(9,eN k)], [(32, .own 3 1 ((mT g.es.length p.outs.flatten).map rI))]⟩) (fun k=>g.es.length - k) 0 (by simp) ?_ ?_
 ·refine Le.of ?_ ?_<;>simp [go_sem,simprocAttr]
 rintro k ⟨hk,Gf⟩
 rcases Nat.lt_or_ge k g.es.length with cw|Ev
 ·have cm:decide ((k:Int)<(g.es.length:Int))=true:=decide_eq_true (by omega)
  have k6:=y8 (fl:=p.outs.flatten) cw
  by_cases h3:(k:Int)∈p.outs.flatten
  ·rw [if_pos h3] at k6
   repeat' (first|fail|((first|((with_reducible (first|apply oA|apply oB));exact rfl;intro K hK)|(refine hK _ ?_;clear hK K)|((with_reducible (first|apply oG|apply oH));iterate 3 exact rfl)|((with_reducible apply oI);(iterate 2 exact rfl);intro K hK)|(with_reducible (first|apply wI|apply wJ|apply wK)));try simp only [go_sem,simprocAttr,cm,dD,k6])|fail|(with_reducible (first|apply oC|apply oJ|exact oK|apply wA|apply wB|apply wC hX hC|apply wD hX hC|apply wE hX hC af|apply wF hX hC af|apply wG|apply wH|apply And.intro))|((with_reducible refine oD ?_ ?_);first|fail|kernel_rfl)|((with_reducible (first|apply oE|apply oF));(iterate 3 exact rfl);all_goals (intro h;first|(exact absurd h (by decide))|((try simp only [go_sem,simprocAttr,cm,dD,k6] at h);(try with_reducible intro K hK);simp only [go_sem,simprocAttr,cm,dD,k6])))|((first|((with_reducible apply wL);exact rfl)|((with_reducible apply wM);exact rfl));all_goals (try ((with_reducible intro h);first|(exact absurd h (by decide))|(try simp only [go_sem,simprocAttr,cm,dD,k6] at h))))|omega|((first|first|refine aa hX hC hP (aP g hl) rfl rfl rfl (by simp only [go_sem,simprocAttr,cm,dD,k6]) rfl ?_|refine aa hX hC hP (b9 p.ord g.n ho) rfl rfl rfl (by simp only [go_sem,simprocAttr,cm,dD,k6]) rfl ?_);try simp only [go_sem,simprocAttr,cm,dD,k6])|(intro h))
   refine ⟨k+1,⟨by omega,fun i hi=> ?_⟩, ?_,by omega⟩
   ·by_cases e:i=k
    ·subst e;exact h3
    ·exact Gf i (by omega)
   ·(refine Le.of ?_ ?_<;>simp [go_sem,simprocAttr,cm,dD,k6])
  ·rw [if_neg h3] at k6
   have hres:res=false:=by
    rw [← Bool.not_eq_true,hr]
    rintro ⟨_,_,_,_,h5⟩
    exact h3 (h5 k cw)
   subst hres
   repeat' (first|fail|((first|((with_reducible (first|apply oA|apply oB));exact rfl;intro K hK)|(refine hK _ ?_;clear hK K)|((with_reducible (first|apply oG|apply oH));iterate 3 exact rfl)|((with_reducible apply oI);(iterate 2 exact rfl);intro K hK)|(with_reducible (first|apply wI|apply wJ|apply wK)));try simp only [go_sem,simprocAttr,cm,dD,k6])|fail|(with_reducible (first|apply oC|apply oJ|exact oK|apply wA|apply wB|apply wC hX hC|apply wD hX hC|apply wE hX hC af|apply wF hX hC af|apply wG|apply wH|apply And.intro))|((with_reducible refine oD ?_ ?_);first|fail|kernel_rfl)|((with_reducible (first|apply oE|apply oF));(iterate 3 exact rfl);all_goals (intro h;first|(exact absurd h (by decide))|((try simp only [go_sem,simprocAttr,cm,dD,k6] at h);(try with_reducible intro K hK);simp only [go_sem,simprocAttr,cm,dD,k6])))|((first|((with_reducible apply wL);exact rfl)|((with_reducible apply wM);exact rfl));all_goals (try ((with_reducible intro h);first|(exact absurd h (by decide))|(try simp only [go_sem,simprocAttr,cm,dD,k6] at h))))|omega|((first|first|refine aa hX hC hP (aP g hl) rfl rfl rfl (by simp only [go_sem,simprocAttr,cm,dD,k6]) rfl ?_|refine aa hX hC hP (b9 p.ord g.n ho) rfl rfl rfl (by simp only [go_sem,simprocAttr,cm,dD,k6]) rfl ?_);try simp only [go_sem,simprocAttr,cm,dD,k6])|(intro h))
 ·have cm:decide ((k:Int)<(g.es.length:Int))=false:=decide_eq_false (by omega)
  obtain rfl:k=g.es.length:=by omega
  have hres:res=true:=hr.2 ⟨nq,vp,u7,bT,Gf⟩
  subst hres
  repeat' (first|fail|((first|((with_reducible (first|apply oA|apply oB));exact rfl;intro K hK)|(refine hK _ ?_;clear hK K)|((with_reducible (first|apply oG|apply oH));iterate 3 exact rfl)|((with_reducible apply oI);(iterate 2 exact rfl);intro K hK)|(with_reducible (first|apply wI|apply wJ|apply wK)));try simp only [go_sem,simprocAttr,cm,dD])|fail|(with_reducible (first|apply oC|apply oJ|exact oK|apply wA|apply wB|apply wC hX hC|apply wD hX hC|apply wE hX hC af|apply wF hX hC af|apply wG|apply wH|apply And.intro))|((with_reducible refine oD ?_ ?_);first|fail|kernel_rfl)|((with_reducible (first|apply oE|apply oF));(iterate 3 exact rfl);all_goals (intro h;first|(exact absurd h (by decide))|((try simp only [go_sem,simprocAttr,cm,dD] at h);(try with_reducible intro K hK);simp only [go_sem,simprocAttr,cm,dD])))|((first|((with_reducible apply wL);exact rfl)|((with_reducible apply wM);exact rfl));all_goals (try ((with_reducible intro h);first|(exact absurd h (by decide))|(try simp only [go_sem,simprocAttr,cm,dD] at h))))|omega|((first|first|refine aa hX hC hP (aP g hl) rfl rfl rfl (by simp only [go_sem,simprocAttr,cm,dD]) rfl ?_|refine aa hX hC hP (b9 p.ord g.n ho) rfl rfl rfl (by simp only [go_sem,simprocAttr,cm,dD]) rfl ?_);try simp only [go_sem,simprocAttr,cm,dD])|(intro h))
end Go.Ab
end
section
namespace Go.Ab
open Go.Proofs
attribute [local congr] ACall.congr
set_option maxRecDepth 10000
set_option maxHeartbeats 8000000
def bK (b:Bool) (g:Gr) (p:Pl):(List (List It) × List It) × Int × Int:=
 if b=false then (([], []),(1,0)) else
 match iJ g p g.n.toNat with
 |some i=>(([], []),(3,(i:Int)))
 |none=>((dW g p g.n.toNat,(fK g p g.n.toNat).row),(0,0))
theorem CG {n:Nat} :List.replicate n [D.sl 3 []]=vT (List.replicate n []):=by simp [vT,sT]
theorem CH {ls:List (List It)} {k:Nat} {l:List It} :(vT ls).set k [sT l]=vT (ls.set k l):=by simp [vT,List.map_set]
theorem tL {g:Gr} {p:Pl} {k:Nat} :dW g p (k+1)=(dW g p k).set (au p k).toNat (fk g p k):=rfl
theorem xe (g:Gr) (hl:g.es.length≤9223372036854775807) (p:Pl) (hp:pO p) (b:Bool) (hr:b=true↔(cg g).1=0∧bF g p):
 Spec Tryz.prog 88 (Args [eG g,ePl p]) [] (.tup [.d (.sl 1 (vT (bK b g p).1.1)), .d (sT (bK b g p).1.2),eN (bK b g p).2.1,eN (bK b g p).2.2]) []:=by
 have hO:=CF g hl p hp b hr
 cases b with
 |false=>
  have hR:bK false g p=(([], []),(1,0)):=rfl
  rw [hR]
  (refine Spec.intro (C:=T.cfg [] []) (rs:= [.t 4, .t 5, .t 6, .t 7]) (T.aq _ _) Tryz.func88 rfl rfl Tryz.ntmps88 Tryz.results88 (by simp [AObj.isNest]) (by simp [AObj.isNest]) (by kernel_rfl) ?_;intro X hX hP hC aM aN vals hA;refine ⟨_,by simp,hA, ?_⟩;have af:X.P.follows .mixedOrders=true:=(by rw [hP];exact T.mixed);clear aM aN)
  repeat' (first|fail|((first|((with_reducible (first|apply oA|apply oB));exact rfl;intro K hK)|(refine hK _ ?_;clear hK K)|((with_reducible (first|apply oG|apply oH));iterate 3 exact rfl)|((with_reducible apply oI);(iterate 2 exact rfl);intro K hK)|(with_reducible (first|apply wI|apply wJ|apply wK)));try simp only [go_sem,simprocAttr,vT,List.map_nil])|fail|(with_reducible (first|apply oC|apply oJ|exact oK|apply wA|apply wB|apply wC hX hC|apply wD hX hC|apply wE hX hC af|apply wF hX hC af|apply wG|apply wH|apply And.intro))|((with_reducible refine oD ?_ ?_);first|fail|kernel_rfl)|((with_reducible (first|apply oE|apply oF));(iterate 3 exact rfl);all_goals (intro h;first|(exact absurd h (by decide))|((try simp only [go_sem,simprocAttr,vT,List.map_nil] at h);(try with_reducible intro K hK);simp only [go_sem,simprocAttr,vT,List.map_nil])))|((first|((with_reducible apply wL);exact rfl)|((with_reducible apply wM);exact rfl));all_goals (try ((with_reducible intro h);first|(exact absurd h (by decide))|(try simp only [go_sem,simprocAttr,vT,List.map_nil] at h))))|omega|((first|first|refine aa hX hC hP (hO) rfl rfl rfl (by simp only [go_sem,simprocAttr,vT,List.map_nil]) rfl ?_);try simp only [go_sem,simprocAttr,vT,List.map_nil])|(intro h))
 |true=>
 obtain ⟨hc,AB⟩:=hr.1 rfl
 have hm:=aG hc
 have hn:=aY hm
 have hle:=bZ AB
 have hR:bK true g p=match iJ g p g.n.toNat with
  |some i=>(([], []),(3,(i:Int)))
  |none=>((dW g p g.n.toNat,(fK g p g.n.toNat).row),(0,0)):=rfl
 generalize bK true g p=R at hR
 (refine Spec.intro (C:=T.cfg [] []) (rs:= [.t 4, .t 5, .t 6, .t 7]) (T.aq _ _) Tryz.func88 rfl rfl Tryz.ntmps88 Tryz.results88 (by simp [AObj.isNest]) (by simp [AObj.isNest]) (by kernel_rfl) ?_;intro X hX hP hC aM aN vals hA;refine ⟨_,by simp,hA, ?_⟩;have af:X.P.follows .mixedOrders=true:=(by rw [hP];exact T.mixed);clear aM aN)
 repeat' (first|fail|((first|((with_reducible (first|apply oA|apply oB));exact rfl;intro K hK)|(refine hK _ ?_;clear hK K)|((with_reducible (first|apply oG|apply oH));iterate 3 exact rfl)|((with_reducible apply oI);(iterate 2 exact rfl);intro K hK)|(with_reducible (first|apply wI|apply wJ|apply wK)));try simp only [go_sem,simprocAttr])|(show dG _ (.seq (.region 4 _ _) _) _ _;(refine nJ 20 2 3 rfl rfl rfl ?_;simp only [LA.app,ASt.put,ASt.kill,putM,rml,List.set_cons_zero,List.set_cons_succ,go_sem,simprocAttr]);(refine nJ 20 3 1 rfl rfl rfl ?_;simp only [LA.app,ASt.put,ASt.kill,putM,rml,List.set_cons_zero,List.set_cons_succ,go_sem,simprocAttr]))|(with_reducible (first|apply oC|apply oJ|exact oK|apply wA|apply wB|apply wC hX hC|apply wD hX hC|apply wE hX hC af|apply wF hX hC af|apply wG|apply wH|apply And.intro))|((with_reducible refine oD ?_ ?_);first|fail|kernel_rfl)|((with_reducible (first|apply oE|apply oF));(iterate 3 exact rfl);all_goals (intro h;first|(exact absurd h (by decide))|((try simp only [go_sem,simprocAttr] at h);(try with_reducible intro K hK);simp only [go_sem,simprocAttr])))|((first|((with_reducible apply wL);exact rfl)|((with_reducible apply wM);exact rfl));all_goals (try ((with_reducible intro h);first|(exact absurd h (by decide))|(try simp only [go_sem,simprocAttr] at h))))|omega|((first|first|refine aa hX hC hP (hO) rfl rfl rfl (by simp only [go_sem,simprocAttr]) rfl ?_);try simp only [go_sem,simprocAttr])|(intro h))
 rw [CG]
 refine an (fun k:Nat=>k≤g.n.toNat∧∀j,j<k→yg g p j=true) (fun k=>⟨[(2, .ptr 2 0),(3, .ptr 3 0),(8, .ptr 20 0),(9, .ref 23),(10,eN k)], [(23, .own 80 1 (vT (dW g p k))),(20, .box (eL g (fK g p k))),(3, .box [.d (sI p.ord), .d (.sl 1 (vI p.outs))]),(2, .box [eN g.n, .d (sE g.es)])]⟩) (fun k=>g.n.toNat - k) 0 (by simp) ?_ ?_
 ·refine Le.of ?_ ?_<;>simp [go_sem,simprocAttr,eL,fK,dW]
 rintro k ⟨hk,hok⟩
 obtain ⟨hi,_,hrl⟩:=dB hm AB hk hok
 have hel:=k4 (g:=g) (p:=p) (k:=k)
 rcases Nat.lt_or_ge k g.n.toNat with hlt|hge
 ·have hb:decide ((k:Int)<(p.ord.length:Int))=true:=decide_eq_true (by omega)
  have Dk:=aF AB hlt
  have eH:=tL (g:=g) (p:=p) (k:=k)
  have AD:fK g p (k+1)=(aA g (fK g p k) (au p k) (bE p (au p k))).2:=rfl
  have u7:fk g p k=(aA g (fK g p k) (au p k) (bE p (au p k))).1.1:=rfl
  have hpk:=w6 AB hlt
  have CI:=w8 (g:=g) (p:=p) (k:=k)
  have hsk:yg g p k=false→R=(([], []),(3,(k:Int))):=fun h=>by
   rw [hR,mS.2 ⟨hlt,h,hok⟩]
  have hmul:k*(g.es.length+1)≤64*129:=Nat.mul_le_mul (by omega) (by omega)
  have kC:=ke AB Dk.1 Dk.2
  have fY:p.ord.getD k 0=au p k:=rfl
  have CJ:(fK g p k).pl.length≤64:=by
   rcases EL hi.togG with h|h
   ·omega
   ·rw [h];simp
  obtain ⟨x,hx⟩:∃x:Nat,au p k=x:=⟨(au p k).toNat,by omega⟩
  rw [hx] at fY AD u7 hpk CI Dk kC eH
  have hxl:x<p.outs.length:=by have:=AB.1;omega
  have hv:=j7 hxl
  have hla:bE p (x:Int)=p.outs.getD x []:=by unfold bE;rw [Int.toNat_natCast]
  rw [hla] at AD u7 hpk CI kC
  rw [Int.toNat_natCast] at eH
  have kD:=wX g (by omega) (fK g p k) (x:Int) (p.outs.getD x []) (by omega) (by omega) (by omega)
  have cl:=CH (ls:=dW g p k) (k:=x) (l:=fk g p k)
  generalize p.outs.getD x []=o at hv AD u7 hpk CI kD
  rw [← eH] at cl
  generalize fK g p k=f at AD u7 hpk CI kD hi hrl CJ
  cases u9:yg g p k with
  |false=>
   rw [CI u9] at kD
   have FO:=hsk u9
   subst FO
   repeat' (first|fail|((first|((with_reducible (first|apply oA|apply oB));exact rfl;intro K hK)|(refine hK _ ?_;clear hK K)|((with_reducible (first|apply oG|apply oH));iterate 3 exact rfl)|((with_reducible apply oI);(iterate 2 exact rfl);intro K hK)|(with_reducible (first|apply wI|apply wJ|apply wK)));try simp only [go_sem,simprocAttr,hb,fY,hv,eL,vT,List.map_nil])|fail|(with_reducible (first|apply oC|apply oJ|exact oK|apply wA|apply wB|apply wC hX hC|apply wD hX hC|apply wE hX hC af|apply wF hX hC af|apply wG|apply wH|apply And.intro))|((with_reducible refine oD ?_ ?_);first|fail|kernel_rfl)|((with_reducible (first|apply oE|apply oF));(iterate 3 exact rfl);all_goals (intro h;first|(exact absurd h (by decide))|((try simp only [go_sem,simprocAttr,hb,fY,hv,eL,vT,List.map_nil] at h);(try with_reducible intro K hK);simp only [go_sem,simprocAttr,hb,fY,hv,eL,vT,List.map_nil])))|((first|((with_reducible apply wL);exact rfl)|((with_reducible apply wM);exact rfl));all_goals (try ((with_reducible intro h);first|(exact absurd h (by decide))|(try simp only [go_sem,simprocAttr,hb,fY,hv,eL,vT,List.map_nil] at h))))|omega|((first|first|(refine az hX hC hP [(10000,20)] (kD) rfl rfl rfl ?_ ?_ ?_ ?_ ?_ ?_ ?_ ?_ ?_ ?_ ?_ ?_ ?_ ?_;(focus (simp only [go_sem,simprocAttr,hb,fY,hv,eL,vT,List.map_nil];done));(iterate 12 (focus (simp [go_sem,simprocAttr,hb,fY,hv,eL,vT,List.map_nil];done)));simp only [go_sem,simprocAttr,hb,fY,hv,eL,vT,List.map_nil,List.map_cons,List.map_nil]));try simp only [go_sem,simprocAttr,hb,fY,hv,eL,vT,List.map_nil])|(intro h))
  |true=>
   rw [hpk u9] at kD
   have dY:(aA g f (x:Int) o).1.2=0:=rfl
   rw [u7] at cl
   generalize aA g f (x:Int) o=su at AD u7 kD dY cl
   have Jf:x<(dW g p k).length:=by omega
   generalize Oq:dW g p k=E at cl Jf hel
   have hvl:(vT E).length=E.length:=vT_length
   have tM:=fun d=>nO Jf d
   repeat' (first|fail|((first|((with_reducible (first|apply oA|apply oB));exact rfl;intro K hK)|(refine hK _ ?_;clear hK K)|((with_reducible (first|apply oG|apply oH));iterate 3 exact rfl)|((with_reducible apply oI);(iterate 2 exact rfl);intro K hK)|(with_reducible (first|apply wI|apply wJ|apply wK)));try simp only [go_sem,simprocAttr,hb,fY,hv,eL,dY,cl,tM,List.drop_succ_cons,List.drop_zero])|fail|(with_reducible (first|apply oC|apply oJ|exact oK|apply wA|apply wB|apply wC hX hC|apply wD hX hC|apply wE hX hC af|apply wF hX hC af|apply wG|apply wH|apply And.intro))|((with_reducible refine oD ?_ ?_);first|fail|kernel_rfl)|((with_reducible (first|apply oE|apply oF));(iterate 3 exact rfl);all_goals (intro h;first|(exact absurd h (by decide))|((try simp only [go_sem,simprocAttr,hb,fY,hv,eL,dY,cl,tM,List.drop_succ_cons,List.drop_zero] at h);(try with_reducible intro K hK);simp only [go_sem,simprocAttr,hb,fY,hv,eL,dY,cl,tM,List.drop_succ_cons,List.drop_zero])))|((first|((with_reducible apply wL);exact rfl)|((with_reducible apply wM);exact rfl));all_goals (try ((with_reducible intro h);first|(exact absurd h (by decide))|(try simp only [go_sem,simprocAttr,hb,fY,hv,eL,dY,cl,tM,List.drop_succ_cons,List.drop_zero] at h))))|omega|((first|first|(refine az hX hC hP [(10000,20)] (kD) rfl rfl rfl ?_ ?_ ?_ ?_ ?_ ?_ ?_ ?_ ?_ ?_ ?_ ?_ ?_ ?_;(focus (simp only [go_sem,simprocAttr,hb,fY,hv,eL,dY,cl,tM,List.drop_succ_cons,List.drop_zero];done));(iterate 12 (focus (simp [go_sem,simprocAttr,hb,fY,hv,eL,dY,cl,tM,List.drop_succ_cons,List.drop_zero];done)));simp only [go_sem,simprocAttr,hb,fY,hv,eL,dY,cl,tM,List.drop_succ_cons,List.drop_zero,List.map_cons,List.map_nil]));try simp only [go_sem,simprocAttr,hb,fY,hv,eL,dY,cl,tM,List.drop_succ_cons,List.drop_zero])|(intro h))
   refine ⟨k+1,⟨by omega,fun j hj=> ?_⟩, ?_,by omega⟩
   ·by_cases e:j=k
    ·subst e;exact u9
    ·exact hok j (by omega)
   ·rw [AD]
    have CK:(vT E).set x [D.sl 3 (List.map rT su.1.1)]=vT (dW g p (k+1)):=cl
    refine Le.of ?_ ?_<;>simp [go_sem,simprocAttr,hb,fY,hv,eL,dY,cl,tM,List.drop_succ_cons,List.drop_zero,CK]
 have hb:decide ((k:Int)<(p.ord.length:Int))=false:=decide_eq_false (by omega)
 obtain rfl:k=g.n.toNat:=by omega
 rw [eX.2 hok] at hR
 subst hR
 repeat' (first|fail|((first|((with_reducible (first|apply oA|apply oB));exact rfl;intro K hK)|(refine hK _ ?_;clear hK K)|((with_reducible (first|apply oG|apply oH));iterate 3 exact rfl)|((with_reducible apply oI);(iterate 2 exact rfl);intro K hK)|(with_reducible (first|apply wI|apply wJ|apply wK)));try simp only [go_sem,simprocAttr,hb,eL])|fail|(with_reducible (first|apply oC|apply oJ|exact oK|apply wA|apply wB|apply wC hX hC|apply wD hX hC|apply wE hX hC af|apply wF hX hC af|apply wG|apply wH|apply And.intro))|((with_reducible refine oD ?_ ?_);first|fail|kernel_rfl)|((with_reducible (first|apply oE|apply oF));(iterate 3 exact rfl);all_goals (intro h;first|(exact absurd h (by decide))|((try simp only [go_sem,simprocAttr,hb,eL] at h);(try with_reducible intro K hK);simp only [go_sem,simprocAttr,hb,eL])))|((first|((with_reducible apply wL);exact rfl)|((with_reducible apply wM);exact rfl));all_goals (try ((with_reducible intro h);first|(exact absurd h (by decide))|(try simp only [go_sem,simprocAttr,hb,eL] at h))))|omega|((first|fail);try simp only [go_sem,simprocAttr,hb,eL])|(intro h))
end Go.Ab
end
section
namespace Go.Ab
open Go.Proofs
attribute [local congr] ACall.congr
set_option maxRecDepth 10000
set_option maxHeartbeats 8000000
theorem mg (g:Gr) (hl:g.es.length≤1000) (p:Pl) (hp:pO p) (b:Bool) (hr:b=true↔(cg g).1=0∧bF g p):
 Spec Tryz.prog 46 (Args [eG g,ePl p]) [] (.tup [.d (.sl 1 (vT (bK b g p).1.1)), .d (sT (bK b g p).1.2),eF ((bK b g p).2.1,(bK b g p).2.2, [])]) []:=by
 by_cases hc:(cg g).1=0
 rotate_left
 ·obtain rfl:b=false:=by
   rw [← Bool.not_eq_true,hr]
   exact fun h=>hc h.1
  have hR:bK false g p=(([], []),(1,0)):=rfl
  rw [hR]
  (refine Spec.intro (C:=T.cfg [] []) (rs:= [.t 4, .t 5, .c 6 82]) (T.aq _ _) Tryz.func46 rfl rfl Tryz.ntmps46 Tryz.results46 (by simp [AObj.isNest]) (by simp [AObj.isNest]) (by kernel_rfl) ?_;intro X hX hP hC aM aN vals hA;refine ⟨_,by simp,hA, ?_⟩;have af:X.P.follows .mixedOrders=true:=(by rw [hP];exact T.mixed);clear aM aN)
  repeat' (first|fail|((first|((with_reducible (first|apply oA|apply oB));exact rfl;intro K hK)|(refine hK _ ?_;clear hK K)|((with_reducible (first|apply oG|apply oH));iterate 3 exact rfl)|((with_reducible apply oI);(iterate 2 exact rfl);intro K hK)|(with_reducible (first|apply wI|apply wJ|apply wK)));try simp only [go_sem,simprocAttr,vT,List.map_nil])|fail|(with_reducible (first|apply oC|apply oJ|exact oK|apply wA|apply wB|apply wC hX hC|apply wD hX hC|apply wE hX hC af|apply wF hX hC af|apply wG|apply wH|apply And.intro))|((with_reducible refine oD ?_ ?_);first|fail|kernel_rfl)|((with_reducible (first|apply oE|apply oF));(iterate 3 exact rfl);all_goals (intro h;first|(exact absurd h (by decide))|((try simp only [go_sem,simprocAttr,vT,List.map_nil] at h);(try with_reducible intro K hK);simp only [go_sem,simprocAttr,vT,List.map_nil])))|((first|((with_reducible apply wL);exact rfl)|((with_reducible apply wM);exact rfl));all_goals (try ((with_reducible intro h);first|(exact absurd h (by decide))|(try simp only [go_sem,simprocAttr,vT,List.map_nil] at h))))|omega|((first|first|refine aa hX hC hP (An g hl hc) rfl rfl rfl (by simp only [go_sem,simprocAttr,vT,List.map_nil]) rfl ?_);try simp only [go_sem,simprocAttr,vT,List.map_nil])|(intro h))
 have hm:=aG hc
 have hn:=aY hm
 have hr:b=true↔bF g p:=by rw [hr];exact ⟨fun h=>h.2,fun h=>⟨hc,h⟩⟩
 have hO:=CC g hm p hp b hr
 cases b with
 |false=>
  have hR:bK false g p=(([], []),(1,0)):=rfl
  rw [hR]
  (refine Spec.intro (C:=T.cfg [] []) (rs:= [.t 4, .t 5, .c 6 82]) (T.aq _ _) Tryz.func46 rfl rfl Tryz.ntmps46 Tryz.results46 (by simp [AObj.isNest]) (by simp [AObj.isNest]) (by kernel_rfl) ?_;intro X hX hP hC aM aN vals hA;refine ⟨_,by simp,hA, ?_⟩;have af:X.P.follows .mixedOrders=true:=(by rw [hP];exact T.mixed);clear aM aN)
  repeat' (first|fail|((first|((with_reducible (first|apply oA|apply oB));exact rfl;intro K hK)|(refine hK _ ?_;clear hK K)|((with_reducible (first|apply oG|apply oH));iterate 3 exact rfl)|((with_reducible apply oI);(iterate 2 exact rfl);intro K hK)|(with_reducible (first|apply wI|apply wJ|apply wK)));try simp only [go_sem,simprocAttr,vT,List.map_nil])|fail|(with_reducible (first|apply oC|apply oJ|exact oK|apply wA|apply wB|apply wC hX hC|apply wD hX hC|apply wE hX hC af|apply wF hX hC af|apply wG|apply wH|apply And.intro))|((with_reducible refine oD ?_ ?_);first|fail|kernel_rfl)|((with_reducible (first|apply oE|apply oF));(iterate 3 exact rfl);all_goals (intro h;first|(exact absurd h (by decide))|((try simp only [go_sem,simprocAttr,vT,List.map_nil] at h);(try with_reducible intro K hK);simp only [go_sem,simprocAttr,vT,List.map_nil])))|((first|((with_reducible apply wL);exact rfl)|((with_reducible apply wM);exact rfl));all_goals (try ((with_reducible intro h);first|(exact absurd h (by decide))|(try simp only [go_sem,simprocAttr,vT,List.map_nil] at h))))|omega|((first|first|(refine q9 hX hC hP [(10000,13)] (tG g hl hc hm) rfl rfl rfl ?_ ?_ ?_ ?_ ?_ ?_ ?_ ?_ ?_ ?_ ?_ ?_ ?_ ?_;(focus (simp only [go_sem,simprocAttr,vT,List.map_nil];done));(iterate 12 (focus (simp [go_sem,simprocAttr,vT,List.map_nil];done)));simp only [go_sem,simprocAttr,vT,List.map_nil,List.map_cons,List.map_nil])|refine aa hX hC hP (fZ g hm) rfl rfl rfl (by simp only [go_sem,simprocAttr,vT,List.map_nil]) rfl ?_|refine aa hX hC hP (hO) rfl rfl rfl (by simp only [go_sem,simprocAttr,vT,List.map_nil]) rfl ?_);try simp only [go_sem,simprocAttr,vT,List.map_nil])|(intro h))
 |true=>
 have AB:=hr.1 rfl
 have hle:=bZ AB
 have hR:bK true g p=match iJ g p g.n.toNat with
  |some i=>(([], []),(3,(i:Int)))
  |none=>((dW g p g.n.toNat,(fK g p g.n.toNat).row),(0,0)):=rfl
 generalize bK true g p=R at hR
 (refine Spec.intro (C:=T.cfg [] []) (rs:= [.t 4, .t 5, .c 6 82]) (T.aq _ _) Tryz.func46 rfl rfl Tryz.ntmps46 Tryz.results46 (by simp [AObj.isNest]) (by simp [AObj.isNest]) (by kernel_rfl) ?_;intro X hX hP hC aM aN vals hA;refine ⟨_,by simp,hA, ?_⟩;have af:X.P.follows .mixedOrders=true:=(by rw [hP];exact T.mixed);clear aM aN)
 repeat' (first|fail|((first|((with_reducible (first|apply oA|apply oB));exact rfl;intro K hK)|(refine hK _ ?_;clear hK K)|((with_reducible (first|apply oG|apply oH));iterate 3 exact rfl)|((with_reducible apply oI);(iterate 2 exact rfl);intro K hK)|(with_reducible (first|apply wI|apply wJ|apply wK)));try simp only [go_sem,simprocAttr])|(show dG _ (.seq (.region 5 _ _) _) _ _;(refine nJ 13 0 3 rfl rfl rfl ?_;simp only [LA.app,ASt.put,ASt.kill,putM,rml,List.set_cons_zero,List.set_cons_succ,go_sem,simprocAttr]);(refine B6 hX 13 2 100 (.tip 3 1 []) rfl rfl rfl (by simp only [go_sem,simprocAttr]) (by decide) (by simp [go_sem,simprocAttr]) ⟨3,1,by decide, .inr rfl⟩ ?_;simp only [LA.app,ASt.put,ASt.kill,subT,rmk,putM,rml,kl,AV.sub,AV.subs,AObj.sub,List.set_cons_zero,List.set_cons_succ,go_sem,simprocAttr]))|(with_reducible (first|apply oC|apply oJ|exact oK|apply wA|apply wB|apply wC hX hC|apply wD hX hC|apply wE hX hC af|apply wF hX hC af|apply wG|apply wH|apply And.intro))|((with_reducible refine oD ?_ ?_);first|fail|kernel_rfl)|((with_reducible (first|apply oE|apply oF));(iterate 3 exact rfl);all_goals (intro h;first|(exact absurd h (by decide))|((try simp only [go_sem,simprocAttr] at h);(try with_reducible intro K hK);simp only [go_sem,simprocAttr])))|((first|((with_reducible apply wL);exact rfl)|((with_reducible apply wM);exact rfl));all_goals (try ((with_reducible intro h);first|(exact absurd h (by decide))|(try simp only [go_sem,simprocAttr] at h))))|omega|((first|first|(refine q9 hX hC hP [(10000,13)] (tG g hl hc hm) rfl rfl rfl ?_ ?_ ?_ ?_ ?_ ?_ ?_ ?_ ?_ ?_ ?_ ?_ ?_ ?_;(focus (simp only [go_sem,simprocAttr];done));(iterate 12 (focus (simp [go_sem,simprocAttr];done)));simp only [go_sem,simprocAttr,List.map_cons,List.map_nil])|refine aa hX hC hP (fZ g hm) rfl rfl rfl (by simp only [go_sem,simprocAttr]) rfl ?_|refine aa hX hC hP (hO) rfl rfl rfl (by simp only [go_sem,simprocAttr]) rfl ?_);try simp only [go_sem,simprocAttr])|(intro h))
 rw [CG]
 refine an (fun k:Nat=>k≤g.n.toNat∧∀j,j<k→yg g p j=true) (fun k=>⟨[(3, .ptr 3 0),(4, .ref 28),(6, .ptr 6 0),(7, .ptr 13 0),(30, .d (sI p.ord)),(31,eN p.ord.length),(32,eN k)], [(28, .own 80 1 (vT (dW g p k))),(13, .box [.d (sT (fK g p k).row), .d (vw g), .ref 100]),(100, .tip 3 1 ((fK g p k).pl.map rI)),(6, .box [eN 0,eN 0, .nil 3]),(3, .box [.d (sI p.ord), .d (.sl 1 (vI p.outs))])]⟩) (fun k=>g.n.toNat - k) 0 (by simp) ?_ ?_
 ·refine Le.of ?_ ?_<;>simp [go_sem,simprocAttr,eL,fK,dW]
 rintro k ⟨hk,hok⟩
 obtain ⟨hi,_,hrl⟩:=dB hm AB hk hok
 have hel:=k4 (g:=g) (p:=p) (k:=k)
 have hmul:k*(g.es.length+1)≤64*129:=Nat.mul_le_mul (by omega) (by omega)
 rcases Nat.lt_or_ge k g.n.toNat with hlt|hge
 ·have hb:decide ((k:Int)<(p.ord.length:Int))=true:=decide_eq_true (by omega)
  have Dk:=aF AB hlt
  have eH:=tL (g:=g) (p:=p) (k:=k)
  have AD:fK g p (k+1)=(aA g (fK g p k) (au p k) (bE p (au p k))).2:=rfl
  have u7:fk g p k=(aA g (fK g p k) (au p k) (bE p (au p k))).1.1:=rfl
  have hpk:=w6 AB hlt
  have CI:=w8 (g:=g) (p:=p) (k:=k)
  have hsk:yg g p k=false→R=(([], []),(3,(k:Int))):=fun h=>by
   rw [hR,mS.2 ⟨hlt,h,hok⟩]
  have kC:=ke AB Dk.1 Dk.2
  have fY:p.ord.getD k 0=au p k:=rfl
  have CJ:(fK g p k).pl.length≤64:=by
   rcases EL hi.togG with h|h
   ·omega
   ·rw [h];simp
  obtain ⟨x,hx⟩:∃x:Nat,au p k=x:=⟨(au p k).toNat,by omega⟩
  rw [hx] at fY AD u7 hpk CI Dk kC eH
  have hxl:x<p.outs.length:=by have:=AB.1;omega
  have hv:=j7 hxl
  have hla:bE p (x:Int)=p.outs.getD x []:=by unfold bE;rw [Int.toNat_natCast]
  rw [hla] at AD u7 hpk CI kC
  rw [Int.toNat_natCast] at eH
  have kD:=xb g hm (fK g p k) hi (x:Int) (p.outs.getD x []) (by omega) (by omega) (by omega)
  have cl:=CH (ls:=dW g p k) (k:=x) (l:=fk g p k)
  generalize p.outs.getD x []=o at hv AD u7 hpk CI kD
  rw [← eH] at cl
  generalize fK g p k=f at AD u7 hpk CI kD hi hrl CJ
  have Jf:x<(dW g p k).length:=by omega
  have hvl:(vT (dW g p k)).length=(dW g p k).length:=vT_length
  cases u9:yg g p k with
  |false=>
   rw [CI u9] at kD
   simp only at kD
   have FO:=hsk u9
   subst FO
   repeat' (first|fail|((first|((with_reducible (first|apply oA|apply oB));exact rfl;intro K hK)|(refine hK _ ?_;clear hK K)|((with_reducible (first|apply oG|apply oH));iterate 3 exact rfl)|((with_reducible apply oI);(iterate 2 exact rfl);intro K hK)|(with_reducible (first|apply wI|apply wJ|apply wK)));try simp only [go_sem,simprocAttr,hb,fY,hv,iC,rW,List.map_nil])|fail|(with_reducible (first|apply oC|apply oJ|exact oK|apply wA|apply wB|apply wC hX hC|apply wD hX hC|apply wE hX hC af|apply wF hX hC af|apply wG|apply wH|apply And.intro))|((with_reducible refine oD ?_ ?_);first|fail|kernel_rfl)|((with_reducible (first|apply oE|apply oF));(iterate 3 exact rfl);all_goals (intro h;first|(exact absurd h (by decide))|((try simp only [go_sem,simprocAttr,hb,fY,hv,iC,rW,List.map_nil] at h);(try with_reducible intro K hK);simp only [go_sem,simprocAttr,hb,fY,hv,iC,rW,List.map_nil])))|((first|((with_reducible apply wL);exact rfl)|((with_reducible apply wM);exact rfl));all_goals (try ((with_reducible intro h);first|(exact absurd h (by decide))|(try simp only [go_sem,simprocAttr,hb,fY,hv,iC,rW,List.map_nil] at h))))|omega|((first|first|(refine az hX hC hP [(10000,13),(10001,100),(10002,101)] (kD) rfl rfl rfl ?_ ?_ ?_ ?_ ?_ ?_ ?_ ?_ ?_ ?_ ?_ ?_ ?_ ?_;(focus (simp only [go_sem,simprocAttr,hb,fY,hv,iC,rW,List.map_nil];done));(iterate 12 (focus (simp [go_sem,simprocAttr,hb,fY,hv,iC,rW,List.map_nil];done)));simp only [go_sem,simprocAttr,hb,fY,hv,iC,rW,List.map_nil,List.map_cons,List.map_nil]));try simp only [go_sem,simprocAttr,hb,fY,hv,iC,rW,List.map_nil])|(intro h))
   all_goals rfl
  |true=>
   rw [hpk u9] at kD
   have dY:(aA g f (x:Int) o).1.2=0:=rfl
   rw [u7] at cl
   generalize aA g f (x:Int) o=su at AD u7 kD dY cl
   generalize Oq:dW g p k=E at cl Jf hel hvl
   have tM:=fun d=>nO Jf d
   repeat' (first|fail|((first|((with_reducible (first|apply oA|apply oB));exact rfl;intro K hK)|(refine hK _ ?_;clear hK K)|((with_reducible (first|apply oG|apply oH));iterate 3 exact rfl)|((with_reducible apply oI);(iterate 2 exact rfl);intro K hK)|(with_reducible (first|apply wI|apply wJ|apply wK)));try simp only [go_sem,simprocAttr,hb,fY,hv,iC,rW,dY,cl,tM,List.drop_succ_cons,List.drop_zero])|(show dG _ (.region 11 _ _) _ _;(refine jV hX 13 2 101 100 rfl rfl rfl (by first|exact .inl rfl|exact .inr rfl) (by decide) (by decide) ?_;simp only [LA.app,ASt.put,ASt.kill,subT,rmk,putM,rml,kl,AV.sub,AV.subs,AObj.sub,List.set_cons_zero,List.set_cons_succ,go_sem,simprocAttr,hb,fY,hv,iC,rW,dY,cl,tM,List.drop_succ_cons,List.drop_zero]))|(with_reducible (first|apply oC|apply oJ|exact oK|apply wA|apply wB|apply wC hX hC|apply wD hX hC|apply wE hX hC af|apply wF hX hC af|apply wG|apply wH|apply And.intro))|((with_reducible refine oD ?_ ?_);first|fail|kernel_rfl)|((with_reducible (first|apply oE|apply oF));(iterate 3 exact rfl);all_goals (intro h;first|(exact absurd h (by decide))|((try simp only [go_sem,simprocAttr,hb,fY,hv,iC,rW,dY,cl,tM,List.drop_succ_cons,List.drop_zero] at h);(try with_reducible intro K hK);simp only [go_sem,simprocAttr,hb,fY,hv,iC,rW,dY,cl,tM,List.drop_succ_cons,List.drop_zero])))|((first|((with_reducible apply wL);exact rfl)|((with_reducible apply wM);exact rfl));all_goals (try ((with_reducible intro h);first|(exact absurd h (by decide))|(try simp only [go_sem,simprocAttr,hb,fY,hv,iC,rW,dY,cl,tM,List.drop_succ_cons,List.drop_zero] at h))))|omega|((first|first|(refine az hX hC hP [(10000,13),(10001,100),(10002,101)] (kD) rfl rfl rfl ?_ ?_ ?_ ?_ ?_ ?_ ?_ ?_ ?_ ?_ ?_ ?_ ?_ ?_;(focus (simp only [go_sem,simprocAttr,hb,fY,hv,iC,rW,dY,cl,tM,List.drop_succ_cons,List.drop_zero];done));(iterate 12 (focus (simp [go_sem,simprocAttr,hb,fY,hv,iC,rW,dY,cl,tM,List.drop_succ_cons,List.drop_zero];done)));simp only [go_sem,simprocAttr,hb,fY,hv,iC,rW,dY,cl,tM,List.drop_succ_cons,List.drop_zero,List.map_cons,List.map_nil]));try simp only [go_sem,simprocAttr,hb,fY,hv,iC,rW,dY,cl,tM,List.drop_succ_cons,List.drop_zero])|(intro h))
   refine ⟨k+1,⟨by omega,fun j hj=> ?_⟩, ?_,by omega⟩
   ·by_cases e:j=k
    ·subst e;exact u9
    ·exact hok j (by omega)
   ·rw [AD]
    have CK:(vT E).set x [D.sl 3 (List.map rT su.1.1)]=vT (dW g p (k+1)):=cl
    refine Le.of ?_ ?_<;>simp [go_sem,simprocAttr,hb,fY,hv,iC,rW,dY,cl,tM,List.drop_succ_cons,List.drop_zero,CK]
 have hb:decide ((k:Int)<(p.ord.length:Int))=false:=decide_eq_false (by omega)
 obtain rfl:k=g.n.toNat:=by omega
 rw [eX.2 hok] at hR
 subst hR
 repeat' (first|fail|((first|((with_reducible (first|apply oA|apply oB));exact rfl;intro K hK)|(refine hK _ ?_;clear hK K)|((with_reducible (first|apply oG|apply oH));iterate 3 exact rfl)|((with_reducible apply oI);(iterate 2 exact rfl);intro K hK)|(with_reducible (first|apply wI|apply wJ|apply wK)));try simp only [go_sem,simprocAttr,hb])|fail|(with_reducible (first|apply oC|apply oJ|exact oK|apply wA|apply wB|apply wC hX hC|apply wD hX hC|apply wE hX hC af|apply wF hX hC af|apply wG|apply wH|apply And.intro))|((with_reducible refine oD ?_ ?_);first|fail|kernel_rfl)|((with_reducible (first|apply oE|apply oF));(iterate 3 exact rfl);all_goals (intro h;first|(exact absurd h (by decide))|((try simp only [go_sem,simprocAttr,hb] at h);(try with_reducible intro K hK);simp only [go_sem,simprocAttr,hb])))|((first|((with_reducible apply wL);exact rfl)|((with_reducible apply wM);exact rfl));all_goals (try ((with_reducible intro h);first|(exact absurd h (by decide))|(try simp only [go_sem,simprocAttr,hb] at h))))|omega|((first|first|(refine pH hX hC hP 60 (Al [vw g,sI (fK g p g.n.toNat).pl] (fK g p g.n.toNat).row (by omega)) rfl rfl rfl ?_ ?_ (by first|exact ⟨_,_,_,rfl,EI⟩|exact ⟨_,_,_,rfl,EJ⟩|exact ⟨_,_,_,rfl,EK⟩) rfl (by decide) ?_;(iterate 2 (focus (simp only [go_sem,simprocAttr,hb];done)));simp only [go_sem,simprocAttr,hb]));try simp only [go_sem,simprocAttr,hb])|(intro h))
end Go.Ab
end
section
namespace Go.Ab
open Go.Proofs
attribute [local congr] ACall.congr
set_option maxRecDepth 10000
set_option maxHeartbeats 8000000
def Pr (n:Int) (es:List Edge) (ord:List Int) (O:List (List Int)):List (Nat × AObj):= [(10000, .box [eN n, .ref 10001, .ref 10002, .ref 10003]),(10001, .tip 58 2 (es.map rE)),(10002, .tip 3 1 (ord.map rI)),(10003, .own 25 1 (vI O))]
def Pt (n:Int) (es:List Edge) (ord:List Int) (O:List (List Int)):List (Nat × AObj):= [(10000, .box [eN n, .ref 10004, .ref 10002, .ref 10003]),(10004, .tip 58 2 (es.map rE)),(10002, .tip 3 1 (ord.map rI)),(10003, .own 25 1 (vI O))]
def Ot (x:Int) (items:List It):List Edge:=(loose items).map fun v=>(v,x)
end Go.Ab
end
section
namespace Go.Ab
open Go.Proofs
attribute [local congr] ACall.congr
set_option maxRecDepth 10000
set_option maxHeartbeats 16000000
def pz:Pl:=⟨[], []⟩
def Ou (b:Bool) (g:Gr) (p:Pl):Gr × Pl × Int:=
 if (bK b g p).2.1≠0 then (gz,pz,1) else if 64<(CB g p).n∨128<(CB g p).es.length then (gz,pz,10) else (CB g p,LZ g p,0)
theorem tN {b:Bool} {g:Gr} {p:Pl} (hr:b=true↔(cg g).1=0∧bF g p) (h:(bK b g p).2.1=0):cB g p∧bK b g p=((dW g p g.n.toNat,k5 g p),(0,0)):=by
 cases b with
 |false=>simp [bK] at h
 |true=>
  have hR:bK true g p=match iJ g p g.n.toNat with
   |some i=>(([], []),(3,(i:Int)))
   |none=>((dW g p g.n.toNat,(fK g p g.n.toNat).row),(0,0)):=rfl
  cases hs:iJ g p g.n.toNat with
  |some i=>rw [hR,hs] at h;simp at h
  |none=>
   obtain ⟨h1,h2⟩:=hr.1 rfl
   exact ⟨⟨h1,h2,eX.1 hs⟩,by rw [hR,hs];rfl⟩
end Go.Ab
end
section
namespace Go.Ab
open Go.Proofs
attribute [local congr] ACall.congr
set_option maxRecDepth 10000
set_option maxHeartbeats 16000000
def Ov (p:Pl) (x:Gr) (k:Nat):List (List Int):=(List.range k).map fun v=>if 0<(p.outs.getD v []).length then p.outs.getD v [] else bt x (v:Int)
theorem yj {g:Gr} {p:Pl} (hr:cB g p):∀t∈k5 g p,t.1<0:=by
 obtain ⟨hc,h,hok⟩:=hr
 have hm:=aG hc
 have hn:=aY hm
 obtain ⟨hi,gv,_⟩:=dB hm h (k:=g.n.toNat) (Nat.le_refl _) hok
 intro t ht
 refine Decidable.byContradiction fun h0=> ?_
 rcases hi.it t ht with ⟨h1,_⟩|⟨h1,h2,_,h4⟩
 ·omega
 ·have Gg:=(ec hm (k:=t.1.toNat) (by omega)).2
  rw [← h4] at Gg
  refine hi.head t ht h1 (jD hi.togG ?_ Gg)
  rw [gv,List.length_take,bZ h];omega
end Go.Ab
end
section
namespace Go.Ab
open Go.Proofs
attribute [local congr] ACall.congr
set_option maxRecDepth 10000
set_option maxHeartbeats 8000000
def pW (g:Gr) (p:Pl):Bool:=decide (200<g.es.length)||decide (100<p.ord.length)||decide (100<p.outs.length)||p.outs.any fun l=>decide (200<l.length)
theorem y9 {g:Gr} {p:Pl} (h:pW g p=false):g.es.length≤200∧p.ord.length≤100∧p.outs.length≤100∧∀l∈p.outs,l.length≤200:=by
 simp only [pW,Bool.or_eq_false_iff,decide_eq_false_iff_not,List.any_eq_false,decide_eq_true_eq] at h
 obtain ⟨⟨⟨h1,h2⟩,h3⟩,h4⟩:=h
 exact ⟨by omega,by omega,by omega,fun l hl=>by have:=h4 l hl;omega⟩
theorem xg {g:Gr} {p:Pl} (h:pW g p=false):pO p:=by
 obtain ⟨_,h1,h2,h3⟩:=y9 h
 exact ⟨by omega,by omega,fun l hl=>by have:=h3 l hl;omega⟩
structure za (p:Pl):Prop where
 ord:p.ord.length≤9223372036854775807
 outs:p.outs.length≤9223372036854775807
 each:∀l∈p.outs,l.length≤9223372036854775807
theorem va (g:Gr) (p:Pl) (hl:g.es.length≤9223372036854775807) (hp:za p):Spec Tryz.prog 19 (Args [eG g,ePl p]) [] (eB (pW g p)) []:=by
 have ho:=hp.ord
 have hu:=hp.outs
 (refine Spec.intro (C:=T.cfg [] []) (rs:= [.t 4]) (T.aq _ _) Tryz.func19 rfl rfl Tryz.ntmps19 Tryz.results19 (by simp [AObj.isNest]) (by simp [AObj.isNest]) (by kernel_rfl) ?_;intro X hX hP hC aM aN vals hA;refine ⟨_,by simp,hA, ?_⟩;have af:X.P.follows .mixedOrders=true:=(by rw [hP];exact T.mixed);clear aM aN)
 generalize hB:pW g p=B
 by_cases h1:200<g.es.length
 ·have aj:decide (200<(g.es.length:Int))=true:=decide_eq_true (by omega)
  have:B=true:=by rw [← hB,pW,decide_eq_true h1];rfl
  subst this
  repeat' (first|fail|((first|((with_reducible (first|apply oA|apply oB));exact rfl;intro K hK)|(refine hK _ ?_;clear hK K)|((with_reducible (first|apply oG|apply oH));iterate 3 exact rfl)|((with_reducible apply oI);(iterate 2 exact rfl);intro K hK)|(with_reducible (first|apply wI|apply wJ|apply wK)));try simp only [go_sem,simprocAttr,aj])|fail|(with_reducible (first|apply oC|apply oJ|exact oK|apply wA|apply wB|apply wC hX hC|apply wD hX hC|apply wE hX hC af|apply wF hX hC af|apply wG|apply wH|apply And.intro))|((with_reducible refine oD ?_ ?_);first|fail|kernel_rfl)|((with_reducible (first|apply oE|apply oF));(iterate 3 exact rfl);all_goals (intro h;first|(exact absurd h (by decide))|((try simp only [go_sem,simprocAttr,aj] at h);(try with_reducible intro K hK);simp only [go_sem,simprocAttr,aj])))|((first|((with_reducible apply wL);exact rfl)|((with_reducible apply wM);exact rfl));all_goals (try ((with_reducible intro h);first|(exact absurd h (by decide))|(try simp only [go_sem,simprocAttr,aj] at h))))|omega|((first|fail);try simp only [go_sem,simprocAttr,aj])|(intro h))
 have aj:decide (200<(g.es.length:Int))=false:=decide_eq_false (by omega)
 by_cases h2:100<p.ord.length
 ·have ak:decide (100<(p.ord.length:Int))=true:=decide_eq_true (by omega)
  have:B=true:=by rw [← hB,pW,decide_eq_true h2];simp
  subst this
  repeat' (first|fail|((first|((with_reducible (first|apply oA|apply oB));exact rfl;intro K hK)|(refine hK _ ?_;clear hK K)|((with_reducible (first|apply oG|apply oH));iterate 3 exact rfl)|((with_reducible apply oI);(iterate 2 exact rfl);intro K hK)|(with_reducible (first|apply wI|apply wJ|apply wK)));try simp only [go_sem,simprocAttr,aj,ak])|fail|(with_reducible (first|apply oC|apply oJ|exact oK|apply wA|apply wB|apply wC hX hC|apply wD hX hC|apply wE hX hC af|apply wF hX hC af|apply wG|apply wH|apply And.intro))|((with_reducible refine oD ?_ ?_);first|fail|kernel_rfl)|((with_reducible (first|apply oE|apply oF));(iterate 3 exact rfl);all_goals (intro h;first|(exact absurd h (by decide))|((try simp only [go_sem,simprocAttr,aj,ak] at h);(try with_reducible intro K hK);simp only [go_sem,simprocAttr,aj,ak])))|((first|((with_reducible apply wL);exact rfl)|((with_reducible apply wM);exact rfl));all_goals (try ((with_reducible intro h);first|(exact absurd h (by decide))|(try simp only [go_sem,simprocAttr,aj,ak] at h))))|omega|((first|fail);try simp only [go_sem,simprocAttr,aj,ak])|(intro h))
 have ak:decide (100<(p.ord.length:Int))=false:=decide_eq_false (by omega)
 by_cases h3:100<p.outs.length
 ·have aX:decide (100<(p.outs.length:Int))=true:=decide_eq_true (by omega)
  have:B=true:=by rw [← hB,pW,decide_eq_true h3];simp
  subst this
  repeat' (first|fail|((first|((with_reducible (first|apply oA|apply oB));exact rfl;intro K hK)|(refine hK _ ?_;clear hK K)|((with_reducible (first|apply oG|apply oH));iterate 3 exact rfl)|((with_reducible apply oI);(iterate 2 exact rfl);intro K hK)|(with_reducible (first|apply wI|apply wJ|apply wK)));try simp only [go_sem,simprocAttr,aj,ak,aX])|fail|(with_reducible (first|apply oC|apply oJ|exact oK|apply wA|apply wB|apply wC hX hC|apply wD hX hC|apply wE hX hC af|apply wF hX hC af|apply wG|apply wH|apply And.intro))|((with_reducible refine oD ?_ ?_);first|fail|kernel_rfl)|((with_reducible (first|apply oE|apply oF));(iterate 3 exact rfl);all_goals (intro h;first|(exact absurd h (by decide))|((try simp only [go_sem,simprocAttr,aj,ak,aX] at h);(try with_reducible intro K hK);simp only [go_sem,simprocAttr,aj,ak,aX])))|((first|((with_reducible apply wL);exact rfl)|((with_reducible apply wM);exact rfl));all_goals (try ((with_reducible intro h);first|(exact absurd h (by decide))|(try simp only [go_sem,simprocAttr,aj,ak,aX] at h))))|omega|((first|fail);try simp only [go_sem,simprocAttr,aj,ak,aX])|(intro h))
 have aX:decide (100<(p.outs.length:Int))=false:=decide_eq_false (by omega)
 have xI:B=p.outs.any fun l=>decide (200<l.length):=by rw [← hB,pW,decide_eq_false h1,decide_eq_false h2,decide_eq_false h3];simp
 clear hB
 repeat' (first|fail|((first|((with_reducible (first|apply oA|apply oB));exact rfl;intro K hK)|(refine hK _ ?_;clear hK K)|((with_reducible (first|apply oG|apply oH));iterate 3 exact rfl)|((with_reducible apply oI);(iterate 2 exact rfl);intro K hK)|(with_reducible (first|apply wI|apply wJ|apply wK)));try simp only [go_sem,simprocAttr,aj,ak,aX])|fail|(with_reducible (first|apply oC|apply oJ|exact oK|apply wA|apply wB|apply wC hX hC|apply wD hX hC|apply wE hX hC af|apply wF hX hC af|apply wG|apply wH|apply And.intro))|((with_reducible refine oD ?_ ?_);first|fail|kernel_rfl)|((with_reducible (first|apply oE|apply oF));(iterate 3 exact rfl);all_goals (intro h;first|(exact absurd h (by decide))|((try simp only [go_sem,simprocAttr,aj,ak,aX] at h);(try with_reducible intro K hK);simp only [go_sem,simprocAttr,aj,ak,aX])))|((first|((with_reducible apply wL);exact rfl)|((with_reducible apply wM);exact rfl));all_goals (try ((with_reducible intro h);first|(exact absurd h (by decide))|(try simp only [go_sem,simprocAttr,aj,ak,aX] at h))))|omega|((first|fail);try simp only [go_sem,simprocAttr,aj,ak,aX])|(intro h))
 refine an (fun k:Nat=>k≤p.outs.length∧∀j,j<k→(p.outs.getD j []).length≤200) (fun k=>⟨[(24, .d (.sl 1 (vI p.outs))),(25,eN p.outs.length),(26,eN k)], []⟩) (fun k=>p.outs.length - k) 0 (by simp) ?_ ?_
 ·(refine Le.of ?_ ?_<;>simp [go_sem,simprocAttr])
 rintro k ⟨hk,hg⟩
 rcases Nat.lt_or_ge k p.outs.length with cw|Ev
 ·have hb:decide ((k:Int)<(p.outs.length:Int))=true:=decide_eq_true (by omega)
  have hv:=j7 cw
  have hm:=aT (d:= []) cw
  have kC:=hp.each _ hm
  by_cases h4:200<(p.outs.getD k []).length
  ·have hb4:decide (200<((p.outs.getD k []).length:Int))=true:=decide_eq_true (by omega)
   have:B=true:=by rw [xI,List.any_eq_true];exact ⟨_,hm,decide_eq_true h4⟩
   subst this
   repeat' (first|fail|((first|((with_reducible (first|apply oA|apply oB));exact rfl;intro K hK)|(refine hK _ ?_;clear hK K)|((with_reducible (first|apply oG|apply oH));iterate 3 exact rfl)|((with_reducible apply oI);(iterate 2 exact rfl);intro K hK)|(with_reducible (first|apply wI|apply wJ|apply wK)));try simp only [go_sem,simprocAttr,hb,hv,hb4])|fail|(with_reducible (first|apply oC|apply oJ|exact oK|apply wA|apply wB|apply wC hX hC|apply wD hX hC|apply wE hX hC af|apply wF hX hC af|apply wG|apply wH|apply And.intro))|((with_reducible refine oD ?_ ?_);first|fail|kernel_rfl)|((with_reducible (first|apply oE|apply oF));(iterate 3 exact rfl);all_goals (intro h;first|(exact absurd h (by decide))|((try simp only [go_sem,simprocAttr,hb,hv,hb4] at h);(try with_reducible intro K hK);simp only [go_sem,simprocAttr,hb,hv,hb4])))|((first|((with_reducible apply wL);exact rfl)|((with_reducible apply wM);exact rfl));all_goals (try ((with_reducible intro h);first|(exact absurd h (by decide))|(try simp only [go_sem,simprocAttr,hb,hv,hb4] at h))))|omega|((first|fail);try simp only [go_sem,simprocAttr,hb,hv,hb4])|(intro h))
  ·have hb4:decide (200<((p.outs.getD k []).length:Int))=false:=decide_eq_false (by omega)
   repeat' (first|fail|((first|((with_reducible (first|apply oA|apply oB));exact rfl;intro K hK)|(refine hK _ ?_;clear hK K)|((with_reducible (first|apply oG|apply oH));iterate 3 exact rfl)|((with_reducible apply oI);(iterate 2 exact rfl);intro K hK)|(with_reducible (first|apply wI|apply wJ|apply wK)));try simp only [go_sem,simprocAttr,hb,hv,hb4])|fail|(with_reducible (first|apply oC|apply oJ|exact oK|apply wA|apply wB|apply wC hX hC|apply wD hX hC|apply wE hX hC af|apply wF hX hC af|apply wG|apply wH|apply And.intro))|((with_reducible refine oD ?_ ?_);first|fail|kernel_rfl)|((with_reducible (first|apply oE|apply oF));(iterate 3 exact rfl);all_goals (intro h;first|(exact absurd h (by decide))|((try simp only [go_sem,simprocAttr,hb,hv,hb4] at h);(try with_reducible intro K hK);simp only [go_sem,simprocAttr,hb,hv,hb4])))|((first|((with_reducible apply wL);exact rfl)|((with_reducible apply wM);exact rfl));all_goals (try ((with_reducible intro h);first|(exact absurd h (by decide))|(try simp only [go_sem,simprocAttr,hb,hv,hb4] at h))))|omega|((first|fail);try simp only [go_sem,simprocAttr,hb,hv,hb4])|(intro h))
   refine ⟨k+1,⟨by omega,fun j hj=> ?_⟩, ?_,by omega⟩
   ·by_cases e:j=k
    ·subst e;omega
    ·exact hg j (by omega)
   ·(refine Le.of ?_ ?_<;>simp [go_sem,simprocAttr,hb,hv,hb4])
 ·have hb:decide ((k:Int)<(p.outs.length:Int))=false:=decide_eq_false (by omega)
  have:B=false:=by
   rw [xI,List.any_eq_false]
   intro l hl
   obtain ⟨j,hj,rfl⟩:=List.mem_iff_getElem.1 hl
   have:=hg j (by omega)
   rw [List.getD_eq_getElem?_getD,List.getElem?_eq_getElem hj,Option.getD_some] at this
   simp;omega
  subst this
  repeat' (first|fail|((first|((with_reducible (first|apply oA|apply oB));exact rfl;intro K hK)|(refine hK _ ?_;clear hK K)|((with_reducible (first|apply oG|apply oH));iterate 3 exact rfl)|((with_reducible apply oI);(iterate 2 exact rfl);intro K hK)|(with_reducible (first|apply wI|apply wJ|apply wK)));try simp only [go_sem,simprocAttr,hb])|fail|(with_reducible (first|apply oC|apply oJ|exact oK|apply wA|apply wB|apply wC hX hC|apply wD hX hC|apply wE hX hC af|apply wF hX hC af|apply wG|apply wH|apply And.intro))|((with_reducible refine oD ?_ ?_);first|fail|kernel_rfl)|((with_reducible (first|apply oE|apply oF));(iterate 3 exact rfl);all_goals (intro h;first|(exact absurd h (by decide))|((try simp only [go_sem,simprocAttr,hb] at h);(try with_reducible intro K hK);simp only [go_sem,simprocAttr,hb])))|((first|((with_reducible apply wL);exact rfl)|((with_reducible apply wM);exact rfl));all_goals (try ((with_reducible intro h);first|(exact absurd h (by decide))|(try simp only [go_sem,simprocAttr,hb] at h))))|omega|((first|fail);try simp only [go_sem,simprocAttr,hb])|(intro h))
def kG (g:Gr):Bool:=decide ((cg g).1=0)&&decide ((bI (·.1) g).length=1)
theorem si (g:Gr) (hl:g.es.length≤1000):Spec Tryz.prog 51 (Args [eG g]) [] (eB (kG g)) []:=by
 by_cases hc:(cg g).1=0
 ·have hm:=aG hc
  have aj:decide ((cg g).1=0)=true:=decide_eq_true hc
  have hI:kG g=decide (((bI (·.1) g).length:Int)=1):=by
   unfold kG;rw [aj,Bool.true_and,decide_eq_decide];omega
  rw [hI]
  generalize iO:bI (·.1) g=bl
  have hS:=rC g hm
  rw [iO] at hS
  (refine Spec.intro (C:=T.cfg [] []) (rs:= [.t 2]) (T.aq _ _) Tryz.func51 rfl rfl Tryz.ntmps51 Tryz.results51 (by simp [AObj.isNest]) (by simp [AObj.isNest]) (by kernel_rfl) ?_;intro X hX hP hC aM aN vals hA;refine ⟨_,by simp,hA, ?_⟩;have af:X.P.follows .mixedOrders=true:=(by rw [hP];exact T.mixed);clear aM aN)
  repeat' (first|fail|((first|((with_reducible (first|apply oA|apply oB));exact rfl;intro K hK)|(refine hK _ ?_;clear hK K)|((with_reducible (first|apply oG|apply oH));iterate 3 exact rfl)|((with_reducible apply oI);(iterate 2 exact rfl);intro K hK)|(with_reducible (first|apply wI|apply wJ|apply wK)));try simp only [go_sem,simprocAttr,aj])|fail|(with_reducible (first|apply oC|apply oJ|exact oK|apply wA|apply wB|apply wC hX hC|apply wD hX hC|apply wE hX hC af|apply wF hX hC af|apply wG|apply wH|apply And.intro))|((with_reducible refine oD ?_ ?_);first|fail|kernel_rfl)|((with_reducible (first|apply oE|apply oF));(iterate 3 exact rfl);all_goals (intro h;first|(exact absurd h (by decide))|((try simp only [go_sem,simprocAttr,aj] at h);(try with_reducible intro K hK);simp only [go_sem,simprocAttr,aj])))|((first|((with_reducible apply wL);exact rfl)|((with_reducible apply wM);exact rfl));all_goals (try ((with_reducible intro h);first|(exact absurd h (by decide))|(try simp only [go_sem,simprocAttr,aj] at h))))|omega|((first|first|refine aa hX hC hP (jZ g hl) rfl rfl rfl (by simp only [go_sem,simprocAttr,aj]) rfl ?_|refine aa hX hC hP (fZ g hm) rfl rfl rfl (by simp only [go_sem,simprocAttr,aj]) rfl ?_|refine aa hX hC hP (hS) rfl rfl rfl (by simp only [go_sem,simprocAttr,aj]) rfl ?_);try simp only [go_sem,simprocAttr,aj])|(intro h))
 ·have aj:decide ((cg g).1=0)=false:=decide_eq_false hc
  have hI:kG g=false:=by unfold kG;rw [aj];rfl
  rw [hI]
  (refine Spec.intro (C:=T.cfg [] []) (rs:= [.t 2]) (T.aq _ _) Tryz.func51 rfl rfl Tryz.ntmps51 Tryz.results51 (by simp [AObj.isNest]) (by simp [AObj.isNest]) (by kernel_rfl) ?_;intro X hX hP hC aM aN vals hA;refine ⟨_,by simp,hA, ?_⟩;have af:X.P.follows .mixedOrders=true:=(by rw [hP];exact T.mixed);clear aM aN)
  repeat' (first|fail|((first|((with_reducible (first|apply oA|apply oB));exact rfl;intro K hK)|(refine hK _ ?_;clear hK K)|((with_reducible (first|apply oG|apply oH));iterate 3 exact rfl)|((with_reducible apply oI);(iterate 2 exact rfl);intro K hK)|(with_reducible (first|apply wI|apply wJ|apply wK)));try simp only [go_sem,simprocAttr,aj])|fail|(with_reducible (first|apply oC|apply oJ|exact oK|apply wA|apply wB|apply wC hX hC|apply wD hX hC|apply wE hX hC af|apply wF hX hC af|apply wG|apply wH|apply And.intro))|((with_reducible refine oD ?_ ?_);first|fail|kernel_rfl)|((with_reducible (first|apply oE|apply oF));(iterate 3 exact rfl);all_goals (intro h;first|(exact absurd h (by decide))|((try simp only [go_sem,simprocAttr,aj] at h);(try with_reducible intro K hK);simp only [go_sem,simprocAttr,aj])))|((first|((with_reducible apply wL);exact rfl)|((with_reducible apply wM);exact rfl));all_goals (try ((with_reducible intro h);first|(exact absurd h (by decide))|(try simp only [go_sem,simprocAttr,aj] at h))))|omega|((first|first|refine aa hX hC hP (jZ g hl) rfl rfl rfl (by simp only [go_sem,simprocAttr,aj]) rfl ?_);try simp only [go_sem,simprocAttr,aj])|(intro h))
theorem yl (g:Gr) (hl:g.es.length≤1000):Spec Tryz.prog 50 (Args [eG g]) [] (eB (kG g)) []:=by
 by_cases hc:(cg g).1=0
 ·have hm:=aG hc
  have hn:=aY hm
  have aj:decide ((cg g).1=0)=true:=decide_eq_true hc
  have hI:kG g=decide (((bI (·.1) g).length:Int)=1):=by
   unfold kG;rw [aj,Bool.true_and,decide_eq_decide];omega
  rw [hI]
  have hS:=cu g false hl (by omega)
  rw [show j0 (!false)=(·.1) from rfl] at hS
  generalize bI (·.1) g=bl at hS
  (refine Spec.intro (C:=T.cfg [] []) (rs:= [.t 2]) (T.aq _ _) Tryz.func50 rfl rfl Tryz.ntmps50 Tryz.results50 (by simp [AObj.isNest]) (by simp [AObj.isNest]) (by kernel_rfl) ?_;intro X hX hP hC aM aN vals hA;refine ⟨_,by simp,hA, ?_⟩;have af:X.P.follows .mixedOrders=true:=(by rw [hP];exact T.mixed);clear aM aN)
  repeat' (first|fail|((first|((with_reducible (first|apply oA|apply oB));exact rfl;intro K hK)|(refine hK _ ?_;clear hK K)|((with_reducible (first|apply oG|apply oH));iterate 3 exact rfl)|((with_reducible apply oI);(iterate 2 exact rfl);intro K hK)|(with_reducible (first|apply wI|apply wJ|apply wK)));try simp only [go_sem,simprocAttr,aj])|fail|(with_reducible (first|apply oC|apply oJ|exact oK|apply wA|apply wB|apply wC hX hC|apply wD hX hC|apply wE hX hC af|apply wF hX hC af|apply wG|apply wH|apply And.intro))|((with_reducible refine oD ?_ ?_);first|fail|kernel_rfl)|((with_reducible (first|apply oE|apply oF));(iterate 3 exact rfl);all_goals (intro h;first|(exact absurd h (by decide))|((try simp only [go_sem,simprocAttr,aj] at h);(try with_reducible intro K hK);simp only [go_sem,simprocAttr,aj])))|((first|((with_reducible apply wL);exact rfl)|((with_reducible apply wM);exact rfl));all_goals (try ((with_reducible intro h);first|(exact absurd h (by decide))|(try simp only [go_sem,simprocAttr,aj] at h))))|omega|((first|first|refine aa hX hC hP (aP g (by omega)) rfl rfl rfl (by simp only [go_sem,simprocAttr,aj]) rfl ?_|refine aa hX hC hP (hS) rfl rfl rfl (by simp only [go_sem,simprocAttr,aj]) rfl ?_);try simp only [go_sem,simprocAttr,aj])|(intro h))
 ·have aj:decide ((cg g).1=0)=false:=decide_eq_false hc
  have hI:kG g=false:=by unfold kG;rw [aj];rfl
  rw [hI]
  (refine Spec.intro (C:=T.cfg [] []) (rs:= [.t 2]) (T.aq _ _) Tryz.func50 rfl rfl Tryz.ntmps50 Tryz.results50 (by simp [AObj.isNest]) (by simp [AObj.isNest]) (by kernel_rfl) ?_;intro X hX hP hC aM aN vals hA;refine ⟨_,by simp,hA, ?_⟩;have af:X.P.follows .mixedOrders=true:=(by rw [hP];exact T.mixed);clear aM aN)
  repeat' (first|fail|((first|((with_reducible (first|apply oA|apply oB));exact rfl;intro K hK)|(refine hK _ ?_;clear hK K)|((with_reducible (first|apply oG|apply oH));iterate 3 exact rfl)|((with_reducible apply oI);(iterate 2 exact rfl);intro K hK)|(with_reducible (first|apply wI|apply wJ|apply wK)));try simp only [go_sem,simprocAttr,aj])|fail|(with_reducible (first|apply oC|apply oJ|exact oK|apply wA|apply wB|apply wC hX hC|apply wD hX hC|apply wE hX hC af|apply wF hX hC af|apply wG|apply wH|apply And.intro))|((with_reducible refine oD ?_ ?_);first|fail|kernel_rfl)|((with_reducible (first|apply oE|apply oF));(iterate 3 exact rfl);all_goals (intro h;first|(exact absurd h (by decide))|((try simp only [go_sem,simprocAttr,aj] at h);(try with_reducible intro K hK);simp only [go_sem,simprocAttr,aj])))|((first|((with_reducible apply wL);exact rfl)|((with_reducible apply wM);exact rfl));all_goals (try ((with_reducible intro h);first|(exact absurd h (by decide))|(try simp only [go_sem,simprocAttr,aj] at h))))|omega|((first|first|refine aa hX hC hP (aP g (by omega)) rfl rfl rfl (by simp only [go_sem,simprocAttr,aj]) rfl ?_);try simp only [go_sem,simprocAttr,aj])|(intro h))
end Go.Ab
end
section
namespace Go.Ab
open Go.Proofs
attribute [local congr] ACall.congr
set_option maxRecDepth 10000
set_option maxHeartbeats 8000000
def Pu:Gr:=⟨3, [(0,1),(0,2)]⟩
def Pv:Pl:=⟨[0,1,2], [[0,1], [], []]⟩
def Pw:Gr:=⟨4, [(0,1),(0,2),(1,3),(2,3)]⟩
def Px:Pl:=⟨[0,1,2,3], [[0,1], [2], [3], []]⟩
end Go.Ab
end
section
namespace Go.Ab
open Go.Proofs
attribute [local congr] ACall.congr
set_option maxRecDepth 10000
def Py (l:List Int) (k:Nat):Bool:=(List.range k).all fun i=>decide (l.getD i 0=(i:Int))
def Ec (g:Gr) (names order:List Int) (k:Nat):List Edge:=(List.range k).map fun i=>(names.getD (g.es.getD (order.getD i 0).toNat (0,0)).1.toNat 0,names.getD (g.es.getD (order.getD i 0).toNat (0,0)).2.toNat 0)
def gw (g:Gr) (names order:List Int):Gr:=⟨g.n,Ec g names order order.length⟩
theorem xh {g:Gr} {names order:List Int} {k:Nat} :(Ec g names order k).length=k:=by simp [Ec]
def Jg (g:Gr) (names order:List Int):Bool:=aU g&&fN names g.n&&fN order g.es.length
def Ow (g:Gr) (names order:List Int):Gr:=if Jg g names order then gw g names order else ⟨0, []⟩
end Go.Ab
end
section
namespace Go.Ab
def Ed (g:Gr) (a b:Int):Prop:=∃i,i<g.es.length∧tl g i=a∧hd g i=b
def JQ (g:Gr) (l:List Int):Prop:=∀i,i<l.length→Ed g (l.getD i 0) (l.getD ((i+1) % l.length) 0)
def CL (g:Gr) (way:List Int) (at_:Int):Prop:=∀p,p<way.length→Ed g ((way++ [at_]).getD (p+1) 0) (way.getD p 0)
theorem o3 {l:List Int} {a:Int} :(l++ [a]).getD l.length 0=a:=by
 rw [List.getD_eq_getElem?_getD,List.getElem?_append_right (Nat.le_refl _)];simp
theorem sj {g:Gr} (hm:aU g=true):∀(f:Nat) (way:List Int) (a:Nat),a<g.n.toNat→(a:Int)∉aI g→CL g way a→left g way≤f→
 CL g (jY g (cz g (aI g)) f way a).1 (jY g (cz g (aI g)) f way a).2∧0≤(jY g (cz g (aI g)) f way a).2∧(jY g (cz g (aI g)) f way a).2∈(jY g (cz g (aI g)) f way a).1
 |f,way,a,ha,hn,hc,hl=>by
  by_cases hmem:(a:Int)∈way
  ·rw [jt (.inr hmem)]
   exact ⟨hc,by simp only;omega,hmem⟩
  ·have hla:=ig ha hmem
   cases f with
   |zero=>omega
   |succ f=>
    obtain ⟨⟨i,hi,Ox,Df,I5⟩,_⟩:=rM hm (FF hm ha hn)
    have htr:=bY hm hi
    rw [Df] at htr
    obtain ⟨b,I6⟩:∃b:Nat,iI g (cz g (aI g)) a=b:=⟨(iI g (cz g (aI g)) a).toNat,by omega⟩
    rw [I6] at I5 htr Df
    have e1:jY g (cz g (aI g)) (f+1) way a=jY g (cz g (aI g)) f (way++ [(a:Int)]) b:=by
     simp only [jY];rw [if_neg (by intro h;rcases h with h|h;omega;exact hmem h),I6]
    rw [e1]
    refine sj hm f (way++ [(a:Int)]) b (by omega) I5 ?_ (by omega)
    intro p hp
    rw [List.length_append,List.length_singleton] at hp
    by_cases gv:p<way.length
    ·have:=hc p gv
     rw [eo (by simp;omega),eo gv]
     exact this
    ·have:p=way.length:=by omega
     subst this
     have e2:=o3 (l:=way++ [(a:Int)]) (a:=(b:Int))
     rw [List.length_append,List.length_singleton] at e2
     rw [e2,o3]
     exact ⟨i,hi,Df,Ox⟩
theorem o4 {l:List Int} {k p:Nat} :(l.drop k).getD p 0=l.getD (k+p) 0:=by
 rw [List.getD_eq_getElem?_getD,List.getElem?_drop, ← List.getD_eq_getElem?_getD]
theorem JQ.L0 {g:Gr} {l:List Int} (h:∀p,p<l.length→Ed g (l.getD ((p+1) % l.length) 0) (l.getD p 0)) (h0:0<l.length):JQ g (kr l.reverse):=by
 have JP:0<l.reverse.length:=by simpa using h0
 obtain ⟨k,xA,hk2,_⟩:=dh (ij JP)
 rw [List.length_reverse] at hk2
 have e1:kr l.reverse=l.reverse.drop k++l.reverse.take k:=by simp only [kr,xA,Int.toNat_natCast]
 have hlen:(kr l.reverse).length=l.length:=by rw [e1];simp;omega
 have hg:∀i,i<l.length→(kr l.reverse).getD i 0=l.getD (l.length - 1 - (i+k) % l.length) 0:=by
  intro i hi
  rw [e1,List.getD_eq_getElem?_getD]
  by_cases hik:i<l.length - k
  ·rw [List.getElem?_append_left (by simp;omega),List.getElem?_drop,List.getElem?_reverse (by omega),Nat.mod_eq_of_lt (by omega), ← List.getD_eq_getElem?_getD]
   congr 1;omega
  ·rw [List.getElem?_append_right (by simp;omega),List.length_drop,List.length_reverse,List.getElem?_take,if_pos (by omega),List.getElem?_reverse (by omega), ← List.getD_eq_getElem?_getD]
   have:(i+k) % l.length=i+k - l.length:=by rw [Nat.mod_eq_sub_mod (by omega),Nat.mod_eq_of_lt (by omega)]
   rw [this];congr 1;omega
 intro i hi
 rw [hlen] at hi ⊢
 rw [hg i hi,hg _ (Nat.mod_lt _ h0)]
 have hmm:((i+1) % l.length+k) % l.length=((i+k) % l.length+1) % l.length:=by
  rw [Nat.mod_add_mod,Nat.mod_add_mod];congr 1;omega
 rw [hmm]
 have hj:=Nat.mod_lt (i+k) h0
 generalize (i+k) % l.length=j at hj ⊢
 by_cases tO:j+1<l.length
 ·rw [Nat.mod_eq_of_lt tO]
  have:=h (l.length - 1 - (j+1)) (by omega)
  rw [Nat.mod_eq_of_lt (by omega),show l.length - 1 - (j+1)+1=l.length - 1 - j from by omega] at this
  exact this
 ·have:j+1=l.length:=by omega
  rw [this,Nat.mod_self]
  have:=h (l.length - 1) (by omega)
  rw [show l.length - 1+1=l.length from by omega,Nat.mod_self] at this
  rw [show l.length - 1 - j=0 from by omega]
  exact this
def L3 (g:Gr):Prop:=∃r:Int→Nat,∀i,i<g.es.length→r (tl g i)<r (hd g i)
theorem zf {g:Gr} (hm:aU g=true):AY g=true↔L3 g:=by
 constructor
 ·intro h
  refine ⟨fun v=>((wT g.n.toNat (aI g) (aI g).length).getD v.toNat 0).toNat,fun i hi=> ?_⟩
  have h1:=Ct (Aj hm h) hi
  have h2:=rQ (n:=g.n.toNat) (l:=aI g) (k:=(aI g).length) (y:=(tl g i).toNat)
  simp only;omega
 ·rintro ⟨r,hr⟩
  cases h:AY g with
  |true=>rfl
  |false=>
   exfalso
   obtain ⟨y,hy,hn⟩:=yW hm h
   have key:∀(p:Nat) (y:Nat),y<g.n.toNat→(y:Int)∉aI g→r y=p→False:=by
    intro p
    induction p using Nat.strongRecOn with
    |_ p ih=>
     intro y hy hn hp
     obtain ⟨t,i,hi,h1,rfl,h2⟩:=FF hm hy hn
     have htr:=bY hm hi
     have hlt:=hr i hi
     rw [h1,hp] at hlt
     have e:((tl g i).toNat:Int)=tl g i:=by omega
     exact ih (r (tl g i)) hlt (tl g i).toNat (by omega) (by rw [e];exact h2) (by rw [e])
   exact key _ y hy hn rfl
theorem Ee {g:Gr} (hm:aU g=true) (h:AY g=true):js g= []:=by
 have hall:=(bU.1 (yV hm h)).2
 have hn:=aY hm
 rcases start_eq hm with ⟨h1,h2⟩|⟨a,ha,h1,h2,h3⟩
 ·have:jr g=([], -1):=by
   unfold jr;rw [h1];exact jt (.inl (by omega)) _
  simp only [js,this]
  rw [if_pos (by omega)]
 ·exact absurd (hall a (dO.2 (by omega))) h3
theorem CM {g:Gr} (hm:aU g=true) (h:AY g=false):0<(js g).length∧JQ g (js g):=by
 obtain ⟨y,hy,Oy⟩:=yW hm h
 have hn:=aY hm
 rcases start_eq hm with ⟨h1,h2⟩|⟨a,ha,h1,h2,h3⟩
 ·exfalso
  rcases eS (f:=fun n:Int=>decide (0<n)) (l:=cz g (aI g)) 0 with ⟨_,h4⟩|⟨k,h4,_⟩
  ·have h5:=(oV hm hy).2 Oy
   have h6:=h4 ((cz g (aI g)).getD y 0) (by rw [List.getD_eq_getElem?_getD,jW hy];exact List.mem_of_getElem? (jW hy))
   rw [kU hy] at h6
   exact absurd h5 (of_decide_eq_false h6)
  ·omega
 ·obtain ⟨h4,h5,h6⟩:=sj hm g.n.toNat [] a ha h3 (fun p hp=>by simp at hp) uU
  have hw:jr g=jY g (cz g (aI g)) g.n.toNat [] a:=by unfold jr;rw [h1]
  rw [← hw] at h4 h5 h6
  obtain ⟨k,xA,hk2,I2⟩:=dh h6
  have hc:js g=kr ((jr g).1.drop k).reverse:=by
   simp only [js]
   rw [if_neg (by omega),xA,Int.toNat_natCast]
  have hlen:((jr g).1.drop k).length=(jr g).1.length - k:=by simp
  have h0:0<((jr g).1.drop k).length:=by omega
  refine ⟨?_, ?_⟩
  ·rw [hc]
   simp only [kr,List.length_append,List.length_drop,List.length_take,List.length_reverse]
   omega
  ·rw [hc]
   refine JQ.L0 (fun p hp=> ?_) h0
   rw [hlen] at hp ⊢
   have h7:=h4 (k+p) (by omega)
   rw [o4 (p:=p)]
   by_cases tO:p+1<(jr g).1.length - k
   ·rw [Nat.mod_eq_of_lt tO,o4]
    rw [eo (by omega)] at h7
    exact h7
   ·have:p+1=(jr g).1.length - k:=by omega
    rw [this,Nat.mod_self,o4,Nat.add_zero,I2]
    rw [show k+p+1=(jr g).1.length from by omega,o3] at h7
    exact h7
end Go.Ab
end
section
namespace Go.Ab
def nm (names:List Int) (v:Int):Int:=names.getD v.toNat 0
structure iK (g:Gr) (names order:List Int):Prop where
 may:aU g=true
 FP:fN names g.n=true
 ord:fN order (g.es.length:Int)=true
section
variable {g:Gr} {names order:List Int} (h:iK g names order)
include h
theorem iK.len:(gw g names order).es.length=g.es.length:=by
 have:=(bU.1 h.ord).1
 simp only [gw,xh];omega
theorem iK.iP {i:Nat} (hi:i<g.es.length):∃j,j<g.es.length∧order.getD i 0=(j:Int)∧(gw g names order).es.getD i (0,0)=(nm names (tl g j),nm names (hd g j)):=by
 have AU:=(bU.1 h.ord).1
 have:=rP h.ord _ (gq (l:=order) (m:=i) (by omega))
 refine ⟨(order.getD i 0).toNat,by omega,by omega, ?_⟩
 simp only [gw,Ec,nm,tl,hd]
 rw [List.getD_eq_getElem?_getD,List.getElem?_map,List.getElem?_range (by omega)]
 rfl
theorem iK.back {j:Nat} (hj:j<g.es.length):∃i,i<g.es.length∧order.getD i 0=(j:Int)∧(gw g names order).es.getD i (0,0)=(nm names (tl g j),nm names (hd g j)):=by
 obtain ⟨AU,hall⟩:=bU.1 h.ord
 obtain ⟨i,hi,hil,he⟩:=dh (hall (j:Int) (dO.2 (by omega)))
 obtain ⟨j',_,h2,h3⟩:=h.iP (i:=i) (by omega)
 have:j'=j:=by omega
 subst this
 exact ⟨i,by omega,he,h3⟩
theorem iK.inj {a b:Int} (ha:0≤a∧a<g.n) (hb:0≤b∧b<g.n) (e:nm names a=nm names b):a=b:=by
 have hnl:=(bU.1 h.FP).1
 have:=j4 h.FP (i:=a.toNat) (j:=b.toNat) (by omega) (by omega) e
 omega
theorem iK.range {a:Int} (ha:0≤a∧a<g.n):0≤nm names a∧nm names a<g.n:=by
 have hnl:=(bU.1 h.FP).1
 exact rP h.FP _ (gq (by omega))
theorem iK.inv {a:Int} (ha:0≤a∧a<g.n):dn names (nm names a)=a:=by
 have hnl:=(bU.1 h.FP).1
 obtain ⟨k,hk,cw,he⟩:=dh (gq (l:=names) (m:=a.toNat) (by omega))
 have h2:=j4 h.FP cw (j:=a.toNat) (by omega) he
 have h3:dn names (nm names a)=k:=hk
 omega
theorem iK.of {v:Int} (hv:0≤v∧v<g.n):∃a,(0≤a∧a<g.n)∧nm names a=v:=by
 obtain ⟨hnl,hall⟩:=bU.1 h.FP
 obtain ⟨k,hk,cw,he⟩:=dh (hall v (dO.2 (by omega)))
 exact ⟨k,by omega,he⟩
theorem iK.may':aU (gw g names order)=true:=by
 have hn:=aY h.may
 have hlen:=h.len
 have hall:(gw g names order).es.any (oT (gw g names order))=false:=by
  rw [List.any_eq_false]
  intro e he
  obtain ⟨i,hi,rfl⟩:=List.getElem_of_mem he
  obtain ⟨j,hj,_,h3⟩:=h.iP (i:=i) (by omega)
  rw [List.getD_eq_getElem?_getD,List.getElem?_eq_getElem hi,Option.getD_some] at h3
  rw [h3]
  have h4:=h.range (bY h.may hj)
  have h5:=h.range (di h.may hj)
  have e1:(gw g names order).n=g.n:=rfl
  simp only [oT,uL,e1,Bool.or_eq_true,decide_eq_true_eq]
  omega
 have e1:(gw g names order).n=g.n:=rfl
 simp only [aU,hall,e1,Bool.not_false,Bool.and_true,Bool.and_eq_true,decide_eq_true_eq]
 omega
omit h in
theorem o5 {i j:Nat} (e:(gw g names order).es.getD i (0,0)=(nm names (tl g j),nm names (hd g j))):tl (gw g names order) i=nm names (tl g j)∧hd (gw g names order) i=nm names (hd g j):=⟨congrArg Prod.fst e,congrArg Prod.snd e⟩
theorem iK.loop:(0≤ju (gw g names order))↔0≤ju g:=by
 have key:∀g:Gr,(0≤ju g)↔∃i,i<g.es.length∧tl g i=hd g i:=by
  intro g
  have:=gR (fun e:Edge=>decide (e.1=e.2)) g.es
  rw [show (0≤ju g)↔g.es.any (fun e:Edge=>decide (e.1=e.2))=true from by rw [← this];simp [ju],List.any_eq_true]
  constructor
  ·rintro ⟨e,he,h2⟩
   obtain ⟨i,hi,rfl⟩:=List.getElem_of_mem he
   refine ⟨i,hi, ?_⟩
   simpa [tl,hd,List.getD_eq_getElem?_getD,List.getElem?_eq_getElem hi] using h2
  ·rintro ⟨i,hi,h2⟩
   refine ⟨_,List.getElem_mem hi, ?_⟩
   simpa [tl,hd,List.getD_eq_getElem?_getD,List.getElem?_eq_getElem hi] using h2
 rw [key,key,h.len]
 constructor
 ·rintro ⟨i,hi,e⟩
  obtain ⟨j,hj,_,h3⟩:=h.iP hi
  obtain ⟨e1,e2⟩:=o5 h3
  exact ⟨j,hj,h.inj (bY h.may hj) (di h.may hj) (by rw [← e1, ← e2,e])⟩
 ·rintro ⟨j,hj,e⟩
  obtain ⟨i,hi,_,h3⟩:=h.back hj
  obtain ⟨e1,e2⟩:=o5 h3
  exact ⟨i,hi,by rw [e1,e2,e]⟩
omit h in
theorem tP (g:Gr):(0≤eV g)↔∃i k,i<g.es.length∧k<g.es.length∧i≠k∧g.es.getD i (0,0)=g.es.getD k (0,0):=by
 have:=gR (mM g) (List.range g.es.length)
 rw [show (0≤eV g)↔(List.range g.es.length).any (mM g)=true from by rw [← this];simp [eV],List.any_eq_true]
 constructor
 ·rintro ⟨i,hi,h2⟩
  have hil:=List.mem_range.1 hi
  have h3:=of_decide_eq_true h2
  rw [List.mem_iff_getElem?] at h3
  obtain ⟨k,hk⟩:=h3
  rw [List.getElem?_take] at hk
  split at hk
  ·rename_i hki
   exact ⟨i,k,hil,by omega,by omega,by rw [List.getD_eq_getElem?_getD (i:=k),hk];rfl⟩
  ·cases hk
 ·rintro ⟨i,k,hi,hk,hne,e⟩
  have main:∀i k,k<i→i<g.es.length→g.es.getD i (0,0)=g.es.getD k (0,0)→mM g i=true:=by
   intro i k hki hi e
   refine decide_eq_true ?_
   rw [e,List.mem_iff_getElem?]
   refine ⟨k, ?_⟩
   rw [List.getElem?_take,if_pos hki,List.getD_eq_getElem?_getD,List.getElem?_eq_getElem (by omega)];rfl
  rcases Nat.lt_or_gt_of_ne hne with hlt|hgt
  ·exact ⟨k,List.mem_range.2 hk,main k i hlt hk e.symm⟩
  ·exact ⟨i,List.mem_range.2 hi,main i k hgt hi e⟩
theorem iK.Jh:(0≤eV (gw g names order))↔0≤eV g:=by
 have AU:=(bU.1 h.ord).1
 rw [tP,tP,h.len]
 constructor
 ·rintro ⟨i,k,hi,hk,hne,e⟩
  obtain ⟨j,hj,ho,h3⟩:=h.iP hi
  obtain ⟨j',hj',ho',DH⟩:=h.iP hk
  refine ⟨j,j',hj,hj',fun e'=> ?_, ?_⟩
  ·subst e'
   exact hne (j4 h.ord (by omega) (by omega) (by rw [ho,ho']))
  ·rw [h3,DH,Prod.mk.injEq] at e
   have e1:=h.inj (bY h.may hj) (bY h.may hj') e.1
   have e2:=h.inj (di h.may hj) (di h.may hj') e.2
   exact Prod.ext e1 e2
 ·rintro ⟨j,j',hj,hj',hne,e⟩
  obtain ⟨i,hi,ho,h3⟩:=h.back hj
  obtain ⟨k,hk,ho',DH⟩:=h.back hj'
  refine ⟨i,k,hi,hk,fun e'=> ?_, ?_⟩
  ·subst e';omega
  ·have e1:tl g j=tl g j':=congrArg Prod.fst e
   have e2:hd g j=hd g j':=congrArg Prod.snd e
   rw [h3,DH,e1,e2]
theorem iK.L4:AY (gw g names order)=AY g:=by
 rw [Bool.eq_iff_iff,zf h.may',zf h.may]
 constructor
 ·rintro ⟨r,hr⟩
  refine ⟨fun v=>r (nm names v),fun j hj=> ?_⟩
  obtain ⟨i,hi,_,h3⟩:=h.back hj
  obtain ⟨e1,e2⟩:=o5 h3
  have:=hr i (by rw [h.len];exact hi)
  rwa [e1,e2] at this
 ·rintro ⟨r,hr⟩
  refine ⟨fun v=>r (dn names v),fun i hi=> ?_⟩
  rw [h.len] at hi
  obtain ⟨j,hj,_,h3⟩:=h.iP hi
  obtain ⟨e1,e2⟩:=o5 h3
  have:=hr j hj
  rw [e1,e2];simp only;rw [h.inv (bY h.may hj),h.inv (di h.may hj)]
  exact this
omit h in
theorem iz {g:Gr} {y:Int} :y∈bI (·.2) g↔(0≤y∧y<g.n)∧∀i,i<g.es.length→hd g i≠y:=by
 simp only [bI,ic,List.mem_map,List.mem_filter,List.mem_range,decide_eq_true_eq]
 have he:∀x:Nat,x<g.n.toNat→(((cU (·.2) g).getD x []).length=0↔∀i,i<g.es.length→hd g i≠(x:Int)):=by
  intro x hx
  have e:(cU (·.2) g).getD x []=bf (·.2) g.es g.es.length (x:Int):=by
   simp [cU,List.getD_eq_getElem?_getD,List.getElem?_range hx,kW]
  rw [e,List.length_eq_zero_iff]
  simp only [bf,List.map_eq_nil_iff,List.filter_eq_nil_iff,List.mem_range,decide_eq_true_eq]
  rfl
 constructor
 ·rintro ⟨x,⟨hx,h0⟩,rfl⟩
  refine ⟨by simp;omega,(he x hx).1 h0⟩
 ·rintro ⟨⟨h1,h2⟩,h3⟩
  have e:((y.toNat:Nat):Int)=y:=by omega
  exact ⟨y.toNat,⟨by omega,(he _ (by omega)).2 (by rw [e];exact h3)⟩,e⟩
omit h in
theorem sk {f:Edge→Int} {g:Gr} :(bI f g).Nodup:=by
 unfold bI ic
 refine List.Pairwise.map _ (fun a b h e=>h (Int.ofNat.inj e)) (List.Pairwise.filter _ List.nodup_range)
theorem iK.bare:(bI (·.2) (gw g names order)).length=(bI (·.2) g).length:=by
 have e1:(gw g names order).n=g.n:=rfl
 have h1:((bI (·.2) g).map (nm names)).length≤(bI (·.2) (gw g names order)).length:=by
  refine Nat.le_trans (count_le _ (bI (·.2) (gw g names order)) ?_ ?_) List.countP_le_length
  ·rw [List.nodup_iff_pairwise_ne]
   refine List.Pairwise.map _ (fun a b h=>h) ?_
   refine List.Pairwise.imp_of_mem ?_ sk
   intro a b ha hb hab e
   exact hab (h.inj (iz.1 ha).1 (iz.1 hb).1 e)
  ·intro v hv
   obtain ⟨y,hy,rfl⟩:=List.mem_map.1 hv
   obtain ⟨hy1,hy2⟩:=iz.1 hy
   refine iz.2 ⟨h.range hy1,fun i hi e=> ?_⟩
   rw [h.len] at hi
   obtain ⟨j,hj,_,h3⟩:=h.iP hi
   rw [(o5 h3).2] at e
   exact hy2 j hj (h.inj (di h.may hj) hy1 e)
 have h2:((bI (·.2) (gw g names order)).map (dn names)).length≤(bI (·.2) g).length:=by
  have hsplit:∀v∈bI (·.2) (gw g names order),∃a,(0≤a∧a<g.n)∧nm names a=v:=fun v hv=>h.of (iz.1 hv).1
  refine Nat.le_trans (count_le _ (bI (·.2) g) ?_ ?_) List.countP_le_length
  ·rw [List.nodup_iff_pairwise_ne]
   refine List.Pairwise.map _ (fun a b h=>h) ?_
   refine List.Pairwise.imp_of_mem ?_ sk
   intro a b ha hb hab e
   obtain ⟨a',A8,rfl⟩:=hsplit a ha
   obtain ⟨b',hb',rfl⟩:=hsplit b hb
   rw [h.inv A8,h.inv hb'] at e
   exact hab (by rw [e])
  ·intro v hv
   obtain ⟨y,hy,rfl⟩:=List.mem_map.1 hv
   obtain ⟨a,ha,rfl⟩:=hsplit y hy
   rw [h.inv ha]
   refine iz.2 ⟨ha,fun j hj e=> ?_⟩
   obtain ⟨i,hi,_,h3⟩:=h.back hj
   refine (iz.1 hy).2 i (by rw [h.len];exact hi) ?_
   rw [(o5 h3).2,e]
 simp only [List.length_map] at h1 h2
 omega
theorem iK.kind:(cg (gw g names order)).1=(cg g).1:=by
 have hm:=h.may'
 have hc:(0<(js (gw g names order)).length)↔0<(js g).length:=by
  have key:∀g:Gr,aU g=true→((0<(js g).length)↔AY g=false):=by
   intro g hm
   cases ho:AY g with
   |true=>rw [Ee hm ho];simp
   |false=>simp [(CM hm ho).1]
  rw [key _ hm,key _ h.may,h.L4]
 have h1:=h.loop
 have h2:=h.Jh
 have h3:=h.bare
 simp only [cg,gF,hm,h.may]
 simp only [Bool.true_eq_false,if_false,h1,h2,hc,h3]
 split
 ·rfl
 split
 ·rfl
 split
 ·rfl
 split<;>rfl
end
end Go.Ab
end
section
namespace Go.Ab
open Go.Proofs
set_option maxRecDepth 10000
def M0:Nat→List Edge→Int→Option (Int × Int)
 |_, [],_=>none
 |m,e::N,v=>if e.1=v then some ((m:Int),e.2) else M0 (m+1) N v
def Pz (m:Nat) (N:List Edge) (t:It):It:=if 0≤t.1 then t else match M0 m N t.2.1 with
 |some (i,h)=>(i,t.2.1,h)
 |none=>t
structure M1 (g:Gr) (p:Pl):Prop where
 run:cB g p
 n:(CB g p).n≤64
 es:(CB g p).es.length≤128
variable {g:Gr} {p:Pl}
end Go.Ab
end
section
namespace Go.Ab
open Go.Proofs
set_option maxRecDepth 10000
variable {g:Gr} {p:Pl}
theorem zg {p:Pl} {k:Nat} {v:Int} (hk:k≤p.ord.length) (h:v∈p.ord.take k):∃j,j<k∧au p j=v:=by
 obtain ⟨j,hj,e⟩:=List.mem_iff_getElem.1 h
 simp only [List.length_take] at hj
 refine ⟨j,by omega, ?_⟩
 rw [← e,au,List.getD_eq_getElem?_getD,List.getElem?_eq_getElem (by omega)]
 simp
end Go.Ab
end
section
namespace Go.Ab
open Go.Proofs
set_option maxRecDepth 10000
variable {g:Gr} {p:Pl}
theorem o6 (hr:cB g p):bE p (au p (g.n.toNat - 1))= []∧au p (g.n.toNat - 1)∈loose (k5 g p):=by
 have hm:=aG hr.1
 have hn:=aY hm
 obtain ⟨k,hk⟩:∃k,g.n.toNat=k+1:=⟨g.n.toNat - 1,by omega⟩
 obtain ⟨hi,_,_⟩:=dB hm hr.2.1 (k:=k) (by omega) fun j hj=>hr.2.2 j (by omega)
 obtain ⟨A,X,C,hrw,_,_,_,hs⟩:=iy hm hi.togG (hr.2.2 k (by omega))
 have hL:k5 g p=A++aJ g (au p k) (bE p (au p k))++C:=by
  unfold k5;rw [hk]
  show (aA _ _ _ _).2.row=_
  rw [hs]
 have xA:g.n.toNat - 1=k:=by omega
 rw [xA]
 have kC:=yj hr
 have hx:=aF hr.2.1 (k:=k) (by omega)
 have h0:bE p (au p k)= []:=by
  refine Decidable.byContradiction fun h0=> ?_
  have ha:aJ g (au p k) (bE p (au p k))=(bE p (au p k)).map (fE g (au p k)):=if_neg h0
  obtain ⟨i,hi'⟩:=List.exists_mem_of_ne_nil _ h0
  have h1:=kC (fE g (au p k) i) (by rw [hL,ha];simp;exact .inr (.inl ⟨i,hi',rfl⟩))
  obtain ⟨e,rfl,_⟩:=jA ((bN hr.2.1 hx.1 hx.2).mem_iff.1 hi')
  simp [fE] at h1
  omega
 refine ⟨h0, ?_⟩
 have ha:aJ g (au p k) (bE p (au p k))= [(-1,au p k, -1)]:=if_pos h0
 rw [hL,ha,tK,tK]
 simp [loose]
theorem lN {f:Edge→Int} {g:Gr} {y:Int} :y∈bI f g↔(0≤y∧y<g.n)∧bf f g.es g.es.length y= []:=by
 simp only [bI,ic,List.mem_map,List.mem_filter,List.mem_range,decide_eq_true_eq]
 have he:∀x:Nat,x<g.n.toNat→(((cU f g).getD x []).length=0↔bf f g.es g.es.length (x:Int)= []):=by
  intro x hx
  have e:(cU f g).getD x []=bf f g.es g.es.length (x:Int):=by
   simp [cU,List.getD_eq_getElem?_getD,List.getElem?_range hx,kW]
  rw [e,List.length_eq_zero_iff]
 constructor
 ·rintro ⟨x,⟨hx,h0⟩,rfl⟩
  exact ⟨by simp;omega,(he x hx).1 h0⟩
 ·rintro ⟨⟨h1,h2⟩,h3⟩
  have e:((y.toNat:Nat):Int)=y:=by omega
  exact ⟨y.toNat,⟨by omega,(he _ (by omega)).2 (by rw [e];exact h3)⟩,e⟩
end Go.Ab
end
section
namespace Go.Ab
open Go.Proofs
set_option maxRecDepth 10000
def iT (l:List It):List It:=l.filter fun t=>decide (0≤t.1)
theorem lP {a b:List It} :iT (a++b)=iT a++iT b:=by simp [iT]
theorem iL {l:List It} {t:It} :t∈iT l↔t∈l∧0≤t.1:=by simp [iT]
theorem qj {x:Int} {l:List It} (h:fH x l):fH x (iT l):=fun t ht=>h t (iL.1 ht).1
def vb (x:Int) (l:List It):Prop:=∀t∈l,t.2.2=x
theorem lQ {g:Gr} {x:Int} {o:List Int} (ho:∀i∈o,0≤i):iT (aJ g x o)=o.map (fE g x):=by
 unfold aJ
 split
 ·rename_i h;subst h;rfl
 ·refine List.filter_eq_self.2 fun t ht=> ?_
  obtain ⟨i,hi,rfl⟩:=List.mem_map.1 ht
  exact decide_eq_true (ho i hi)
theorem tQ {x:Int} :∀ {X Y c d:List It},vb x X→vb x Y→fH x c→fH x d→X++c=Y++d→X=Y∧c=d
 | [], [],c,d,_,_,_,_,e=>⟨rfl,e⟩
 | [],u::Y,c,d,_,hY,hc,_,e=>by
   simp only [List.nil_append] at e
   exact absurd (hY u (by simp)) (hc u (by rw [e];simp))
 |t::X, [],c,d,hX,_,_,hd,e=>by
  simp only [List.nil_append] at e
  exact absurd (hX t (by simp)) (hd t (by rw [← e];simp))
 |t::X,u::Y,c,d,hX,hY,hc,hd,e=>by
  simp only [List.cons_append,List.cons.injEq] at e
  obtain ⟨e1,e2⟩:=tQ (fun s hs=>hX s (by simp [hs])) (fun s hs=>hY s (by simp [hs])) hc hd e.2
  exact ⟨by rw [e.1,e1],e2⟩
theorem xj {x:Int} :∀ {a b X Y c d:List It},fH x a→fH x b→vb x X→vb x Y→fH x c→fH x d→X≠ []→Y≠ []→a++X++c=b++Y++d→a=b∧X=Y∧c=d
 |t::a, [],X,u::Y,c,d,ha,_,_,hY,_,_,_,_,e=>by
  simp only [List.cons_append,List.nil_append,List.cons.injEq] at e
  exact absurd (by rw [e.1];exact hY u (by simp)) (ha t (by simp))
 | [],t::b,u::X,Y,c,d,_,hb,hX,_,_,_,_,_,e=>by
   simp only [List.cons_append,List.nil_append,List.cons.injEq] at e
   exact absurd (by rw [← e.1];exact hX u (by simp)) (hb t (by simp))
 |t::a,u::b,X,Y,c,d,ha,hb,hX,hY,hc,hd,nX,nY,e=>by
  simp only [List.cons_append,List.cons.injEq] at e
  obtain ⟨e1,e2,e3⟩:=xj (fun s hs=>ha s (by simp [hs])) (fun s hs=>hb s (by simp [hs])) hX hY hc hd nX nY e.2
  exact ⟨by rw [e.1,e1],e2,e3⟩
 | [], [],X,Y,c,d,_,_,hX,hY,hc,hd,_,_,e=>by
   refine ⟨rfl, ?_⟩
   simp only [List.nil_append] at e
   exact tQ hX hY hc hd e
 | [],_::_, [],_,_,_,_,_,_,_,_,_,h,_,_=>absurd rfl h
 |_::_, [],_, [],_,_,_,_,_,_,_,_,_,h,_=>absurd rfl h
theorem CN {g:Gr} (hm:aU g=true) {f:Fr} (hi:gG g f) {x:Int} (hR:aC g f x=true) (hn:bw g x≠0):
 ∃a X c,iT f.row=a++X++c∧fH x a∧fH x c∧vb x X∧X.length=bw g x∧∀o,iT (aA g f x o).2.row=a++iT (aJ g x o)++c:=by
 obtain ⟨A,X,C,hr,hA,hC,hX,cX⟩:=cQ hm hi hR hn
 have hx:=(aR hR).1
 have hmem:∀t∈X,t∈f.row:=fun t ht=>by rw [hr];simp [ht]
 have hiff:∀t∈X,(0≤t.1↔t.2.2=x):=fun t ht=>by
  have h1:=(hi.it t (hmem t ht)).head hm
  have h2:=hX.al t ht
  omega
 refine ⟨iT A,iT X,iT C,by rw [hr,lP,lP],qj hA,qj hC,fun t ht=> ?_, ?_,fun o=> ?_⟩
 ·obtain ⟨h1,h2⟩:=iL.1 ht
  exact (hiff t h1).1 h2
 ·rw [← cX,iT, ← List.countP_eq_length_filter]
  refine List.countP_congr fun t ht=> ?_
  simp only [kF,decide_eq_true_eq]
  exact hiff t ht
 ·rw [j9 o hr hA hC hX]
  simp only [lP]
theorem Ef {g:Gr} (hm:aU g=true) {f:Fr} (hi:gG g f) {x:Int} (hR:aC g f x=true) (hn:bw g x≠0) {a X c:List It} (e:iT f.row=a++X++c) (ha:fH x a) (hc:fH x c) (hX:vb x X) (nX:X≠ []) (o:List Int):
 iT (aA g f x o).2.row=a++iT (aJ g x o)++c:=by
 obtain ⟨b,Y,d,e',hb,hd,hY,lY,hs⟩:=CN hm hi hR hn
 have nY:Y≠ []:=fun h=>hn (by rw [← lY,h];rfl)
 obtain ⟨e1,_,e3⟩:=xj hb ha hY hX hd hc nY nX (e'.symm.trans e)
 rw [hs o,e1,e3]
theorem CO {g:Gr} (hm:aU g=true) {f:Fr} (hi:gG g f) {x:Int} (h0:0≤x) (h1:x<g.n) (hp:x∉f.pl) {a X c:List It} (e:iT f.row=a++X++c) (ha:fH x a) (hc:fH x c) (hX:vb x X) (nX:X≠ []) (hl:X.length=bw g x):aC g f x=true:=by
 have hmem:∀j,j<f.row.length→Ap g (f.row.getD j (0,0,0)):=fun j hj=>hi.it _ (aT hj)
 have zV:f.row.countP (kF x)=X.length:=by
  have h2:f.row.countP (kF x)=(iT f.row).countP (kF x):=by
   rw [iT,List.countP_filter]
   refine List.countP_congr fun t ht=> ?_
   have:=(hi.it t ht).head hm
   simp only [kF,Bool.and_eq_true,decide_eq_true_eq]
   omega
  have c1:a.countP (kF x)=0:=List.countP_eq_zero.2 fun t ht=>by simp [kF,ha t ht]
  have c2:c.countP (kF x)=0:=List.countP_eq_zero.2 fun t ht=>by simp [kF,hc t ht]
  have c3:X.countP (kF x)=X.length:=List.countP_eq_length.2 fun t ht=>by simp [kF,hX t ht]
  rw [h2,e,List.countP_append,List.countP_append,c1,c2,c3]
  omega
 rw [← nQ hm hi,fU,if_neg (by rintro (h|h|h);omega;omega;exact hp h),fV h0 h1,Bool.and_eq_true,decide_eq_true_eq]
 have hN:(bf (fun e=>e.2) g.es g.es.length x).length=bw g x:=rfl
 rw [hN]
 refine ⟨?_, ?_⟩
 ·unfold aS
  rw [jy,j8 (Nat.le_refl _),List.take_length,zV,hl]
 ·rw [Bool.or_eq_true];right
  rcases cM (row:=f.row) (x:=x) f.row.length with ⟨hs,hno⟩|⟨p,q,n,hs,hab,iO,hc0,dD,hpx,L5,hlo,hhi⟩
  ·have hs':aS f.row x=(-1,0,0):=hs
   rw [hs'];simp [pM]
  ·have hs':aS f.row x=((p:Int),(q:Int),(n:Int)):=hs
   rw [hs']
   simp only [Int.toNat_natCast,pM,Bool.not_eq_true']
   rw [← Bool.not_eq_true,tH iO]
   rintro ⟨j,h2,h3,h4⟩
   simp only [j5,Bool.and_eq_true,decide_eq_true_eq] at h4
   have hja:p<j:=by
    refine Nat.lt_of_le_of_ne h2 fun e=> ?_
    subst e;exact h4.1 hpx
   have hjb:j<q - 1:=by
    refine Nat.lt_of_le_of_ne (by omega) fun e=> ?_
    subst e;exact h4.1 L5
   have hsub:=((r9 (i:=j+1) (j:=q - 1) (r9 (i:=p+1) (j:=j) (r9 (i:=0) (j:=p) (List.nil_sublist _) (by omega) (by omega)) (by omega) (by omega)) (by omega) (by omega)).trans (List.take_sublist _ f.row)).filter fun t=>decide (0≤t.1)
   have hp1:=(hmem p (by omega)).head hm
   have M3:=(hmem j (by omega)).head hm
   have hq1:=(hmem (q - 1) (by omega)).head hm
   generalize f.row.getD p (0,0,0)=s1 at hsub hp1 hpx
   generalize f.row.getD j (0,0,0)=s2 at hsub M3 h4
   generalize f.row.getD (q - 1) (0,0,0)=s3 at hsub hq1 L5
   have hf:([]++ [s1]++ [s2]++ [s3]).filter (fun t=>decide (0≤t.1))= [s1,s2,s3]:=List.filter_eq_self.2 fun t ht=>by
    simp only [List.nil_append,List.cons_append,List.mem_cons,List.not_mem_nil,or_false] at ht
    rcases ht with rfl|rfl|rfl
    ·exact decide_eq_true (hp1.1.2 (by omega))
    ·exact decide_eq_true (M3.1.2 h4.2)
    ·exact decide_eq_true (hq1.1.2 (by omega))
   rw [hf] at hsub
   have hsub: [s1,s2,s3].Sublist (a++(X++c)):=by rw [← List.append_assoc, ← e];exact hsub
   rw [List.sublist_append_iff] at hsub
   obtain ⟨l1,l',el,k1,k'⟩:=hsub
   rw [List.sublist_append_iff] at k'
   obtain ⟨l2,l3,rfl,k2,k3⟩:=k'
   match l1,el,k1 with
   |t::l1,el,k1=>
    simp only [List.cons_append,List.cons.injEq] at el
    exact ha t (k1.subset (by simp)) (by rw [← el.1];exact hpx)
   | [],el,_=>
     match l2,el,k2 with
     | [],el,_=>
       simp only [List.nil_append] at el
       exact hc s1 (k3.subset (by rw [← el];simp)) hpx
     | [t],el,_=>
       simp only [List.nil_append,List.cons_append,List.cons.injEq] at el
       exact hc s3 (k3.subset (by rw [← el.2];simp)) L5
     |t::u::l2,el,k2=>
      simp only [List.nil_append,List.cons_append,List.cons.injEq] at el
      exact h4.1 (by rw [el.2.1];exact hX u (k2.subset (by simp)))
end Go.Ab
end
section
namespace Go.Ab
open Go.Proofs
set_option maxRecDepth 10000
def Ji (gone:List Int) (i:Nat):Bool:= !decide ((i:Int)∈gone)
def F3 (gone:List Int) (k:Nat):List Nat:=(List.range k).filter (Ji gone)
def Oz (gone:List Int) (k:Nat):Nat:=(F3 gone k).length
def L6 (gone:List Int) (es:List Edge) (k:Nat):List Edge:=(F3 gone k).map fun i=>es.getD i (0,0)
def OA (g:Gr) (gone:List Int):Gr:=⟨g.n,L6 gone g.es g.es.length⟩
def M4 (gone:List Int) (i:Int):Int:=if i∈gone then -1 else (Oz gone i.toNat:Int)
def L7 (gone:List Int) (l:List Int):List Int:=(l.filter fun i=>decide (i∉gone)).map (M4 gone)
def OB (p:Pl) (gone:List Int):Pl:=⟨p.ord,p.outs.map (L7 gone)⟩
variable {g:Gr} {p:Pl} {gone:List Int}
def OC (gone:List Int) (t:It):It:=(M4 gone t.1,t.2.1,t.2.2)
def OD (gone:List Int) (l:List It):List It:=(l.filter fun t=>decide (t.1∉gone)).map (OC gone)
theorem fW (hr:cB g p):bw g (au p 0)=0:=by
 have hm:=aG hr.1
 have hn:=aY hm
 refine Decidable.byContradiction fun hnz=> ?_
 obtain ⟨A,X,C,hrw,_,_,hX,_⟩:=cQ hm (y3 g).togG (hr.2.2 0 (by omega)) hnz
 obtain ⟨q,X0,e1,_⟩:=hX.fst
 rw [e1] at hrw
 simp at hrw
end Go.Ab
end
section
namespace Go.Ab
open Go.Proofs
set_option maxRecDepth 10000
theorem ve {g:Gr} (hm:aU g=true) {f:Fr} (hi:gG g f) {x:Int} (hR:aC g f x=true) (hn:bw g x≠0) (o:List Int):
 ∃a c,iT f.row=a++iT (aA g f x o).1.1++c∧fH x a∧fH x c∧vb x (iT (aA g f x o).1.1)∧(iT (aA g f x o).1.1).length=bw g x∧iT (aA g f x o).2.row=a++iT (aJ g x o)++c:=by
 obtain ⟨A,X,C,hr,hA,hC,hX,hc⟩:=cQ hm hi hR hn
 have hx:=(aR hR).1
 have hmem:∀t∈X,t∈f.row:=fun t ht=>by rw [hr];simp [ht]
 have hiff:∀t∈X,(0≤t.1↔t.2.2=x):=fun t ht=>by
  have h1:=(hi.it t (hmem t ht)).head hm
  have h2:=hX.al t ht
  constructor
  ·intro h;rcases h2 with h2|h2
   ·exact h2
   ·exact absurd h2 (h1.1.1 h)
  ·intro h;exact h1.1.2 (by omega)
 rw [j9 o hr hA hC hX]
 refine ⟨iT A,iT C,by rw [hr,lP,lP],qj hA,qj hC,fun t ht=> ?_, ?_,by simp only [lP]⟩
 ·obtain ⟨h1,h2⟩:=iL.1 ht
  exact (hiff t h1).1 h2
 ·rw [← hc,iT, ← List.countP_eq_length_filter]
  refine List.countP_congr fun t ht=> ?_
  simp only [kF,decide_eq_true_eq]
  exact hiff t ht
def cq (g:Gr) (p:Pl) (x:Int):List Int:=(iT ((dW g p g.n.toNat).getD x.toNat [])).map (·.1)
def nZ (g:Gr) (p:Pl) (f:Fr) (x:Int):List Int:=(iT (aA g f x (bE p x)).1.1).map (·.1)
def pP (g:Gr) (p:Pl):Nat→Fr→Prop
 |0,f=>(f.pl.length:Int)=g.n
 |m+1,f=>∃x,aC g f x=true∧nZ g p f x=cq g p x∧pP g p m (tJ g p f x)
theorem sn {g:Gr} {p:Pl} :∀ {m:Nat} {f f':Fr},f.row=f'.row→f.pl.Perm f'.pl→pP g p m f→pP g p m f'
 |0,f,f',_,hp,h=>by
  have h:(f.pl.length:Int)=g.n:=h
  show (f'.pl.length:Int)=g.n
  rw [← hp.length_eq];exact h
 |m+1,f,f',hr,hp,⟨x,h1,h3,h2⟩=>by
  refine ⟨x,by rw [← w5 hr hp];exact h1, ?_,sn ?_ ?_ h2⟩
  ·simp only [nZ,aA,hr] at h3 ⊢;exact h3
  ·simp only [tJ,aA,hr]
  ·exact hp.append_right _
theorem tR {g:Gr} (hc:(cg g).1=0) {p:Pl} (hp:bF g p):∀ {m:Nat} {f:Fr},wY g f→(f.pl.length:Int)+(m+1:Nat)=g.n→pP g p (m+1) f→∀ {x:Int},aC g f x=true→nZ g p f x=cq g p x∧pP g p m (tJ g p f x)
 |m,f,hi,hl,⟨y,tI,JR,hcan⟩,x,hR=>by
  have hm:=aG hc
  by_cases hxy:x=y
  ·subst hxy;exact ⟨JR,hcan⟩
  have py:=bN hp (aR tI).1 (aR tI).2.1
  have px:=bN hp (aR hR).1 (aR hR).2.1
  have i2:=jC hm hi tI py
  match m,hl,hcan with
  |0,hl,hcan=>
   exfalso
   have h1:=jD i2.togG (by show ((f.pl++ [y]).length:Int)=g.n;simp;omega) (x:=x) ⟨(aR hR).1,(aR hR).2.1⟩
   have h2:x∈f.pl++ [y]:=h1
   simp [(aR hR).2.2,hxy] at h2
  |m+1,hl,hcan=>
   obtain ⟨h4,h5,h6,h7,h8⟩:=Ax hc hi hxy hR tI px py
   obtain ⟨h9,h3⟩:=tR hc hp i2 (by show (((f.pl++ [y]).length:Nat):Int)+_=_;simp;omega) hcan h5
   refine ⟨?_,y,h4, ?_,sn h6.symm ?_ h3⟩
   ·unfold nZ at h9 ⊢;rw [h7];exact h9
   ·unfold nZ at JR ⊢;rw [h8] at JR;exact JR
   show (f.pl++ [y]++ [x]).Perm (f.pl++ [x]++ [y])
   rw [List.append_assoc,List.append_assoc]
   exact List.Perm.append_left _ (List.Perm.swap ..)
theorem tS {g:Gr} {p:Pl} (h:cB g p):∀ {d k:Nat},k+d=g.n.toNat→pP g p d (fK g p k)
 |0,k,hk=>by
  have hn:=aY (aG h.1)
  obtain ⟨_,gv,_⟩:=dB (aG h.1) h.2.1 (k:=k) (by omega) fun j hj=>h.2.2 j (by omega)
  show ((fK g p k).pl.length:Int)=g.n
  rw [gv,List.length_take,bZ h.2.1];omega
 |d+1,k,hk=>⟨au p k,h.2.2 k (by omega),by
   unfold cq
   rw [nT h.2.1 (Nat.le_refl _) (show k<g.n.toNat by omega)]
   rfl,tS h (k:=k+1) (by omega)⟩
theorem zh {g:Gr} (hc:(cg g).1=0) {p:Pl} (hp:bF g p):∀ {m:Nat} {f:Fr},wY g f→pP g p m f→∀ {i:Nat},i<g.es.length→tl g i∈f.pl→hd g i∉f.pl→∃t∈f.row,t.1=(i:Int)
 |0,f,hi,h,i,hil,_,hh=>by
  have hr:=di (aG hc) hil
  exact absurd (jD hi.togG h (x:=hd g i) hr) hh
 |m+1,f,hi,⟨x,hR,_,h⟩,i,hil,ht,hh=>by
  have hm:=aG hc
  have px:=bN hp (aR hR).1 (aR hR).2.1
  by_cases hx:hd g i=x
  ·obtain ⟨t,h1,h2,_⟩:=u6 hm hi hR hil hx
   exact ⟨t,h1,h2⟩
  ·obtain ⟨t,h1,h2⟩:=zh hc hp (jC hm hi hR px) h hil (List.mem_append.2 (.inl ht)) (fun h1=>by
    rcases List.mem_append.1 h1 with h1|h1
    ·exact hh h1
    ·exact hx (by simpa using h1))
   obtain ⟨A,X,C,hr,_,_,_,hs⟩:=iy hm hi.togG hR
   rw [hs] at h1
   simp only [List.mem_append] at h1
   rcases h1 with (h1|h1)|h1
   ·exact ⟨t,by rw [hr];simp [h1],h2⟩
   ·rcases jB (fun i hi=>px.mem_iff.1 hi) h1 with ⟨h3,_⟩|⟨k,h3,h4,h5,_,h6,_⟩
    ·omega
    ·have:k=i:=by omega
     subst this
     exact absurd (h6 ▸ ht) (aR hR).2.2
   ·exact ⟨t,by rw [hr];simp [h1],h2⟩
def kH (g:Gr) (e:Int):Int:=(g.es.getD e.toNat (0,0)).1
def iY (g:Gr) (e:Int):Int:=(g.es.getD e.toNat (0,0)).2
def o7 (g:Gr) (x:Int):Prop:=0≤x∧x<g.n
instance {g:Gr} {x:Int} :Decidable (o7 g x):=inferInstanceAs (Decidable (0≤x∧x<g.n))
def k7 (g:Gr) (p:Pl) (k:Nat) (W D:List Int):Prop:=∃f,wY g f∧f.pl=D∧W=(iT f.row).map (·.1)∧pP g p k f∧(D.length:Int)+k=g.n∧au p 0∈D
def CP (g:Gr) (p:Pl) (x:Int):Nat:=((wT g.n.toNat p.ord p.ord.length).getD x.toNat 0).toNat
def gr (g:Gr) (p:Pl):PS:=
 {m:=g.es.length,src:=au p 0,ES:=au p (g.n.toNat - 1),tl:=kH g,hd:=iY g,ins:=fun x=>if o7 g x then cq g p x else [],outs:=fun x=>if o7 g x then bE p x else [],mW:=CP g p,Row:=k7 g p,k0:=g.n.toNat - 1}
theorem gy {g:Gr} {p:Pl} {x:Int} (h:o7 g x):(gr g p).ins x=cq g p x:=if_pos h
theorem lR {g:Gr} {p:Pl} {x:Int} (h:¬o7 g x):(gr g p).ins x= []:=if_neg h
theorem gN {g:Gr} {p:Pl} {x:Int} (h:o7 g x):(gr g p).outs x=bE p x:=if_pos h
theorem n0 {g:Gr} {p:Pl} {x:Int} (h:¬o7 g x):(gr g p).outs x= []:=if_neg h
theorem cC {f:Edge→Int} {es:List Edge} {x e:Int} :e∈bf f es es.length x↔(0≤e∧e<es.length)∧f (es.getD e.toNat (0,0))=x:=by
 refine ⟨gV,fun ⟨h1,h2⟩=> ?_⟩
 simp only [bf,List.mem_map,List.mem_filter,List.mem_range,decide_eq_true_eq]
 exact ⟨e.toNat,⟨by omega,h2⟩,by simp;omega⟩
section
variable {g:Gr} {p:Pl}
theorem zi (hm:aU g=true) (hp:bF g p) {k:Nat} (hk:k<g.n.toNat):CP g p (au p k)=k:=by
 have hE:=((y6 hm).2 hp).1
 have:=uX hE (p:=k) (k:=p.ord.length) (by rw [bZ hp];exact hk) (Nat.le_refl _)
 unfold CP
 show ((wT _ _ _).getD (p.ord.getD k 0).toNat 0).toNat=k
 rw [this];simp
theorem vf (h:cB g p) {e:Int} (he:0≤e∧e<g.es.length) {k:Nat} (hk:k<g.n.toNat) (hx:iY g e=au p k):∃j,j<k∧au p j=kH g e:=by
 have hm:=aG h.1
 obtain ⟨hi,gv,_⟩:=dB hm h.2.1 (k:=k) (by omega) fun j hj=>h.2.2 j (by omega)
 obtain ⟨t,h1,h2,h3,_⟩:=u6 hm hi (h.2.2 k hk) (i:=e.toNat) (by omega) hx
 have h4:=hi.tail t h1 (by omega)
 rw [h3,gv] at h4
 exact zg (by rw [bZ h.2.1];omega) h4
theorem oa (hm:aU g=true) {f:Fr} (hi:gG g f) {t:It} (ht:t∈iT f.row):(0≤t.1∧t.1<g.es.length)∧t.2.1=kH g t.1∧t.2.2=iY g t.1:=by
 obtain ⟨h1,h2⟩:=iL.1 ht
 rcases hi.it t h1 with h3|h3
 ·omega
 ·exact ⟨⟨h3.1,h3.2.1⟩,h3.2.2.1,h3.2.2.2⟩
theorem CQ {f:Fr} (hi:wY g f):((iT f.row).map (·.1)).Nodup:=by
 refine List.pairwise_map.2 ?_
 have:=hi.once.filter (fun t:It=>decide (0≤t.1))
 refine List.Pairwise.imp_of_mem (fun {s t} hs ht h1=>h1 (iL.1 hs).2) this
theorem Eg (hm:aU g=true) {f:Fr} (hi:wY g f) {x:Int} (hR:aC g f x=true):(nZ g p f x).Nodup∧∀e,e∈nZ g p f x↔(0≤e∧e<g.es.length)∧iY g e=x:=by
 by_cases hn:bw g x=0
 ·have hno:=r8 hm hi.togG (aR hR).1 hn
  have e0:nZ g p f x= []:=by unfold nZ;rw [lK _ hno];rfl
  rw [e0]
  refine ⟨List.nodup_nil,fun e=>⟨fun h=>by (cases h),fun ⟨h1,h2⟩=> ?_⟩⟩
  have:=cC.2 ⟨h1,h2⟩
  have h3:bf (·.2) g.es g.es.length x= []:=List.eq_nil_of_length_eq_zero hn
  rw [h3] at this;cases this
 ·obtain ⟨a,c,e1,ha,hc,hX,hl,_⟩:=ve hm hi.togG hR hn (bE p x)
  have bT:=CQ hi
  have hmem:∀t∈iT (aA g f x (bE p x)).1.1,t∈iT f.row:=fun t ht=>by rw [e1];simp [ht]
  rw [e1,List.map_append,List.map_append,List.nodup_append] at bT
  have M5:(nZ g p f x).Nodup:=(List.nodup_append.1 bT.1).2.1
  have hsub:∀e∈nZ g p f x,e∈bf (·.2) g.es g.es.length x:=fun e he=>by
   obtain ⟨t,ht,rfl⟩:=List.mem_map.1 he
   obtain ⟨h1,_,h3⟩:=oa hm hi.togG (hmem t ht)
   exact cC.2 ⟨h1,by rw [← hX t ht,h3];rfl⟩
  have hlen:(bf (·.2) g.es g.es.length x).length=(nZ g p f x).length:=by
   unfold nZ;rw [List.length_map,hl];rfl
  exact ⟨M5,fun e=>⟨fun he=>cC.1 (hsub e he),fun he=>u5 M5 hsub hlen e (cC.2 he)⟩⟩
theorem zj (h:cB g p) {k:Nat} (hk:k<g.n.toNat):cq g p (au p k)=nZ g p (fK g p k) (au p k):=by
 unfold cq
 rw [nT h.2.1 (Nat.le_refl _) hk];rfl
theorem iA (h:cB g p) {x:Int} (hx:o7 g x):(cq g p x).Nodup∧∀e,e∈cq g p x↔(0≤e∧e<g.es.length)∧iY g e=x:=by
 obtain ⟨k,hk,rfl⟩:=ga h.2.1 hx.1 hx.2
 have hm:=aG h.1
 obtain ⟨hi,_,_⟩:=dB hm h.2.1 (k:=k) (by omega) fun j hj=>h.2.2 j (by omega)
 rw [zj h hk]
 exact Eg hm hi (h.2.2 k hk)
theorem jE (h:cB g p) {x:Int} (hx:o7 g x):(cq g p x).length=bw g x:=by
 obtain ⟨h1,h2⟩:=iA h hx
 refine Nat.le_antisymm ?_ ?_
 ·exact eY h1 fun e he=>cC.2 ((h2 e).1 he)
 ·exact eY cP fun e he=>(h2 e).2 (cC.1 he)
theorem eu (h:cB g p) (hI:kG g=true) {x:Int} (hx:o7 g x):bE p x= []↔x=au p (g.n.toNat - 1):=by
 have hm:=aG h.1
 have hn:=aY hm
 constructor
 ·intro h1
  have hs:=(o6 h).1
  have hsi:=aF h.2.1 (k:=g.n.toNat - 1) (by omega)
  have b1:=lN (f:=(·.1)) (g:=g) (y:=x) |>.2 ⟨hx,(nV h.2.1 hx.1 hx.2).2 h1⟩
  have b2:=lN (f:=(·.1)) (g:=g) (y:=au p (g.n.toNat - 1)) |>.2 ⟨hsi,(nV h.2.1 hsi.1 hsi.2).2 hs⟩
  have hl:(bI (·.1) g).length=1:=by
   unfold kG at hI
   simp only [Bool.and_eq_true,decide_eq_true_eq] at hI
   exact hI.2
  obtain ⟨y,hy⟩:=List.length_eq_one_iff.1 hl
  rw [hy,List.mem_singleton] at b1 b2
  rw [b1,b2]
 ·rintro rfl;exact (o6 h).1
theorem tT (h:cB g p) (hI:kG g=true) {f:Fr} (hi:wY g f):∀ {d k:Nat},k+d=g.n.toNat→k<g.n.toNat→au p k∉f.pl→au p (g.n.toNat - 1)∉f.pl
 |0,k,h1,h2,_=>by omega
 |d+1,k,h1,h2,h3=>by
  have hm:=aG h.1
  have hx:=aF h.2.1 h2
  by_cases hs:bE p (au p k)= []
  ·rw [(eu h hI hx).1 hs] at h3;exact h3
  ·obtain ⟨e,u,he⟩:=gI hs
   have p9:e∈bt g (au p k):=(bN h.2.1 hx.1 hx.2).mem_iff.1 (by rw [he];simp)
   obtain ⟨nq,vp⟩:=cC.1 p9
   have hh:=di hm (i:=e.toNat) (by omega)
   obtain ⟨k',hk',e'⟩:=ga h.2.1 hh.1 hh.2
   obtain ⟨j,hj,e2⟩:=vf h nq hk' e'.symm
   have:j=k:=dA h.2.1 (by omega) h2 (e2.trans vp)
   refine tT h hI hi (d:=g.n.toNat - k') (k:=k') (by omega) hk' fun h4=> ?_
   have:=hi.low e.toNat (by omega) (e' ▸ h4)
   have h5:tl g e.toNat=au p k:=vp
   exact h3 (h5 ▸ this)
 termination_by d=>d
theorem k7.nd {k:Nat} {W D:List Int} (h:k7 g p k W D):W.Nodup:=by
 obtain ⟨f,hi,_,rfl,_⟩:=h;exact CQ hi
theorem k7.mem (h:cB g p) {k:Nat} {W D:List Int} (hr:k7 g p k W D) (e:Int):e∈W↔(0≤e∧e<g.es.length)∧kH g e∈D∧iY g e∉D:=by
 have hm:=aG h.1
 obtain ⟨f,hi,rfl,rfl,hc,_⟩:=hr
 constructor
 ·intro he
  obtain ⟨t,ht,rfl⟩:=List.mem_map.1 he
  obtain ⟨h1,h2,h3⟩:=oa hm hi.togG ht
  obtain ⟨h4,h5⟩:=iL.1 ht
  exact ⟨h1,h2 ▸ hi.tail t h4 h5,h3 ▸ hi.head t h4 h5⟩
 ·rintro ⟨h1,h2,h3⟩
  obtain ⟨t,h4,h5⟩:=zh h.1 h.2.1 hi hc (i:=e.toNat) (by omega) h2 h3
  exact List.mem_map.2 ⟨t,iL.2 ⟨h4,by omega⟩,by omega⟩
theorem k7.next (h:cB g p) {k:Nat} {W D:List Int} (hr:k7 g p (k+1) W D):∃x A C,W=A++(gr g p).ins x++C∧(gr g p).ins x≠ []:=by
 have hm:=aG h.1
 obtain ⟨f,hi,rfl,rfl,⟨x,hR,hg,_⟩,_,hs⟩:=hr
 obtain ⟨x0,x1,x2⟩:=aR hR
 have hx:o7 g x:=⟨x0,x1⟩
 have hn:bw g x≠0:=fun h0=>by
  have:=nR h.1 (x:=x) (y:=au p 0) hx (hi.FL _ hs) h0 (fW h)
  exact x2 (this ▸ hs)
 obtain ⟨a,c,e1,_,_,_,hl,_⟩:=ve hm hi.togG hR hn (bE p x)
 refine ⟨x,a.map (·.1),c.map (·.1), ?_, ?_⟩
 ·rw [gy hx, ← hg,e1,List.map_append,List.map_append];rfl
 ·rw [gy hx]
  intro h0
  have:=jE h hx
  rw [h0] at this
  exact hn this.symm
theorem k7.step (h:cB g p) {k:Nat} {W D A C:List Int} {x:Int} (hr:k7 g p k W D) (hW:W=A++(gr g p).ins x++C) (hI:(gr g p).ins x≠ []):∃k',k=k'+1∧k7 g p k' (A++(gr g p).outs x++C) (D++ [x]):=by
 have hm:=aG h.1
 have hx:o7 g x:=Decidable.byContradiction fun h0=>hI (lR h0)
 have bT:=hr.nd
 have hmem:=k7.mem h hr
 rw [gy hx] at hW hI
 rw [gN hx]
 obtain ⟨i1,i2⟩:=iA h hx
 obtain ⟨e0,u0,D3⟩:=gI hI
 have M6:x∉D:=by
  have h1:=(i2 e0).1 (by rw [D3];simp)
  have h2:=(hmem e0).1 (by rw [hW,D3];simp)
  rw [h1.2] at h2;exact h2.2.2
 obtain ⟨f,hi,rfl,OE,hc,hD,hs⟩:=hr
 rw [OE] at hW bT
 obtain ⟨l1,c,e1,e2,e3⟩:=List.map_eq_append_iff.1 hW
 obtain ⟨a,X,e4,e5,e6⟩:=List.map_eq_append_iff.1 e2
 have hrow:iT f.row=a++X++c:=by rw [e1,e4]
 rw [hrow,List.map_append,List.map_append,e5,e6,e3] at bT
 have hit:∀t∈a++X++c,(0≤t.1∧t.1<g.es.length)∧t.2.1=kH g t.1∧t.2.2=iY g t.1:=fun t ht=>oa hm hi.togG (by rw [hrow];exact ht)
 have hX:vb x X:=fun t ht=>by
  have h1:t.1∈cq g p x:=by rw [← e6];exact List.mem_map_of_mem ht
  rw [(hit t (by simp [ht])).2.2,((i2 _).1 h1).2]
 have hin:∀t∈a++X++c,t.2.2=x→t.1∈cq g p x:=fun t ht e=>by
  obtain ⟨h1,_,h3⟩:=hit t ht
  exact (i2 _).2 ⟨h1,by rw [← h3,e]⟩
 have ha:fH x a:=fun t ht e=>by
  have h1:=hin t (by simp [ht]) e
  have h2:t.1∈A:=by rw [← e5];exact List.mem_map_of_mem ht
  exact (List.nodup_append.1 (List.nodup_append.1 bT).1).2.2 _ h2 _ h1 rfl
 have M7:fH x c:=fun t ht e=>by
  have h1:=hin t (by simp [ht]) e
  have h2:t.1∈C:=by rw [← e3];exact List.mem_map_of_mem ht
  exact (List.nodup_append.1 bT).2.2 _ (List.mem_append.2 (.inr h1)) _ h2 rfl
 have LQ:X.length=bw g x:=by rw [← jE h hx, ← e6,List.length_map]
 have nX:X≠ []:=fun h0=>hI (by rw [← e6,h0];rfl)
 have hR:=CO hm hi.togG hx.1 hx.2 M6 hrow ha M7 hX nX LQ
 have hn:bw g x≠0:=fun h0=>nX (List.eq_nil_of_length_eq_zero (LQ.trans h0))
 have px:=bN h.2.1 hx.1 hx.2
 cases k with
 |zero=>exact absurd (jD hi.togG (by omega) hx) M6
 |succ k=>
  refine ⟨k,rfl,tJ g p f x,jC hm hi hR px,rfl, ?_,(tR h.1 h.2.1 hi (by omega) hc hR).2, ?_,List.mem_append.2 (.inl hs)⟩
  ·have:=Ef hm hi.togG hR hn hrow ha M7 hX nX (bE p x)
   show _=(iT (aA g f x (bE p x)).2.row).map (·.1)
   rw [this,List.map_append,List.map_append,e5,e3,lQ (fun i hi=>by
    have:=cC.1 (px.mem_iff.1 hi);exact this.1.1),List.map_map]
   have e7:((fun t:It=>t.1) ∘ fE g x)=id:=rfl
   rw [e7,List.map_id]
  ·show (((f.pl++ [x]).length:Nat):Int)+_=_
   rw [List.length_append,List.length_singleton];omega
theorem AE (h:cB g p):k7 g p (g.n.toNat - 1) (bE p (au p 0)) [au p 0]:=by
 have hm:=aG h.1
 have hn:=aY hm
 have hx:=aF h.2.1 (k:=0) (by omega)
 obtain ⟨hi,gv,_⟩:=dB hm h.2.1 (k:=1) (by omega) fun j hj=>h.2.2 j (by omega)
 have px:=bN h.2.1 hx.1 hx.2
 have hno:fH (au p 0) (fK g p 0).row:=fun t ht=>by cases ht
 have hf:fK g p 1=⟨aJ g (au p 0) (bE p (au p 0)), [au p 0]⟩:=by
  show (aA g (fK g p 0) (au p 0) _).2=_
  rw [lK _ hno]
  show (⟨_++ [], []++ [_]⟩:Fr)=_
  simp
 refine ⟨fK g p 1,hi,by rw [hf], ?_,tS h (by omega),by simp;omega,by simp⟩
 rw [hf]
 show _=(iT (aJ g (au p 0) (bE p (au p 0)))).map (·.1)
 rw [lQ (fun i hi=>(cC.1 (px.mem_iff.1 hi)).1.1),List.map_map]
 have e7:((fun t:It=>t.1) ∘ fE g (au p 0))=id:=rfl
 rw [e7,List.map_id]
theorem k8 (h:cB g p) (hI:kG g=true):(gr g p).Ok:=by
 have hm:=aG h.1
 have hn:=aY hm
 have h0:o7 g (au p 0):=aF h.2.1 (by omega)
 exact {
  cj:=fun x e=>by
   show _↔(0≤e∧e<g.es.length)∧kH g e=x
   by_cases hx:o7 g x
   ·rw [gN hx,(bN h.2.1 hx.1 hx.2).mem_iff];exact cC
   ·rw [n0 hx]
    refine ⟨fun h=>by (cases h),fun ⟨h1,h2⟩=>absurd ?_ hx⟩
    rw [← h2];exact bY hm (i:=e.toNat) (by omega)
  bA:=fun x e=>by
   show _↔(0≤e∧e<g.es.length)∧iY g e=x
   by_cases hx:o7 g x
   ·rw [gy hx];exact (iA h hx).2 e
   ·rw [lR hx]
    refine ⟨fun h=>by (cases h),fun ⟨h1,h2⟩=>absurd ?_ hx⟩
    rw [← h2];exact di hm (i:=e.toNat) (by omega)
  mX:=fun x=>by
   by_cases hx:o7 g x
   ·rw [gN hx,(bN h.2.1 hx.1 hx.2).nodup_iff];exact cP
   ·rw [n0 hx];exact List.nodup_nil
  xF:=fun x=>by
   by_cases hx:o7 g x
   ·rw [gy hx];exact (iA h hx).1
   ·rw [lR hx];exact List.nodup_nil
  gW:=fun e he=>by
   have he:0≤e∧e<g.es.length:=he
   have hh:=di hm (i:=e.toNat) (by omega)
   obtain ⟨k,hk,e1⟩:=ga h.2.1 hh.1 hh.2
   obtain ⟨j,hj,e2⟩:=vf h he hk e1.symm
   show CP g p (kH g e)<CP g p (iY g e)
   have e3:iY g e=au p k:=e1.symm
   rw [← e2,e3,zi hm h.2.1 hk,zi hm h.2.1 (by omega)]
   exact hj
  Dn:=by
   show k7 g p (g.n.toNat - 1) ((gr g p).outs (au p 0)) [au p 0]
   rw [gN h0];exact AE h
  kI:=fun hr=>k7.nd hr
  cV:=fun hr e=>k7.mem h hr e
  kJ:=fun hr=>k7.next h hr
  mY:=fun hr h1 h2=>k7.step h hr h1 h2
  lu:=fun {W D} hr e he=>by
   obtain ⟨f,hi,rfl,_,_,hD,_⟩:=hr
   exact jD hi.togG (by omega) (di hm (i:=e.toNat) (by have:=he.1;have:=he.2;have:e<g.es.length:=he.2;omega))
  pX:=fun {k W D} hr=>by obtain ⟨f,hi,rfl,_,_,_,hs⟩:=hr;exact hs
  pY:=fun {k W D} hr hs=>by
   obtain ⟨f,hi,rfl,_,_,hD,_⟩:=hr
   refine Decidable.byContradiction fun hk=> ?_
   have:∃k',k'<g.n.toNat∧au p k'∉f.pl:=by
    refine Decidable.byContradiction fun hall=> ?_
    have hall:∀k',k'<g.n.toNat→au p k'∈f.pl:=fun k' hk'=>Decidable.byContradiction fun h1=>hall ⟨k',hk',h1⟩
    have:=eY (l:=p.ord) (m:=f.pl) (sg h.2.1) fun x hx=>by
     have hx:=dO.1 (h.2.1.2.1.mem_iff.1 hx)
     obtain ⟨k',h1,rfl⟩:=ga h.2.1 hx.1 (by omega)
     exact hall k' h1
    rw [bZ h.2.1] at this
    omega
   obtain ⟨k',h1,h2⟩:=this
   exact tT h hI hi (d:=g.n.toNat - k') (by omega) h1 h2 hs
  oq:=by
   show (gr g p).ins (au p 0)= []
   rw [gy h0]
   have:=jE h h0
   rw [fW h] at this
   exact List.eq_nil_of_length_eq_zero this
  lz:=fun x hx=>by
   have Dj:o7 g x:=Decidable.byContradiction fun h0=>hx (lR h0)
   rw [gN Dj]
   exact eu h hI Dj}
end
end Go.Ab
end
section
namespace Go.Ab
open Go.Proofs
set_option maxRecDepth 10000
set_option linter.unusedSectionVars false
section
variable (g:Gr) (p:Pl)
def cK:Nat→Nat
 |0=>1
 |k+1=>cK k+((bE p (au p k)).length - 1)
def FQ (e:Int):Nat:=(bE p (kH g e)).findIdx (fun i=>decide (i=e))
def ew (x:Int):Int:=(cq g p x).headD 0
def mh (x:Int):Int:=(cq g p x).getLastD 0
def LK:Nat→Int→Int
 |0,_=>0
 |k+1,e=>if kH g e=au p k then (if FQ g p e=0 then (if k=0 then 0 else LK k (ew g p (au p k))) else (cK p k:Int)+FQ g p e - 1) else LK k e
def RK (r:Int):Nat→Int→Int
 |0,_=>0
 |k+1,e=>if kH g e=au p k then (if FQ g p e+1<(bE p (au p k)).length then (cK p k:Int)+FQ g p e else (if k=0 then r else RK r k (mh g p (au p k)))) else RK r k e
def gu:Nat→List Int
 |0=> [au p 0]
 |k+1=>gu k++List.replicate ((bE p (au p k)).length - 1) (au p k)
end
section
variable {g:Gr} {p:Pl}
theorem ez:∀ {k:Nat},(gu p k).length=cK p k
 |0=>rfl
 |k+1=>by rw [gu,List.length_append,List.length_replicate,ez,cK]
theorem kf:∀ {k:Nat},0<cK p k
 |0=>by simp [cK]
 |k+1=>by rw [cK];have:= @kf k;omega
theorem lS {k:Nat} :∀ {d:Nat},cK p k≤cK p (k+d)
 |0=>Nat.le_refl _
 |d+1=>by
  have:= @lS k d
  show _≤cK p (k+d+1)
  rw [cK];omega
theorem o8 {k:Nat} {f:Nat} (hf:f<cK p k):∀ {d:Nat},(gu p (k+d)).getD f 0=(gu p k).getD f 0
 |0=>rfl
 |d+1=>by
  show (gu p (k+d+1)).getD f 0=_
  have:=lS (p:=p) (k:=k) (d:=d)
  rw [gu,List.getD_eq_getElem?_getD,List.getElem?_append_left (by rw [ez];omega), ← List.getD_eq_getElem?_getD,o8 hf]
theorem CR {k f:Nat} (h1:cK p k≤f) (h2:f<cK p (k+1)):(gu p (k+1)).getD f 0=au p k:=by
 rw [gu,List.getD_eq_getElem?_getD,List.getElem?_append_right (by rw [ez];exact h1),List.getElem?_replicate,ez,if_pos (by rw [cK] at h2;omega)]
 rfl
variable (h:cB g p)
include h
theorem mU {k:Nat} (hk:k<g.n.toNat) {u v:List Int} {e:Int} (he:bE p (au p k)=u++e::v):kH g e=au p k∧FQ g p e=u.length:=by
 have hx:=aF h.2.1 hk
 have px:=bN h.2.1 hx.1 hx.2
 have h1:=(cC.1 (px.mem_iff.1 (show e∈bE p (au p k) by rw [he];simp))).2
 have h1:kH g e=au p k:=h1
 refine ⟨h1, ?_⟩
 have bT:(bE p (au p k)).Nodup:=px.nodup_iff.2 cP
 unfold FQ
 rw [h1,he]
 rw [he,List.nodup_append] at bT
 rw [List.findIdx_append]
 have h2:u.findIdx (fun i=>decide (i=e))=u.length:=by
  rw [List.findIdx_eq_length]
  intro i hi
  exact decide_eq_false fun e2=>bT.2.2 i hi e (by simp) e2
 rw [h2,if_neg (by omega)]
 simp [List.findIdx_cons]
theorem zk {e:Int} {k:Nat} (hk:k<g.n.toNat) (he:kH g e=au p k):∀ {d:Nat},k+1+d≤g.n.toNat→LK g p (k+1+d) e=LK g p (k+1) e
 |0,_=>rfl
 |d+1,hd=>by
  show LK g p (k+1+d+1) e=_
  rw [LK,if_neg (fun e2=>by have:=dA h.2.1 hk (show k+1+d<g.n.toNat by omega) (he.symm.trans e2);omega),zk hk he (by omega)]
theorem zm {r:Int} {e:Int} {k:Nat} (hk:k<g.n.toNat) (he:kH g e=au p k):∀ {d:Nat},k+1+d≤g.n.toNat→RK g p r (k+1+d) e=RK g p r (k+1) e
 |0,_=>rfl
 |d+1,hd=>by
  show RK g p r (k+1+d+1) e=_
  rw [RK,if_neg (fun e2=>by have:=dA h.2.1 hk (show k+1+d<g.n.toNat by omega) (he.symm.trans e2);omega),zm hk he (by omega)]
theorem k9 {e:Int} {k:Nat} (hk:k<g.n.toNat) (he:kH g e=au p k) {j:Nat} (h1:k+1≤j) (h2:j≤g.n.toNat):LK g p j e=LK g p (k+1) e:=by
 obtain ⟨d,rfl⟩:=Nat.exists_eq_add_of_le h1
 exact zk h hk he h2
theorem ef {r:Int} {e:Int} {k:Nat} (hk:k<g.n.toNat) (he:kH g e=au p k) {j:Nat} (h1:k+1≤j) (h2:j≤g.n.toNat):RK g p r j e=RK g p r (k+1) e:=by
 obtain ⟨d,rfl⟩:=Nat.exists_eq_add_of_le h1
 exact zm h hk he h2
theorem vg {k:Nat} (hk:k<g.n.toNat) {v:List Int} {e:Int} (he:bE p (au p k)=e::v) {j:Nat} (h1:k+1≤j) (h2:j≤g.n.toNat):LK g p j e=if k=0 then 0 else LK g p k (ew g p (au p k)):=by
 obtain ⟨a,b⟩:=mU h hk (u:= []) he
 rw [k9 h hk a h1 h2,LK,if_pos a,if_pos (show FQ g p e=0 from b)]
theorem zn {k:Nat} (hk:k<g.n.toNat) {u v:List Int} {e:Int} (he:bE p (au p k)=u++e::v) (hu:u≠ []) {j:Nat} (h1:k+1≤j) (h2:j≤g.n.toNat):LK g p j e=(cK p k:Int)+u.length - 1:=by
 obtain ⟨a,b⟩:=mU h hk he
 have:=List.length_pos_iff.2 hu
 rw [k9 h hk a h1 h2,LK,if_pos a,if_neg (by omega),b]
theorem sq {r:Int} {k:Nat} (hk:k<g.n.toNat) {u:List Int} {e:Int} (he:bE p (au p k)=u++ [e]) {j:Nat} (h1:k+1≤j) (h2:j≤g.n.toNat):RK g p r j e=if k=0 then r else RK g p r k (mh g p (au p k)):=by
 obtain ⟨a,b⟩:=mU h hk he
 rw [ef h hk a h1 h2,RK,if_pos a,if_neg (by rw [b,he];simp)]
theorem gO {r:Int} {k:Nat} (hk:k<g.n.toNat) {u v:List Int} {e c:Int} (he:bE p (au p k)=u++e::c::v) {j:Nat} (h1:k+1≤j) (h2:j≤g.n.toNat):RK g p r j e=(cK p k:Int)+u.length:=by
 obtain ⟨a,b⟩:=mU h hk he
 rw [ef h hk a h1 h2,RK,if_pos a,if_pos (by rw [b,he];simp),b]
theorem o9 {x:Int} {a:Int} {u:List Int} (hu:cq g p x=a::u):ew g p x=a:=by unfold ew;rw [hu];rfl
theorem ld {x:Int} {a:Int} {u:List Int} (hu:cq g p x=u++ [a]):mh g p x=a:=by unfold mh;rw [hu];simp
theorem xk {k:Nat} (hk:k<g.n.toNat) (hI:cq g p (au p k)≠ []):k≠0:=fun h0=>by
 subst h0
 have:=jE h (aF h.2.1 hk)
 rw [fW h] at this
 exact hI (List.eq_nil_of_length_eq_zero this)
theorem oc {k:Nat} (hk:k<g.n.toNat) {a:Int} (ha:a∈cq g p (au p k)):∃j,j<k∧kH g a=au p j:=by
 obtain ⟨h1,h2⟩:=((iA h (aF h.2.1 hk)).2 a).1 ha
 obtain ⟨j,h3,h4⟩:=vf h h1 hk h2
 exact ⟨j,h3,h4.symm⟩
def WK (g:Gr) (p:Pl) (k:Nat):List Int:=(iT (fK g p k).row).map (·.1)
theorem sr (hn:0<g.n.toNat):WK g p 1=bE p (au p 0):=by
 have hx:=aF h.2.1 hn
 have px:=bN h.2.1 hx.1 hx.2
 have hno:fH (au p 0) (fK g p 0).row:=fun t ht=>by cases ht
 have hf:(fK g p 1).row=aJ g (au p 0) (bE p (au p 0)):=by
  show (aA g (fK g p 0) (au p 0) _).2.row=_
  rw [lK _ hno]
  show _++ []=_
  simp
 unfold WK
 rw [hf,lQ (fun i hi=>(cC.1 (px.mem_iff.1 hi)).1.1),List.map_map]
 have e7:((fun t:It=>t.1) ∘ fE g (au p 0))=id:=rfl
 rw [e7,List.map_id]
theorem kg {k:Nat} (h0:k≠0) (hk:k<g.n.toNat):∃A C,WK g p k=A++cq g p (au p k)++C∧cq g p (au p k)≠ []∧WK g p (k+1)=A++bE p (au p k)++C:=by
 have hm:=aG h.1
 obtain ⟨hi,gv,_⟩:=dB hm h.2.1 (k:=k) (by omega) fun j hj=>h.2.2 j (by omega)
 have hR:=h.2.2 k hk
 have hx:=aF h.2.1 hk
 have px:=bN h.2.1 hx.1 hx.2
 have hn:bw g (au p k)≠0:=fun hz=>by
  have OF:=aF h.2.1 (show 0<g.n.toNat by omega)
  have:=nR h.1 hx OF hz (fW h)
  exact h0 (dA h.2.1 hk (by omega) this)
 obtain ⟨a,c,e1,_,_,_,hl,e2⟩:=ve hm hi.togG hR hn (bE p (au p k))
 refine ⟨a.map (·.1),c.map (·.1), ?_, ?_, ?_⟩
 ·rw [zj h hk];unfold WK;rw [e1,List.map_append,List.map_append];rfl
 ·intro h1
  have:=jE h hx
  rw [h1] at this
  exact hn this.symm
 ·unfold WK
  show (iT (aA g (fK g p k) (au p k) _).2.row).map (·.1)=_
  rw [e2,List.map_append,List.map_append,lQ (fun i hi=>(cC.1 (px.mem_iff.1 hi)).1.1),List.map_map]
  have e7:((fun t:It=>t.1) ∘ fE g (au p k))=id:=rfl
  rw [e7,List.map_id]
theorem qk {k:Nat} (hk:k≤g.n.toNat) {a:Int} (ha:a∈WK g p k):∃j,j<k∧kH g a=au p j:=by
 have hm:=aG h.1
 obtain ⟨hi,gv,_⟩:=dB hm h.2.1 (k:=k) (by omega) fun j hj=>h.2.2 j (by omega)
 obtain ⟨t,ht,rfl⟩:=List.mem_map.1 ha
 obtain ⟨h1,h2,_⟩:=oa hm hi.togG ht
 obtain ⟨h4,h5⟩:=iL.1 ht
 have:=hi.tail t h4 h5
 rw [gv,h2] at this
 obtain ⟨j,hj,e⟩:=zg (by rw [bZ h.2.1];omega) this
 exact ⟨j,hj,e.symm⟩
theorem zo {r:Int} {k:Nat} (hk:k<g.n.toNat) {j:Nat} (h1:k+1≤j) (h2:j≤g.n.toNat):fI (LK g p j) (RK g p r j) (if k=0 then 0 else LK g p k (ew g p (au p k))) (bE p (au p k)):=by
 refine mZ (fun u a b v e=> ?_) fun a u e=>vg h hk e h1 h2
 rw [gO h hk e h1 h2,zn h hk (u:=u++ [a]) (v:=v) (e:=b) (by rw [e];simp) (by simp) h1 h2]
 simp;omega
theorem zq {r:Int} {k:Nat} (hk:k<g.n.toNat) {j:Nat} (h1:k+1≤j) (h2:j≤g.n.toNat) (hO:bE p (au p k)≠ []) (f:Int):gH (RK g p r j) f (bE p (au p k))=if k=0 then r else RK g p r k (mh g p (au p k)):=by
 obtain ⟨v,b,hv⟩:=bV hO
 rw [hv,cy,sq h hk hv h1 h2]
theorem lf {L R L' R':Int→Int} :∀ {W:List Int} {f:Int},(∀a∈W,L a=L' a∧R a=R' a)→(fI L R f W↔fI L' R' f W)
 | [],_,_=>Iff.rfl
 |a::W,f,hh=>by
  have h1:=hh a (List.mem_cons_self ..)
  simp only [fI,h1.1,h1.2,lf (W:=W) fun b hb=>hh b (List.mem_cons_of_mem _ hb)]
theorem sw {R R':Int→Int} :∀ {W:List Int} {f:Int},(∀a∈W,R a=R' a)→gH R f W=gH R' f W
 | [],_,_=>rfl
 |a::W,f,hh=>by
  simp only [gH,hh a (List.mem_cons_self ..),sw (W:=W) fun b hb=>hh b (List.mem_cons_of_mem _ hb)]
theorem ym {r:Int} (hI:kG g=true):∀ {k:Nat},1≤k→k<g.n.toNat→WK g p k≠ []→fI (LK g p k) (RK g p r k) 0 (WK g p k)∧gH (RK g p r k) 0 (WK g p k)=r
 |0,h1,_,_=>by omega
 |k+1,_,hk,hW=>by
  by_cases h0:k=0
  ·subst h0
   rw [sr h (by omega)] at hW ⊢
   have a:=zo (r:=r) h (k:=0) (by omega) (j:=1) (Nat.le_refl _) (by omega)
   have b:=zq (r:=r) h (k:=0) (by omega) (j:=1) (Nat.le_refl _) (by omega) hW 0
   rw [if_pos rfl] at a b
   exact ⟨a,b⟩
  ·obtain ⟨A,C,e1,hne,e2⟩:=kg h h0 (show k<g.n.toNat by omega)
   obtain ⟨l1,l2⟩:=ym hI (k:=k) (by omega) (by omega) (by rw [e1];simp [hne])
   have hO:bE p (au p k)≠ []:=fun h1=>by
    have:=(eu h hI (aF h.2.1 (show k<g.n.toNat by omega))).1 h1
    have:=dA h.2.1 (show k<g.n.toNat by omega) (by omega) this
    omega
   have zu:∀a∈WK g p k,LK g p (k+1) a=LK g p k a∧RK g p r (k+1) a=RK g p r k a:=fun a ha=>by
    obtain ⟨j,hj,e⟩:=qk h (by omega) ha
    exact ⟨by rw [k9 h (by omega) e (j:=k+1) (by omega) (by omega),k9 h (by omega) e (j:=k) (by omega) (by omega)],by rw [ef h (by omega) e (j:=k+1) (by omega) (by omega),ef h (by omega) e (j:=k) (by omega) (by omega)]⟩
   rw [← lf h zu] at l1
   rw [← sw h fun a ha=>(zu a ha).2] at l2
   rw [e1] at l1 l2 zu
   rw [e2]
   obtain ⟨a0,u0,Dp⟩:=gI hne
   obtain ⟨u,a,hu⟩:=bV hne
   obtain ⟨l3,l5⟩:=bP.1 l1
   obtain ⟨l4,l6⟩:=bP.1 l3
   have OG:LK g p (k+1) a0=gH (RK g p r (k+1)) 0 A:=by rw [Dp] at l6;exact l6.1
   have Gn:∀f,gH (RK g p r (k+1)) f (cq g p (au p k))=RK g p r k (mh g p (au p k)):=fun f=>by
    rw [ld h hu,hu,cy,(zu a (by rw [hu];simp)).2]
   have hlk:=zo (r:=r) h (k:=k) (by omega) (j:=k+1) (Nat.le_refl _) (by omega)
   have L8:=zq (r:=r) h (k:=k) (by omega) (j:=k+1) (Nat.le_refl _) (by omega) hO
   rw [if_neg h0] at hlk L8
   rw [o9 h Dp, ← (zu a0 (by rw [Dp];simp)).1,OG] at hlk
   refine ⟨?_, ?_⟩
   ·rw [bP,bP,ck,L8]
    rw [ck,Gn] at l5
    exact ⟨⟨l4,hlk⟩,l5⟩
   ·rw [ck,ck,L8]
    rw [ck,ck,Gn] at l2
    exact l2
theorem mV (hI:kG g=true) {r:Int} (hr:r<0∨cK p g.n.toNat≤r):(gr g p).gA (LK g p g.n.toNat) (RK g p r g.n.toNat) 0 r (fun f=>(gu p g.n.toNat).getD f.toNat 0):=by
 have hm:=aG h.1
 have hn:=aY hm
 have D5:∀ {x:Int} {l:List Int},(gr g p).outs x=l→l≠ []→∃k,k<g.n.toNat∧au p k=x∧bE p (au p k)=l:=fun {x l} h1 h2=>by
  by_cases hx:o7 g x
  ·obtain ⟨k,hk,rfl⟩:=ga h.2.1 hx.1 hx.2
   exact ⟨k,hk,rfl,by rw [← h1,gN hx]⟩
  ·rw [n0 hx] at h1;exact absurd h1.symm h2
 have L9:∀ {x:Int} {l:List Int},(gr g p).ins x=l→l≠ []→∃k,k<g.n.toNat∧au p k=x∧cq g p (au p k)=l:=fun {x l} h1 h2=>by
  by_cases hx:o7 g x
  ·obtain ⟨k,hk,rfl⟩:=ga h.2.1 hx.1 hx.2
   exact ⟨k,hk,rfl,by rw [← h1,gy hx]⟩
  ·rw [lR hx] at h1;exact absurd h1.symm h2
 have h0:(gr g p).src=au p 0:=rfl
 have GK:∀k,0<cK p k:=fun k=>kf
 exact {
  ne:=by have:=GK g.n.toNat;omega
  fX:=fun {x u a b v} e=>by
   obtain ⟨k,hk,_,e2⟩:=D5 e (by simp)
   rw [gO h hk e2 (by omega) (Nat.le_refl _),zn h hk (u:=u++ [a]) (v:=v) (e:=b) (by rw [e2];simp) (by simp) (by omega) (Nat.le_refl _)]
   simp;omega
  mu:=fun {x u a b v} e=>by
   obtain ⟨k,hk,_,e2⟩:=L9 e (by simp)
   have sN:=xk h hk (by rw [e2];simp)
   obtain ⟨A,C,e1,hne,_⟩:=kg h sN hk
   have l1:=(ym (r:=r) h hI (k:=k) (by omega) hk (by rw [e1];simp [hne])).1
   have zu:∀a∈WK g p k,LK g p g.n.toNat a=LK g p k a∧RK g p r g.n.toNat a=RK g p r k a:=fun a ha=>by
    obtain ⟨j,hj,e⟩:=qk h (by omega) ha
    exact ⟨by rw [k9 h (by omega) e (j:=g.n.toNat) (by omega) (by omega),k9 h (by omega) e (j:=k) (by omega) (by omega)],by rw [ef h (by omega) e (j:=g.n.toNat) (by omega) (by omega),ef h (by omega) e (j:=k) (by omega) (by omega)]⟩
   rw [← lf h zu,e1,e2,show A++(u++a::b::v)++C=(A++u)++a::b::(v++C) by simp] at l1
   exact A6 l1
  fst:=fun {x a u b v} e1 e2=>by
   obtain ⟨k,hk,hx,e3⟩:=D5 e2 (by simp)
   have e4:cq g p (au p k)=a::u:=by
    have Dj:o7 g x:=by rw [← hx];exact aF h.2.1 hk
    rw [hx, ← gy Dj];exact e1
   have sN:=xk h hk (by rw [e4];simp)
   obtain ⟨j,hj,et⟩:=oc h hk (a:=a) (by rw [e4];simp)
   rw [vg h hk e3 (by omega) (Nat.le_refl _),if_neg sN,o9 h e4,k9 h (by omega) et (j:=g.n.toNat) (by omega) (Nat.le_refl _),k9 h (by omega) et (j:=k) (by omega) (by omega)]
  zC:=fun {x a u b v} e1 e2=>by
   obtain ⟨k,hk,hx,e3⟩:=D5 e2 (by simp)
   have e4:cq g p (au p k)=u++ [a]:=by
    have Dj:o7 g x:=by rw [← hx];exact aF h.2.1 hk
    rw [hx, ← gy Dj];exact e1
   have sN:=xk h hk (by rw [e4];simp)
   obtain ⟨j,hj,et⟩:=oc h hk (a:=a) (by rw [e4];simp)
   rw [sq h hk e3 (by omega) (Nat.le_refl _),if_neg sN,ld h e4,ef h (by omega) et (j:=g.n.toNat) (by omega) (Nat.le_refl _),ef h (by omega) et (j:=k) (by omega) (by omega)]
  s0:=fun {b v} e=>by
   obtain ⟨k,hk,hx,e3⟩:=D5 e (by simp)
   have:k=0:=dA h.2.1 hk (by omega) hx
   rw [vg h hk e3 (by omega) (Nat.le_refl _),if_pos this]
  s1:=fun {b v} e=>by
   obtain ⟨k,hk,hx,e3⟩:=D5 e (by simp)
   have:k=0:=dA h.2.1 hk (by omega) hx
   rw [sq h hk e3 (by omega) (Nat.le_refl _),if_pos this]
  new:=fun {x u a b v} e=>by
   obtain ⟨k,hk,hx,e3⟩:=D5 e (by simp)
   have hR:=gO (r:=r) h hk e3 (j:=g.n.toNat) (by omega) (Nat.le_refl _)
   have hl:(bE p (au p k)).length=u.length+(v.length+2):=by rw [e3];simp
   have D4:cK p (k+1)=cK p k+((bE p (au p k)).length - 1):=rfl
   obtain ⟨d,hd⟩:=Nat.exists_eq_add_of_le (show k+1≤g.n.toNat by omega)
   have hmo:=lS (p:=p) (k:=k+1) (d:=d)
   rw [← hd] at hmo
   have:=GK k
   refine ⟨?_,by omega,by omega⟩
   show (gu p g.n.toNat).getD (RK g p r g.n.toNat a).toNat 0=x
   rw [hR,show ((cK p k:Int)+(u.length:Int)).toNat=cK p k+u.length by omega,hd,o8 (by omega),CR (by omega) (by omega),hx]
  new1:=fun {x u a b v u' a' b' v'} e1 e2 e3=>by
   obtain ⟨k,hk,hx,e4⟩:=D5 e1 (by simp)
   have e5:bE p (au p k)=u'++a'::b'::v':=by
    have Dj:o7 g x:=by rw [← hx];exact aF h.2.1 hk
    rw [hx, ← gN Dj];exact e2
   rw [gO h hk e4 (by omega) (Nat.le_refl _),gO h hk e5 (by omega) (Nat.le_refl _)] at e3
   have hl:u.length=u'.length:=by omega
   rw [e4] at e5
   have:=(List.append_inj e5 hl).2
   simp only [List.cons.injEq] at this
   exact this.1}
end
end Go.Ab
end
section
namespace Go.Ab
end Go.Ab
end
section
namespace Go.Ab
open Go.Proofs
attribute [local congr] ACall.congr
set_option maxRecDepth 10000
set_option maxHeartbeats 8000000
def iB (A o:List Int) (f:Nat→Int):Nat→List Int
 |0=>A
 |j+1=>(iB A o f j).set (o.getD j 0).toNat (f j)
theorem fm {A o:List Int} {f:Nat→Int} :∀ {j:Nat},(iB A o f j).length=A.length
 |0=>rfl
 |j+1=>by rw [iB,List.length_set,fm]
def mj (A o:List Int) (left:Int) (c:Nat) (j:Nat):List Int:=iB A o (fun j=>if j=0 then left else (c:Int)+j - 1) j
def mo (A o:List Int) (right:Int) (c:Nat) (j:Nat):List Int:=iB A o (fun j=>if j+1<o.length then (c:Int)+j else right) j
theorem AF {A o:List Int} {left:Int} {c:Nat} {j:Nat} :(mj A o left c j).length=A.length:=fm
theorem AG {A o:List Int} {left:Int} {c:Nat} {j:Nat} :(mo A o left c j).length=A.length:=fm
theorem lT {A o:List Int} {f:Nat→Int} {e:Nat} :∀ {j:Nat},(∀i,i<j→(o.getD i 0).toNat≠e)→(iB A o f j).getD e 0=A.getD e 0
 |0,_=>rfl
 |j+1,h=>by
  have h1:=h j (by omega)
  rw [iB,List.getD_eq_getElem?_getD,List.getElem?_set,if_neg h1, ← List.getD_eq_getElem?_getD,lT fun i hi=>h i (by omega)]
theorem xl {A o:List Int} {f:Nat→Int} {i:Nat} (hA:(o.getD i 0).toNat<A.length):∀ {j:Nat},i<j→(∀k,k<j→(o.getD k 0).toNat=(o.getD i 0).toNat→k=i)→(iB A o f j).getD (o.getD i 0).toNat 0=f i
 |0,h,_=>by omega
 |j+1,h,hn=>by
  rw [iB,List.getD_eq_getElem?_getD,List.getElem?_set]
  by_cases e:(o.getD j 0).toNat=(o.getD i 0).toNat
  ·have:=hn j (by omega) e
   subst this
   rw [if_pos rfl,if_pos (by rw [fm];exact hA)];rfl
  ·have hji:j≠i:=fun e2=>e (by rw [e2])
   rw [if_neg e, ← List.getD_eq_getElem?_getD,xl hA (by omega) fun k hk=>hn k (by omega)]
def fq (c k:Nat):List Int:=(List.range k).map fun i:Nat=>((c+i:Nat):Int)
theorem yo {c k:Nat} :fq c (k+1)=fq c k++ [((c+k:Nat):Int)]:=by simp [fq,List.range_succ]
theorem jF {c k:Nat} :(fq c k).length=k:=by simp [fq]
def Eh (left:Int) (c d j:Nat):Int:=if min j (d - 1)=0 then left else (c:Int)+(min j (d - 1):Nat) - 1
def Gh (ed gp:D) (A B lo hi:List Int):List (Nat × AObj):= [(10000, .box [.d ed, .d gp, .ref 10001, .ref 10002, .ref 10003, .ref 10004]),(10001, .own 3 1 (A.map rI)),(10002, .own 3 1 (B.map rI)),(10003, .tip 3 1 (lo.map rI)),(10004, .own 3 1 (hi.map rI))]
def Gi (ed gp:D) (A B lo hi:List Int):List (Nat × AObj):= [(10000, .box [.d ed, .d gp, .ref 10001, .ref 10002, .ref 10005, .ref 10006]),(10001, .own 3 1 (A.map rI)),(10002, .own 3 1 (B.map rI)),(10005, .tip 3 1 (lo.map rI)),(10006, .own 3 1 (hi.map rI))]
theorem tU (x left right:Int) (o:List Int) (ed gp:D) (A B lo hi:List Int) (ho:o.length≤100000) (hO:∀i∈o,0≤i∧i<A.length) (hB:B.length=A.length) (hlo:lo.length≤100000) (hhi:hi.length≤100000):
 Spec Tryz.prog 52 (Args [.ptr 10000 0,eN x, .d (sI o),eN left,eN right]) (Gh ed gp A B lo hi)
  (.d (sI (fq lo.length (o.length - 1)))) (Gi ed gp (mj A o left lo.length o.length) (mo B o right lo.length o.length) (lo++List.replicate (o.length - 1) x) (hi++List.replicate (o.length - 1) 0)):=by
 unfold Gh Gi
 generalize hc:lo.length=c at*
 (refine Spec.fA (C:=T.cfg [] []) (rs:= [.t 10]) [(10005,200),(10006,201)] (T.aq _ _) Tryz.func52 rfl rfl Tryz.ntmps52 Tryz.results52 (by simp [AObj.isNest]) (by simp [AObj.isNest]) (by first|(simp [look];done)|(simp [asN];done)|(intro l hl;simp only [asN];repeat (rw [if_neg (fun e=>by subst e;simp [look] at hl)]))) (by first|(simp [look];done)|(simp [asN];done)|(intro l hl;simp only [asN];repeat (rw [if_neg (fun e=>by subst e;simp [look] at hl)]))) (by kernel_rfl) ?_;intro X hX hP hC aM aN vals hA;refine ⟨_,by simp,hA, ?_⟩;have af:X.P.follows .mixedOrders=true:=(by rw [hP];exact T.mixed);clear aM aN)
 repeat' (first|fail|((first|((with_reducible (first|apply oA|apply oB));exact rfl;intro K hK)|(refine hK _ ?_;clear hK K)|((with_reducible (first|apply oG|apply oH));iterate 3 exact rfl)|((with_reducible apply oI);(iterate 2 exact rfl);intro K hK)|(with_reducible (first|apply wI|apply wJ|apply wK)));try simp only [go_sem,simprocAttr])|(show dG _ (.seq (.region 1 _ _) _) _ _;(refine jT hX 10 202 (.tip 3 1 []) (by simp only [go_sem,simprocAttr]) (by simp only [go_sem,simprocAttr]) (by decide) ⟨3,1,by decide, .inr rfl⟩ ?_;simp only [go_sem,simprocAttr]);(refine jV hX 10000 4 10003 200 rfl rfl rfl (by first|exact .inl rfl|exact .inr rfl) (by decide) (by decide) ?_;simp only [LA.app,ASt.put,ASt.kill,subT,rmk,putM,rml,kl,AV.sub,AV.subs,AObj.sub,List.set_cons_zero,List.set_cons_succ,go_sem,simprocAttr]);(refine jV hX 10000 5 10004 201 rfl rfl rfl (by first|exact .inl rfl|exact .inr rfl) (by decide) (by decide) ?_;simp only [LA.app,ASt.put,ASt.kill,subT,rmk,putM,rml,kl,AV.sub,AV.subs,AObj.sub,List.set_cons_zero,List.set_cons_succ,go_sem,simprocAttr]))|(with_reducible (first|apply oC|apply oJ|exact oK|apply wA|apply wB|apply wC hX hC|apply wD hX hC|apply wE hX hC af|apply wF hX hC af|apply wG|apply wH|apply And.intro))|((with_reducible refine oD ?_ ?_);first|fail|kernel_rfl)|((with_reducible (first|apply oE|apply oF));(iterate 3 exact rfl);all_goals (intro h;first|(exact absurd h (by decide))|((try simp only [go_sem,simprocAttr] at h);(try with_reducible intro K hK);simp only [go_sem,simprocAttr])))|((first|((with_reducible apply wL);exact rfl)|((with_reducible apply wM);exact rfl));all_goals (try ((with_reducible intro h);first|(exact absurd h (by decide))|(try simp only [go_sem,simprocAttr] at h))))|omega|((first|fail);try simp only [go_sem,simprocAttr])|(intro h))
 refine an (fun j:Nat=>j≤o.length) (fun j=>⟨[(0, .ptr 10000 0),(1,eN x),(2, .d (sI o)),(3,eN (Eh left c o.length j)),(4,eN right),(10, .ref 202),(13, .d (sI o)),(14,eN o.length),(15,eN j)], [(10000, .box [.d ed, .d gp, .ref 10001, .ref 10002, .ref 200, .ref 201]),(10001, .own 3 1 ((mj A o left c j).map rI)),(10002, .own 3 1 ((mo B o right c j).map rI)),(200, .tip 3 1 ((lo++List.replicate (min j (o.length - 1)) x).map rI)),(201, .own 3 1 ((hi++List.replicate (min j (o.length - 1)) 0).map rI)),(202, .tip 3 1 ((fq c (min j (o.length - 1))).map rI))]⟩) (fun j=>o.length - j) 0 (by omega) ?_ ?_
 ·refine Le.of ?_ ?_<;>simp [go_sem,simprocAttr,Eh,mj,mo,iB,fq]
 rintro j hj
 rcases Nat.lt_or_ge j o.length with hjl|I4
 rotate_left
 ·have hb:decide ((j:Int)<(o.length:Int))=false:=decide_eq_false (by omega)
  obtain rfl:j=o.length:=by omega
  have hmin:min o.length (o.length - 1)=o.length - 1:=by omega
  rw [hmin]
  repeat' (first|fail|((first|((with_reducible (first|apply oA|apply oB));exact rfl;intro K hK)|(refine hK _ ?_;clear hK K)|((with_reducible (first|apply oG|apply oH));iterate 3 exact rfl)|((with_reducible apply oI);(iterate 2 exact rfl);intro K hK)|(with_reducible (first|apply wI|apply wJ|apply wK)));try simp only [go_sem,simprocAttr,hb])|fail|(with_reducible (first|apply oC|apply oJ|exact oK|apply wA|apply wB|apply wC hX hC|apply wD hX hC|apply wE hX hC af|apply wF hX hC af|apply wG|apply wH|apply And.intro))|((with_reducible refine oD ?_ ?_);first|fail|kernel_rfl)|((with_reducible (first|apply oE|apply oF));(iterate 3 exact rfl);all_goals (intro h;first|(exact absurd h (by decide))|((try simp only [go_sem,simprocAttr,hb] at h);(try with_reducible intro K hK);simp only [go_sem,simprocAttr,hb])))|((first|((with_reducible apply wL);exact rfl)|((with_reducible apply wM);exact rfl));all_goals (try ((with_reducible intro h);first|(exact absurd h (by decide))|(try simp only [go_sem,simprocAttr,hb] at h))))|omega|((first|fail);try simp only [go_sem,simprocAttr,hb])|(intro h))
 have hb:decide ((j:Int)<(o.length:Int))=true:=decide_eq_true (by omega)
 have hin:=hO _ (aT (d:=0) hjl)
 have sG:=AF (A:=A) (o:=o) (left:=left) (c:=c) (j:=j)
 have iO:=AG (A:=B) (o:=o) (left:=right) (c:=c) (j:=j)
 have FR:mj A o left c (j+1)=(mj A o left c j).set (o.getD j 0).toNat (if j=0 then left else (c:Int)+j - 1):=rfl
 have AH:mo B o right c (j+1)=(mo B o right c j).set (o.getD j 0).toNat (if j+1<o.length then (c:Int)+j else right):=rfl
 have p9:min j (o.length - 1)=j:=by omega
 have hlf:Eh left c o.length j=if j=0 then left else (c:Int)+j - 1:=by unfold Eh;rw [p9]
 rw [p9,hlf]
 generalize sx:o.getD j 0=v at hin FR AH
 obtain ⟨i,rfl⟩:∃i:Nat,v=i:=⟨v.toNat,by omega⟩
 rw [Int.toNat_natCast] at FR AH
 generalize (if j=0 then left else (c:Int)+j - 1)=lv at FR hlf ⊢
 by_cases hj2:j+1<o.length
 ·have ak:decide ((j:Int)+1<(o.length:Int))=true:=decide_eq_true (by omega)
  have hm2:min (j+1) (o.length - 1)=j+1:=by omega
  rw [if_pos hj2] at AH
  have FT:Eh left c o.length (j+1)=((c+j:Nat):Int):=by unfold Eh;rw [hm2,if_neg (by omega)];omega
  have kC:(lo++List.replicate j x).length=c+j:=by rw [List.length_append,List.length_replicate,hc]
  have sy:(hi++List.replicate j (0:Int)).length=hi.length+j:=by rw [List.length_append,List.length_replicate]
  have Jj:lo++List.replicate (j+1) x=(lo++List.replicate j x)++ [x]:=by rw [List.replicate_succ', ← List.append_assoc]
  have Jk:hi++List.replicate (j+1) (0:Int)=(hi++List.replicate j 0)++ [0]:=by rw [List.replicate_succ', ← List.append_assoc]
  have qC:=jF (c:=c) (k:=j)
  have BR:=yo (c:=c) (k:=j)
  generalize lo++List.replicate j x=PA at kC Jj
  generalize hi++List.replicate j (0:Int)=hi1 at sy Jk
  generalize fq c j=gs at qC BR
  generalize mj A o left c j=A1 at sG FR
  generalize mo B o right c j=B1 at iO AH
  repeat' (first|fail|((first|((with_reducible (first|apply oA|apply oB));exact rfl;intro K hK)|(refine hK _ ?_;clear hK K)|((with_reducible (first|apply oG|apply oH));iterate 3 exact rfl)|((with_reducible apply oI);(iterate 2 exact rfl);intro K hK)|(with_reducible (first|apply wI|apply wJ|apply wK)));try simp only [go_sem,simprocAttr,hb,ak,sx,sG,iO,kC,sy,qC])|(show dG _ (.seq (.region 8 _ _) _) _ _;(refine jV hX 10000 4 48 200 rfl rfl rfl (by first|exact .inl rfl|exact .inr rfl) (by decide) (by decide) ?_;simp only [LA.app,ASt.put,ASt.kill,subT,rmk,putM,rml,kl,AV.sub,AV.subs,AObj.sub,List.set_cons_zero,List.set_cons_succ,go_sem,simprocAttr,hb,ak,sx,sG,iO,kC,sy,qC]);(refine jV hX 10000 5 55 201 rfl rfl rfl (by first|exact .inl rfl|exact .inr rfl) (by decide) (by decide) ?_;simp only [LA.app,ASt.put,ASt.kill,subT,rmk,putM,rml,kl,AV.sub,AV.subs,AObj.sub,List.set_cons_zero,List.set_cons_succ,go_sem,simprocAttr,hb,ak,sx,sG,iO,kC,sy,qC]))|(show dG _ (.region 9 _ _) _ _;(refine jU hX 10 65 202 (by simp only [go_sem,simprocAttr,hb,ak,sx,sG,iO,kC,sy,qC]) rfl (by first|exact .inl rfl|exact .inr rfl) (by decide) ?_;simp only [go_sem,simprocAttr,hb,ak,sx,sG,iO,kC,sy,qC]))|(with_reducible (first|apply oC|apply oJ|exact oK|apply wA|apply wB|apply wC hX hC|apply wD hX hC|apply wE hX hC af|apply wF hX hC af|apply wG|apply wH|apply And.intro))|((with_reducible refine oD ?_ ?_);first|fail|kernel_rfl)|((with_reducible (first|apply oE|apply oF));(iterate 3 exact rfl);all_goals (intro h;first|(exact absurd h (by decide))|((try simp only [go_sem,simprocAttr,hb,ak,sx,sG,iO,kC,sy,qC] at h);(try with_reducible intro K hK);simp only [go_sem,simprocAttr,hb,ak,sx,sG,iO,kC,sy,qC])))|((first|((with_reducible apply wL);exact rfl)|((with_reducible apply wM);exact rfl));all_goals (try ((with_reducible intro h);first|(exact absurd h (by decide))|(try simp only [go_sem,simprocAttr,hb,ak,sx,sG,iO,kC,sy,qC] at h))))|omega|((first|fail);try simp only [go_sem,simprocAttr,hb,ak,sx,sG,iO,kC,sy,qC])|(intro h))
  refine ⟨j+1,by omega, ?_,by omega⟩
  rw [FR,AH,hm2,Jj,Jk,BR,FT]
  refine Le.of ?_ ?_<;>simp [go_sem,simprocAttr,hb,ak,sx,sG,iO,kC,sy,qC,rI]
 ·have ak:decide ((j:Int)+1<(o.length:Int))=false:=decide_eq_false (by omega)
  have hm2:min (j+1) (o.length - 1)=j:=by omega
  have FT:Eh left c o.length (j+1)=Eh left c o.length j:=by unfold Eh;rw [hm2,p9]
  rw [if_neg hj2] at AH
  generalize mj A o left c j=A1 at sG FR
  generalize mo B o right c j=B1 at iO AH
  repeat' (first|fail|((first|((with_reducible (first|apply oA|apply oB));exact rfl;intro K hK)|(refine hK _ ?_;clear hK K)|((with_reducible (first|apply oG|apply oH));iterate 3 exact rfl)|((with_reducible apply oI);(iterate 2 exact rfl);intro K hK)|(with_reducible (first|apply wI|apply wJ|apply wK)));try simp only [go_sem,simprocAttr,hb,ak,sx,sG,iO])|fail|(with_reducible (first|apply oC|apply oJ|exact oK|apply wA|apply wB|apply wC hX hC|apply wD hX hC|apply wE hX hC af|apply wF hX hC af|apply wG|apply wH|apply And.intro))|((with_reducible refine oD ?_ ?_);first|fail|kernel_rfl)|((with_reducible (first|apply oE|apply oF));(iterate 3 exact rfl);all_goals (intro h;first|(exact absurd h (by decide))|((try simp only [go_sem,simprocAttr,hb,ak,sx,sG,iO] at h);(try with_reducible intro K hK);simp only [go_sem,simprocAttr,hb,ak,sx,sG,iO])))|((first|((with_reducible apply wL);exact rfl)|((with_reducible apply wM);exact rfl));all_goals (try ((with_reducible intro h);first|(exact absurd h (by decide))|(try simp only [go_sem,simprocAttr,hb,ak,sx,sG,iO] at h))))|omega|((first|fail);try simp only [go_sem,simprocAttr,hb,ak,sx,sG,iO])|(intro h))
  refine ⟨j+1,by omega, ?_,by omega⟩
  rw [FR,AH,hm2,FT,hlf]
  refine Le.of ?_ ?_<;>simp [go_sem,simprocAttr,hb,ak,sx,sG,iO,rI]
end Go.Ab
end
section
namespace Go.Ab
open Go.Proofs
attribute [local congr] ACall.congr
set_option maxRecDepth 10000
set_option maxHeartbeats 8000000
def jG (A fs:List Int) (x:Int) (j:Nat):List Int:=iB A fs (fun _=>x) j
theorem jH {A fs:List Int} {x:Int} {j:Nat} :(jG A fs x j).length=A.length:=fm
theorem iU (l items:List Int) (a b:Nat) (h0:0<(l.take a++items++l.drop b).length) (hr:l.length≤400000) (hi:items.length≤100000):Spec Tryz.prog 54 (Args [.d (.sl 1 [[.sl 1 (List.take a (l.map rI))], [.sl 1 (items.map rI)], [.sl 1 (List.drop b (l.map rI))]])]) [] (.d (sI (l.take a++items++l.drop b))) []:=by
 have hf: [l.take a,items,l.drop b].flatten=l.take a++items++l.drop b:=by simp
 have:=dM [l.take a,items,l.drop b] (by simp) (by rw [hf];exact h0) (by rw [hf];simp;omega)
 rw [hf] at this
 simpa only [vL,List.map_cons,List.map_nil,sI,List.map_take,List.map_drop] using this
theorem vh (x:Int) (o W G A B lo hi:List Int) (a b:Nat) (hab:a<b) (PB:b<G.length) (PC:b≤W.length) (hG:G.length≤100000) (hW:W.length≤100000) (hf:∀f∈(G.take b).drop (a+1),0≤f∧f<hi.length)
 (ho:o.length≤100000) (hO:∀i∈o,0≤i∧i<A.length) (hB:B.length=A.length) (hlo:lo.length≤100000) (hhi:hi.length≤100000):
 Spec Tryz.prog 56 (Args [.ptr 10000 0,eN x, .d (sI o),eN a,eN b]) (Gh (sI W) (sI G) A B lo hi) (.tup [])
  (Gi (sI (if o= [] then W else W.take a++o++W.drop b)) (sI (G.take (a+1)++fq lo.length (o.length - 1)++G.drop b)) (mj A o (G.getD a 0) lo.length o.length) (mo B o (G.getD b 0) lo.length o.length) (lo++List.replicate (o.length - 1) x) (jG hi ((G.take b).drop (a+1)) x ((G.take b).drop (a+1)).length++List.replicate (o.length - 1) 0)):=by
 have uk:List.drop (a+1) (List.take b (List.map rI G))=((G.take b).drop (a+1)).map rI:=by rw [List.map_drop,List.map_take]
 have hfl:((G.take b).drop (a+1)).length≤100000:=by simp;omega
 generalize (G.take b).drop (a+1)=fs at uk hf hfl ⊢
 have sH:List.take G.length (List.map rI G)=List.map rI G:=List.take_of_length_le (by simp)
 have ow:List.take W.length (List.map rI W)=List.map rI W:=List.take_of_length_le (by simp)
 have hmn:min ((a:Int)+1) (b:Int)=((a+1:Nat):Int):=by omega
 have CS:=tU x (G.getD a 0) (G.getD b 0) o (sI W) (sI G) A B lo (jG hi fs x fs.length) ho hO hB hlo (by rw [jH];exact hhi)
 have Ma:=iU G (fq lo.length (o.length - 1)) (a+1) b (by simp;omega) (by omega) (by rw [jF];omega)
 have M8:=fun (h:o≠ [])=>iU W o a b (by have:=List.length_pos_iff.2 h;simp;omega) (by omega) (by omega)
 generalize hg:fq lo.length (o.length - 1)=gs at CS Ma
 unfold Gh Gi at CS ⊢
 (refine Spec.fA (C:=T.cfg [] []) (rs:= []) [(10005,300),(10006,301)] (T.aq _ _) Tryz.func56 rfl rfl Tryz.ntmps56 Tryz.results56 (by simp [AObj.isNest]) (by simp [AObj.isNest]) (by first|(simp [look];done)|(simp [asN];done)|(intro l hl;simp only [asN];repeat (rw [if_neg (fun e=>by subst e;simp [look] at hl)]))) (by first|(simp [look];done)|(simp [asN];done)|(intro l hl;simp only [asN];repeat (rw [if_neg (fun e=>by subst e;simp [look] at hl)]))) (by kernel_rfl) ?_;intro X hX hP hC aM aN vals hA;refine ⟨_,by simp,hA, ?_⟩;have af:X.P.follows .mixedOrders=true:=(by rw [hP];exact T.mixed);clear aM aN)
 repeat' (first|fail|((first|((with_reducible (first|apply oA|apply oB));exact rfl;intro K hK)|(refine hK _ ?_;clear hK K)|((with_reducible (first|apply oG|apply oH));iterate 3 exact rfl)|((with_reducible apply oI);(iterate 2 exact rfl);intro K hK)|(with_reducible (first|apply wI|apply wJ|apply wK)));try simp only [go_sem,simprocAttr,hmn,uk])|fail|(with_reducible (first|apply oC|apply oJ|exact oK|apply wA|apply wB|apply wC hX hC|apply wD hX hC|apply wE hX hC af|apply wF hX hC af|apply wG|apply wH|apply And.intro))|((with_reducible refine oD ?_ ?_);first|fail|kernel_rfl)|((with_reducible (first|apply oE|apply oF));(iterate 3 exact rfl);all_goals (intro h;first|(exact absurd h (by decide))|((try simp only [go_sem,simprocAttr,hmn,uk] at h);(try with_reducible intro K hK);simp only [go_sem,simprocAttr,hmn,uk])))|((first|((with_reducible apply wL);exact rfl)|((with_reducible apply wM);exact rfl));all_goals (try ((with_reducible intro h);first|(exact absurd h (by decide))|(try simp only [go_sem,simprocAttr,hmn,uk] at h))))|omega|((first|fail);try simp only [go_sem,simprocAttr,hmn,uk])|(intro h))
 refine an (fun j:Nat=>j≤fs.length) (fun j=>⟨[(0, .ptr 10000 0),(1,eN x),(2, .d (sI o)),(3,eN a),(4,eN b),(24, .d (sI fs)),(25,eN fs.length),(26,eN j)], [(10000, .box [.d (sI W), .d (sI G), .ref 10001, .ref 10002, .ref 10003, .ref 10004]),(10001, .own 3 1 (A.map rI)),(10002, .own 3 1 (B.map rI)),(10003, .tip 3 1 (lo.map rI)),(10004, .own 3 1 ((jG hi fs x j).map rI))]⟩) (fun j=>fs.length - j) 0 (by omega) ?_ ?_
 ·refine Le.of ?_ ?_<;>simp [go_sem,simprocAttr,jG,iB]
 rintro j hj
 rcases Nat.lt_or_ge j fs.length with hjl|I4
 ·have hb:decide ((j:Int)<(fs.length:Int))=true:=decide_eq_true (by omega)
  have hin:=hf _ (aT (d:=0) hjl)
  have sy:=jH (A:=hi) (fs:=fs) (x:=x) (j:=j)
  have JS:jG hi fs x (j+1)=(jG hi fs x j).set (fs.getD j 0).toNat x:=rfl
  generalize sx:fs.getD j 0=v at hin JS
  obtain ⟨i,rfl⟩:∃i:Nat,v=i:=⟨v.toNat,by omega⟩
  rw [Int.toNat_natCast] at JS
  generalize jG hi fs x j=H1 at sy JS
  repeat' (first|fail|((first|((with_reducible (first|apply oA|apply oB));exact rfl;intro K hK)|(refine hK _ ?_;clear hK K)|((with_reducible (first|apply oG|apply oH));iterate 3 exact rfl)|((with_reducible apply oI);(iterate 2 exact rfl);intro K hK)|(with_reducible (first|apply wI|apply wJ|apply wK)));try simp only [go_sem,simprocAttr,hb,sx,sy])|fail|(with_reducible (first|apply oC|apply oJ|exact oK|apply wA|apply wB|apply wC hX hC|apply wD hX hC|apply wE hX hC af|apply wF hX hC af|apply wG|apply wH|apply And.intro))|((with_reducible refine oD ?_ ?_);first|fail|kernel_rfl)|((with_reducible (first|apply oE|apply oF));(iterate 3 exact rfl);all_goals (intro h;first|(exact absurd h (by decide))|((try simp only [go_sem,simprocAttr,hb,sx,sy] at h);(try with_reducible intro K hK);simp only [go_sem,simprocAttr,hb,sx,sy])))|((first|((with_reducible apply wL);exact rfl)|((with_reducible apply wM);exact rfl));all_goals (try ((with_reducible intro h);first|(exact absurd h (by decide))|(try simp only [go_sem,simprocAttr,hb,sx,sy] at h))))|omega|((first|fail);try simp only [go_sem,simprocAttr,hb,sx,sy])|(intro h))
  refine ⟨j+1,by omega, ?_,by omega⟩
  rw [JS]
  refine Le.of ?_ ?_<;>simp [go_sem,simprocAttr,hb,sx,sy,rI]
 have hb:decide ((j:Int)<(fs.length:Int))=false:=decide_eq_false (by omega)
 obtain rfl:j=fs.length:=by omega
 have oL:((a:Int)+1).toNat=a+1:=by omega
 by_cases hne:o= []
 ·have ak:decide ((o.length:Int)=0)=true:=decide_eq_true (by rw [hne];rfl)
  repeat' (first|fail|((first|((with_reducible (first|apply oA|apply oB));exact rfl;intro K hK)|(refine hK _ ?_;clear hK K)|((with_reducible (first|apply oG|apply oH));iterate 3 exact rfl)|((with_reducible apply oI);(iterate 2 exact rfl);intro K hK)|(with_reducible (first|apply wI|apply wJ|apply wK)));try simp only [go_sem,simprocAttr,hb,ak,if_pos hne,oL,sH,ow])|fail|(with_reducible (first|apply oC|apply oJ|exact oK|apply wA|apply wB|apply wC hX hC|apply wD hX hC|apply wE hX hC af|apply wF hX hC af|apply wG|apply wH|apply And.intro))|((with_reducible refine oD ?_ ?_);first|fail|kernel_rfl)|((with_reducible (first|apply oE|apply oF));(iterate 3 exact rfl);all_goals (intro h;first|(exact absurd h (by decide))|((try simp only [go_sem,simprocAttr,hb,ak,if_pos hne,oL,sH,ow] at h);(try with_reducible intro K hK);simp only [go_sem,simprocAttr,hb,ak,if_pos hne,oL,sH,ow])))|((first|((with_reducible apply wL);exact rfl)|((with_reducible apply wM);exact rfl));all_goals (try ((with_reducible intro h);first|(exact absurd h (by decide))|(try simp only [go_sem,simprocAttr,hb,ak,if_pos hne,oL,sH,ow] at h))))|omega|((first|first|(refine az hX hC hP [(10000,10000),(10001,10001),(10002,10002),(10003,10003),(10004,10004),(10005,300),(10006,301)] (CS) rfl rfl rfl ?_ ?_ ?_ ?_ ?_ ?_ ?_ ?_ ?_ ?_ ?_ ?_ ?_ ?_;(focus (simp only [go_sem,simprocAttr,hb,ak,if_pos hne,oL,sH,ow];done));(iterate 12 (focus (simp [go_sem,simprocAttr,hb,ak,if_pos hne,oL,sH,ow];done)));simp only [go_sem,simprocAttr,hb,ak,if_pos hne,oL,sH,ow,List.map_cons,List.map_nil])|(refine bk hX hC hP (Ma) rfl rfl rfl ?_ ?_ rfl ?_;iterate 2 (focus (simp only [go_sem,simprocAttr,hb,ak,if_pos hne,oL,sH,ow];done)))|(refine bk hX hC hP (M8 hne) rfl rfl rfl ?_ ?_ rfl ?_;iterate 2 (focus (simp only [go_sem,simprocAttr,hb,ak,if_pos hne,oL,sH,ow];done))));try simp only [go_sem,simprocAttr,hb,ak,if_pos hne,oL,sH,ow])|(intro h))
  all_goals (first|rfl|(simp only [go_sem,simprocAttr,hb,ak,if_pos hne,oL,sH,ow];done))
 ·have ak:decide ((o.length:Int)=0)=false:=decide_eq_false (by have:=List.length_pos_iff.2 hne;omega)
  repeat' (first|fail|((first|((with_reducible (first|apply oA|apply oB));exact rfl;intro K hK)|(refine hK _ ?_;clear hK K)|((with_reducible (first|apply oG|apply oH));iterate 3 exact rfl)|((with_reducible apply oI);(iterate 2 exact rfl);intro K hK)|(with_reducible (first|apply wI|apply wJ|apply wK)));try simp only [go_sem,simprocAttr,hb,ak,if_neg hne,oL,sH,ow])|fail|(with_reducible (first|apply oC|apply oJ|exact oK|apply wA|apply wB|apply wC hX hC|apply wD hX hC|apply wE hX hC af|apply wF hX hC af|apply wG|apply wH|apply And.intro))|((with_reducible refine oD ?_ ?_);first|fail|kernel_rfl)|((with_reducible (first|apply oE|apply oF));(iterate 3 exact rfl);all_goals (intro h;first|(exact absurd h (by decide))|((try simp only [go_sem,simprocAttr,hb,ak,if_neg hne,oL,sH,ow] at h);(try with_reducible intro K hK);simp only [go_sem,simprocAttr,hb,ak,if_neg hne,oL,sH,ow])))|((first|((with_reducible apply wL);exact rfl)|((with_reducible apply wM);exact rfl));all_goals (try ((with_reducible intro h);first|(exact absurd h (by decide))|(try simp only [go_sem,simprocAttr,hb,ak,if_neg hne,oL,sH,ow] at h))))|omega|((first|first|(refine az hX hC hP [(10000,10000),(10001,10001),(10002,10002),(10003,10003),(10004,10004),(10005,300),(10006,301)] (CS) rfl rfl rfl ?_ ?_ ?_ ?_ ?_ ?_ ?_ ?_ ?_ ?_ ?_ ?_ ?_ ?_;(focus (simp only [go_sem,simprocAttr,hb,ak,if_neg hne,oL,sH,ow];done));(iterate 12 (focus (simp [go_sem,simprocAttr,hb,ak,if_neg hne,oL,sH,ow];done)));simp only [go_sem,simprocAttr,hb,ak,if_neg hne,oL,sH,ow,List.map_cons,List.map_nil])|(refine bk hX hC hP (Ma) rfl rfl rfl ?_ ?_ rfl ?_;iterate 2 (focus (simp only [go_sem,simprocAttr,hb,ak,if_neg hne,oL,sH,ow];done)))|(refine bk hX hC hP (M8 hne) rfl rfl rfl ?_ ?_ rfl ?_;iterate 2 (focus (simp only [go_sem,simprocAttr,hb,ak,if_neg hne,oL,sH,ow];done))));try simp only [go_sem,simprocAttr,hb,ak,if_neg hne,oL,sH,ow])|(intro h))
  all_goals (first|rfl|(simp only [go_sem,simprocAttr,hb,ak,if_neg hne,oL,sH,ow];done))
end Go.Ab
end
