/- A part of the proof. -/
import Derived.Test.YtjmaiddbinlooaaGreatL4P14
set_option linter.unusedSimpArgs false
set_option linter.unusedVariables false
section
namespace Go.Ab
open Go.Proofs
attribute [local congr] ACall.congr
set_option maxRecDepth 10000
set_option maxHeartbeats 8000000
def mo (m:Nat) (fl:List Int):List Int:=(List.range m).map fun i:Nat=>if (i:Int)∈fl then (1:Int) else 0
theorem vX {m:Nat} {fl:List Int} :(mo m fl).length=m:=by simp [mo]
theorem zM {m:Nat} :mo m []=List.replicate m 0:=by
 refine List.ext_getElem (by simp [mo]) fun i h1 h2=> ?_
 simp [mo]
theorem ym {m:Nat} {fl:List Int} {i:Nat} (h:i<m):(mo m fl).getD i 0=if (i:Int)∈fl then 1 else 0:=by
 simp [mo,List.getD_eq_getElem?_getD,List.getElem?_range h]
theorem BX {m:Nat} {fl:List Int} {i:Nat} (h:i<m):(mo m fl).set i 1=mo m (fl++ [(i:Int)]):=by
 refine List.ext_getElem (by simp [mo]) fun j h1 h2=> ?_
 rw [List.getElem_set]
 simp only [mo,List.getElem_map,List.getElem_range,List.mem_append,List.mem_singleton]
 by_cases e:i=j
 ·subst e;simp
 ·rw [if_neg e]
  have:¬(j:Int)=(i:Int):=by omega
  simp [this]
theorem BY {outs:List (List Int)} {x k:Nat} (hx:x<outs.length):((outs.take x).flatten++(outs.getD x []).take k).Sublist outs.flatten:=by
 have e:outs=outs.take x++outs.getD x []::outs.drop (x+1):=by
  conv=>lhs;rw [← List.take_append_drop x outs]
  congr 1
  rw [List.drop_eq_getElem_cons hx,List.getD_eq_getElem?_getD,List.getElem?_eq_getElem hx]
  rfl
 conv=>rhs;rw [e]
 rw [List.flatten_append,List.flatten_cons]
 exact List.Sublist.append (List.Sublist.refl _) ((List.take_sublist _ _).trans (List.sublist_append_left _ _))
theorem xz {l:List Int} {k:Nat} (h:k<l.length):l.take (k+1)=l.take k++ [l.getD k 0]:=by
 rw [List.take_add_one,List.getD_eq_getElem?_getD,List.getElem?_eq_getElem h];rfl
theorem nk {g:Gr} {x i:Int} :i∈bt g x↔(0≤i∧i<g.es.length)∧(g.es.getD i.toNat (0,0)).1=x:=by
 constructor
 ·exact gJ
 ·rintro ⟨⟨h1,h2⟩,h3⟩
  simp only [bt,aX,List.mem_map,List.mem_filter,List.mem_range,decide_eq_true_eq]
  exact ⟨i.toNat,⟨by omega,h3⟩,by simp;omega⟩
theorem BZ (g:Gr) (hl:g.es.length≤9223372036854775807) (p:Pl) (hp:nj p) (res:Bool) (hr:res=true↔(b8 g).1=0∧bu g p):Spec Tryz.prog 117 (Args [eG g,ePl p]) [] (eB res) []:=by
 have ho:p.ord.length≤9223372036854775807:=by have:=hp.ord;omega
 have Fv:=hp.outs
 by_cases hc:(b8 g).1=0
 rotate_left
 ·have hres:res=false:=by
   rw [← Bool.not_eq_true,hr]
   rintro ⟨h,_⟩
   exact hc h
  subst hres
  have aj:decide ((b8 g).1=0)=false:=decide_eq_false hc
  (refine Spec.intro (C:=T.cfg [] []) (rs:= [.t 4]) (T.aq _ _) Tryz.func117 rfl rfl Tryz.ntmps117 Tryz.results117 (by simp [AObj.isNest]) (by simp [AObj.isNest]) (by kernel_rfl) ?_;intro X hX hP hC aN aO vals hA;refine ⟨_,by simp,hA, ?_⟩;have af:X.P.follows .mixedOrders=true:=(by rw [hP];exact T.mixed);clear aN aO)
  repeat' (first|fail|((first|((with_reducible (first|apply oA|apply oB));exact rfl;intro K hK)|(refine hK _ ?_;clear hK K)|((with_reducible (first|apply oG|apply oH));iterate 3 exact rfl)|((with_reducible apply oI);(iterate 2 exact rfl);intro K hK)|(with_reducible (first|apply wI|apply wJ|apply wK)));try simp only [go_sem,simprocAttr,aj])|fail|(with_reducible (first|apply oC|apply oJ|exact oK|apply wA|apply wB|apply wC hX hC|apply wD hX hC|apply wE hX hC af|apply wF hX hC af|apply wG|apply wH|apply And.intro))|((with_reducible refine oD ?_ ?_);first|fail|kernel_rfl)|((with_reducible (first|apply oE|apply oF));(iterate 3 exact rfl);all_goals (intro h;first|(exact absurd h (by decide))|((try simp only [go_sem,simprocAttr,aj] at h);(try with_reducible intro K hK);simp only [go_sem,simprocAttr,aj])))|((first|((with_reducible apply wL);exact rfl)|((with_reducible apply wM);exact rfl));all_goals (try ((with_reducible intro h);first|(exact absurd h (by decide))|(try simp only [go_sem,simprocAttr,aj] at h))))|omega|((first|first|refine aa hX hC hP (aQ g hl) rfl rfl rfl (by simp only [go_sem,simprocAttr,aj]) rfl ?_);try simp only [go_sem,simprocAttr,aj])|(intro h))
 have aj:decide ((b8 g).1=0)=true:=decide_eq_true hc
 have hm:=aD hc
 have hn:=aY hm
 have hr:res=true↔bu g p:=by rw [hr];exact ⟨fun h=>h.2,fun h=>⟨hc,h⟩⟩
 rw [← yh hm] at hr
 by_cases he:fC p.ord g.n=true∧p.outs.length=g.n.toNat
 rotate_left
 ·have hres:res=false:=by
   rw [← Bool.not_eq_true,hr]
   rintro ⟨h2,h3,_⟩
   exact he ⟨h2,h3⟩
  subst hres
  cases h2:fC p.ord g.n with
  |false=>
   (refine Spec.intro (C:=T.cfg [] []) (rs:= [.t 4]) (T.aq _ _) Tryz.func117 rfl rfl Tryz.ntmps117 Tryz.results117 (by simp [AObj.isNest]) (by simp [AObj.isNest]) (by kernel_rfl) ?_;intro X hX hP hC aN aO vals hA;refine ⟨_,by simp,hA, ?_⟩;have af:X.P.follows .mixedOrders=true:=(by rw [hP];exact T.mixed);clear aN aO)
   repeat' (first|fail|((first|((with_reducible (first|apply oA|apply oB));exact rfl;intro K hK)|(refine hK _ ?_;clear hK K)|((with_reducible (first|apply oG|apply oH));iterate 3 exact rfl)|((with_reducible apply oI);(iterate 2 exact rfl);intro K hK)|(with_reducible (first|apply wI|apply wJ|apply wK)));try simp only [go_sem,simprocAttr,aj,h2])|fail|(with_reducible (first|apply oC|apply oJ|exact oK|apply wA|apply wB|apply wC hX hC|apply wD hX hC|apply wE hX hC af|apply wF hX hC af|apply wG|apply wH|apply And.intro))|((with_reducible refine oD ?_ ?_);first|fail|kernel_rfl)|((with_reducible (first|apply oE|apply oF));(iterate 3 exact rfl);all_goals (intro h;first|(exact absurd h (by decide))|((try simp only [go_sem,simprocAttr,aj,h2] at h);(try with_reducible intro K hK);simp only [go_sem,simprocAttr,aj,h2])))|((first|((with_reducible apply wL);exact rfl)|((with_reducible apply wM);exact rfl));all_goals (try ((with_reducible intro h);first|(exact absurd h (by decide))|(try simp only [go_sem,simprocAttr,aj,h2] at h))))|omega|((first|first|refine aa hX hC hP (aQ g hl) rfl rfl rfl (by simp only [go_sem,simprocAttr,aj,h2]) rfl ?_|refine aa hX hC hP (cj p.ord g.n ho) rfl rfl rfl (by simp only [go_sem,simprocAttr,aj,h2]) rfl ?_);try simp only [go_sem,simprocAttr,aj,h2])|(intro h))
  |true=>
   have ak:decide ((p.outs.length:Int)=g.n)=false:=decide_eq_false fun h3=>he ⟨h2,by omega⟩
   (refine Spec.intro (C:=T.cfg [] []) (rs:= [.t 4]) (T.aq _ _) Tryz.func117 rfl rfl Tryz.ntmps117 Tryz.results117 (by simp [AObj.isNest]) (by simp [AObj.isNest]) (by kernel_rfl) ?_;intro X hX hP hC aN aO vals hA;refine ⟨_,by simp,hA, ?_⟩;have af:X.P.follows .mixedOrders=true:=(by rw [hP];exact T.mixed);clear aN aO)
   repeat' (first|fail|((first|((with_reducible (first|apply oA|apply oB));exact rfl;intro K hK)|(refine hK _ ?_;clear hK K)|((with_reducible (first|apply oG|apply oH));iterate 3 exact rfl)|((with_reducible apply oI);(iterate 2 exact rfl);intro K hK)|(with_reducible (first|apply wI|apply wJ|apply wK)));try simp only [go_sem,simprocAttr,aj,h2,ak])|fail|(with_reducible (first|apply oC|apply oJ|exact oK|apply wA|apply wB|apply wC hX hC|apply wD hX hC|apply wE hX hC af|apply wF hX hC af|apply wG|apply wH|apply And.intro))|((with_reducible refine oD ?_ ?_);first|fail|kernel_rfl)|((with_reducible (first|apply oE|apply oF));(iterate 3 exact rfl);all_goals (intro h;first|(exact absurd h (by decide))|((try simp only [go_sem,simprocAttr,aj,h2,ak] at h);(try with_reducible intro K hK);simp only [go_sem,simprocAttr,aj,h2,ak])))|((first|((with_reducible apply wL);exact rfl)|((with_reducible apply wM);exact rfl));all_goals (try ((with_reducible intro h);first|(exact absurd h (by decide))|(try simp only [go_sem,simprocAttr,aj,h2,ak] at h))))|omega|((first|first|refine aa hX hC hP (aQ g hl) rfl rfl rfl (by simp only [go_sem,simprocAttr,aj,h2,ak]) rfl ?_|refine aa hX hC hP (cj p.ord g.n ho) rfl rfl rfl (by simp only [go_sem,simprocAttr,aj,h2,ak]) rfl ?_);try simp only [go_sem,simprocAttr,aj,h2,ak])|(intro h))
 obtain ⟨mH,uG⟩:=he
 have ak:decide ((p.outs.length:Int)=g.n)=true:=decide_eq_true (by omega)
 (refine Spec.intro (C:=T.cfg [] []) (rs:= [.t 4]) (T.aq _ _) Tryz.func117 rfl rfl Tryz.ntmps117 Tryz.results117 (by simp [AObj.isNest]) (by simp [AObj.isNest]) (by kernel_rfl) ?_;intro X hX hP hC aN aO vals hA;refine ⟨_,by simp,hA, ?_⟩;have af:X.P.follows .mixedOrders=true:=(by rw [hP];exact T.mixed);clear aN aO)
 repeat' (first|fail|((first|((with_reducible (first|apply oA|apply oB));exact rfl;intro K hK)|(refine hK _ ?_;clear hK K)|((with_reducible (first|apply oG|apply oH));iterate 3 exact rfl)|((with_reducible apply oI);(iterate 2 exact rfl);intro K hK)|(with_reducible (first|apply wI|apply wJ|apply wK)));try simp only [go_sem,simprocAttr,aj,mH,ak])|fail|(with_reducible (first|apply oC|apply oJ|exact oK|apply wA|apply wB|apply wC hX hC|apply wD hX hC|apply wE hX hC af|apply wF hX hC af|apply wG|apply wH|apply And.intro))|((with_reducible refine oD ?_ ?_);first|fail|kernel_rfl)|((with_reducible (first|apply oE|apply oF));(iterate 3 exact rfl);all_goals (intro h;first|(exact absurd h (by decide))|((try simp only [go_sem,simprocAttr,aj,mH,ak] at h);(try with_reducible intro K hK);simp only [go_sem,simprocAttr,aj,mH,ak])))|((first|((with_reducible apply wL);exact rfl)|((with_reducible apply wM);exact rfl));all_goals (try ((with_reducible intro h);first|(exact absurd h (by decide))|(try simp only [go_sem,simprocAttr,aj,mH,ak] at h))))|omega|((first|first|refine aa hX hC hP (aQ g hl) rfl rfl rfl (by simp only [go_sem,simprocAttr,aj,mH,ak]) rfl ?_|refine aa hX hC hP (cj p.ord g.n ho) rfl rfl rfl (by simp only [go_sem,simprocAttr,aj,mH,ak]) rfl ?_);try simp only [go_sem,simprocAttr,aj,mH,ak])|(intro h))
 clear aj ak
 have Dt:List.replicate g.es.length [D.sc (.int .i64 0)]=(mo g.es.length []).map rI:=by rw [zM,List.map_replicate];rfl
 rw [Dt]
 clear Dt
 refine an (fun x:Nat=>x≤p.outs.length∧(p.outs.take x).flatten.Nodup∧∀y:Nat,y<x→∀i∈p.outs.getD y [],i∈bt g y) (fun x=>⟨[(2, .ptr 2 0),(3, .ptr 3 0),(5, .ref 32),(6,eN x)], [(32, .own 3 1 ((mo g.es.length (p.outs.take x).flatten).map rI)),(3, .box [.d (sI p.ord), .d (.sl 1 (vI p.outs))]),(2, .box [eN g.n, .d (sE g.es)])]⟩) (fun x=>p.outs.length - x) 0 (by simp) ?_ ?_
 ·refine Le.of ?_ ?_<;>simp [go_sem,simprocAttr]
 rintro x ⟨hx,cl,um⟩
 rcases Nat.lt_or_ge x p.outs.length with hxl|BW
 ·have hb:decide ((x:Int)<(p.outs.length:Int))=true:=decide_eq_true (by omega)
  have hv:=iz hxl
  have hle:=hp.each _ (bf (d:= []) hxl)
  have hpre:=fun k=>BY (k:=k) hxl
  have hnext:(p.outs.take (x+1)).flatten=(p.outs.take x).flatten++p.outs.getD x []:=by
   rw [List.take_add_one,List.flatten_append,List.getD_eq_getElem?_getD,List.getElem?_eq_getElem hxl];simp
  have iH:∀i∈p.outs.getD x [],i∉bt g x→res=false:=fun i hi hn=>by
   rw [← Bool.not_eq_true,hr]
   rintro ⟨_,_,h3,_⟩
   exact hn (h3 x hxl i hi)
  have uH:∀k,¬((p.outs.take x).flatten++(p.outs.getD x []).take k).Nodup→res=false:=fun k hn=>by
   rw [← Bool.not_eq_true,hr]
   rintro ⟨_,_,_,h4,_⟩
   exact hn (List.Nodup.sublist (hpre k) h4)
  have A9:(∀i∈p.outs.getD x [],i∈bt g x)→∀y:Nat,y<x+1→∀i∈p.outs.getD y [],i∈bt g y:=fun h y hy=>by
   by_cases e:y=x
   ·subst e;exact h
   ·exact um y (by omega)
  generalize p.outs.getD x []=l at hv hle hpre hnext iH uH A9
  generalize (p.outs.take x).flatten=fl at cl hpre hnext uH
  clear hpre
  repeat' (first|fail|((first|((with_reducible (first|apply oA|apply oB));exact rfl;intro K hK)|(refine hK _ ?_;clear hK K)|((with_reducible (first|apply oG|apply oH));iterate 3 exact rfl)|((with_reducible apply oI);(iterate 2 exact rfl);intro K hK)|(with_reducible (first|apply wI|apply wJ|apply wK)));try simp only [go_sem,simprocAttr,hb,hv])|fail|(with_reducible (first|apply oC|apply oJ|exact oK|apply wA|apply wB|apply wC hX hC|apply wD hX hC|apply wE hX hC af|apply wF hX hC af|apply wG|apply wH|apply And.intro))|((with_reducible refine oD ?_ ?_);first|fail|kernel_rfl)|((with_reducible (first|apply oE|apply oF));(iterate 3 exact rfl);all_goals (intro h;first|(exact absurd h (by decide))|((try simp only [go_sem,simprocAttr,hb,hv] at h);(try with_reducible intro K hK);simp only [go_sem,simprocAttr,hb,hv])))|((first|((with_reducible apply wL);exact rfl)|((with_reducible apply wM);exact rfl));all_goals (try ((with_reducible intro h);first|(exact absurd h (by decide))|(try simp only [go_sem,simprocAttr,hb,hv] at h))))|omega|((first|first|refine aa hX hC hP (aQ g hl) rfl rfl rfl (by simp only [go_sem,simprocAttr,hb,hv]) rfl ?_|refine aa hX hC hP (cj p.ord g.n ho) rfl rfl rfl (by simp only [go_sem,simprocAttr,hb,hv]) rfl ?_);try simp only [go_sem,simprocAttr,hb,hv])|(intro h))
  clear hb
  refine an (fun k:Nat=>k≤l.length∧(fl++l.take k).Nodup∧∀i∈l.take k,i∈bt g x) (fun k=>⟨[(2, .ptr 2 0),(3, .ptr 3 0),(5, .ref 32),(6,eN x),(7,eN k)], [(32, .own 3 1 ((mo g.es.length (fl++l.take k)).map rI)),(3, .box [.d (sI p.ord), .d (.sl 1 (vI p.outs))]),(2, .box [eN g.n, .d (sE g.es)])]⟩) (fun k=>l.length - k) 0 (by simpa using cl) ?_ ?_
  ·refine Le.of ?_ ?_<;>simp [go_sem,simprocAttr]
  rintro k ⟨hk,yV,Fk⟩
  rcases Nat.lt_or_ge k l.length with cm|Ea
  ·have cR:decide ((k:Int)<(l.length:Int))=true:=decide_eq_true (by omega)
   have vH:=xz cm
   have him:=bf (d:=0) cm
   have dM:=vX (m:=g.es.length) (fl:=fl++l.take k)
   generalize hi:l.getD k 0=i at vH him
   by_cases h0:i<0
   ·have hres:=iH i him (fun h=>by have:=(nk.1 h).1;omega)
    subst hres
    have aj:decide (i<0)=true:=decide_eq_true h0
    repeat' (first|fail|((first|((with_reducible (first|apply oA|apply oB));exact rfl;intro K hK)|(refine hK _ ?_;clear hK K)|((with_reducible (first|apply oG|apply oH));iterate 3 exact rfl)|((with_reducible apply oI);(iterate 2 exact rfl);intro K hK)|(with_reducible (first|apply wI|apply wJ|apply wK)));try simp only [go_sem,simprocAttr,cR,hv,hi,aj])|fail|(with_reducible (first|apply oC|apply oJ|exact oK|apply wA|apply wB|apply wC hX hC|apply wD hX hC|apply wE hX hC af|apply wF hX hC af|apply wG|apply wH|apply And.intro))|((with_reducible refine oD ?_ ?_);first|fail|kernel_rfl)|((with_reducible (first|apply oE|apply oF));(iterate 3 exact rfl);all_goals (intro h;first|(exact absurd h (by decide))|((try simp only [go_sem,simprocAttr,cR,hv,hi,aj] at h);(try with_reducible intro K hK);simp only [go_sem,simprocAttr,cR,hv,hi,aj])))|((first|((with_reducible apply wL);exact rfl)|((with_reducible apply wM);exact rfl));all_goals (try ((with_reducible intro h);first|(exact absurd h (by decide))|(try simp only [go_sem,simprocAttr,cR,hv,hi,aj] at h))))|omega|((first|first|refine aa hX hC hP (aQ g hl) rfl rfl rfl (by simp only [go_sem,simprocAttr,cR,hv,hi,aj]) rfl ?_|refine aa hX hC hP (cj p.ord g.n ho) rfl rfl rfl (by simp only [go_sem,simprocAttr,cR,hv,hi,aj]) rfl ?_);try simp only [go_sem,simprocAttr,cR,hv,hi,aj])|(intro h))
   have aj:decide (i<0)=false:=decide_eq_false h0
   by_cases h1:(g.es.length:Int)≤i
   ·have hres:=iH i him (fun h=>by have:=(nk.1 h).1;omega)
    subst hres
    have ak:decide ((g.es.length:Int)≤i)=true:=decide_eq_true h1
    repeat' (first|fail|((first|((with_reducible (first|apply oA|apply oB));exact rfl;intro K hK)|(refine hK _ ?_;clear hK K)|((with_reducible (first|apply oG|apply oH));iterate 3 exact rfl)|((with_reducible apply oI);(iterate 2 exact rfl);intro K hK)|(with_reducible (first|apply wI|apply wJ|apply wK)));try simp only [go_sem,simprocAttr,cR,hv,hi,aj,ak,dM])|fail|(with_reducible (first|apply oC|apply oJ|exact oK|apply wA|apply wB|apply wC hX hC|apply wD hX hC|apply wE hX hC af|apply wF hX hC af|apply wG|apply wH|apply And.intro))|((with_reducible refine oD ?_ ?_);first|fail|kernel_rfl)|((with_reducible (first|apply oE|apply oF));(iterate 3 exact rfl);all_goals (intro h;first|(exact absurd h (by decide))|((try simp only [go_sem,simprocAttr,cR,hv,hi,aj,ak,dM] at h);(try with_reducible intro K hK);simp only [go_sem,simprocAttr,cR,hv,hi,aj,ak,dM])))|((first|((with_reducible apply wL);exact rfl)|((with_reducible apply wM);exact rfl));all_goals (try ((with_reducible intro h);first|(exact absurd h (by decide))|(try simp only [go_sem,simprocAttr,cR,hv,hi,aj,ak,dM] at h))))|omega|((first|first|refine aa hX hC hP (aQ g hl) rfl rfl rfl (by simp only [go_sem,simprocAttr,cR,hv,hi,aj,ak,dM]) rfl ?_|refine aa hX hC hP (cj p.ord g.n ho) rfl rfl rfl (by simp only [go_sem,simprocAttr,cR,hv,hi,aj,ak,dM]) rfl ?_);try simp only [go_sem,simprocAttr,cR,hv,hi,aj,ak,dM])|(intro h))
   have ak:decide ((g.es.length:Int)≤i)=false:=decide_eq_false h1
   obtain ⟨e,rfl⟩:∃e:Nat,i=e:=⟨i.toNat,by omega⟩
   have hel:e<g.es.length:=by omega
   by_cases h2:(g.es.getD e (0,0)).1=x
   rotate_left
   ·have hres:=iH _ him (fun h=>h2 (by have:=(nk.1 h).2;rwa [Int.toNat_natCast] at this))
    subst hres
    have bp:decide ((g.es.getD e (0,0)).1=(x:Int))=false:=decide_eq_false h2
    repeat' (first|fail|((first|((with_reducible (first|apply oA|apply oB));exact rfl;intro K hK)|(refine hK _ ?_;clear hK K)|((with_reducible (first|apply oG|apply oH));iterate 3 exact rfl)|((with_reducible apply oI);(iterate 2 exact rfl);intro K hK)|(with_reducible (first|apply wI|apply wJ|apply wK)));try simp only [go_sem,simprocAttr,cR,hv,hi,aj,ak,bp,dM])|fail|(with_reducible (first|apply oC|apply oJ|exact oK|apply wA|apply wB|apply wC hX hC|apply wD hX hC|apply wE hX hC af|apply wF hX hC af|apply wG|apply wH|apply And.intro))|((with_reducible refine oD ?_ ?_);first|fail|kernel_rfl)|((with_reducible (first|apply oE|apply oF));(iterate 3 exact rfl);all_goals (intro h;first|(exact absurd h (by decide))|((try simp only [go_sem,simprocAttr,cR,hv,hi,aj,ak,bp,dM] at h);(try with_reducible intro K hK);simp only [go_sem,simprocAttr,cR,hv,hi,aj,ak,bp,dM])))|((first|((with_reducible apply wL);exact rfl)|((with_reducible apply wM);exact rfl));all_goals (try ((with_reducible intro h);first|(exact absurd h (by decide))|(try simp only [go_sem,simprocAttr,cR,hv,hi,aj,ak,bp,dM] at h))))|omega|((first|first|refine aa hX hC hP (aQ g hl) rfl rfl rfl (by simp only [go_sem,simprocAttr,cR,hv,hi,aj,ak,bp,dM]) rfl ?_|refine aa hX hC hP (cj p.ord g.n ho) rfl rfl rfl (by simp only [go_sem,simprocAttr,cR,hv,hi,aj,ak,bp,dM]) rfl ?_);try simp only [go_sem,simprocAttr,cR,hv,hi,aj,ak,bp,dM])|(intro h))
   have bp:decide ((g.es.getD e (0,0)).1=(x:Int))=true:=decide_eq_true h2
   have kG:=ym (fl:=fl++l.take k) hel
   by_cases h3:(e:Int)∈fl++l.take k
   ·have hres:=uH (k+1) (fun h=>by
     rw [vH, ← List.append_assoc,List.nodup_append] at h
     exact h.2.2 _ h3 _ (List.mem_singleton.2 rfl) rfl)
    subst hres
    rw [if_pos h3] at kG
    repeat' (first|fail|((first|((with_reducible (first|apply oA|apply oB));exact rfl;intro K hK)|(refine hK _ ?_;clear hK K)|((with_reducible (first|apply oG|apply oH));iterate 3 exact rfl)|((with_reducible apply oI);(iterate 2 exact rfl);intro K hK)|(with_reducible (first|apply wI|apply wJ|apply wK)));try simp only [go_sem,simprocAttr,cR,hv,hi,aj,ak,bp,dM,kG])|fail|(with_reducible (first|apply oC|apply oJ|exact oK|apply wA|apply wB|apply wC hX hC|apply wD hX hC|apply wE hX hC af|apply wF hX hC af|apply wG|apply wH|apply And.intro))|((with_reducible refine oD ?_ ?_);first|fail|kernel_rfl)|((with_reducible (first|apply oE|apply oF));(iterate 3 exact rfl);all_goals (intro h;first|(exact absurd h (by decide))|((try simp only [go_sem,simprocAttr,cR,hv,hi,aj,ak,bp,dM,kG] at h);(try with_reducible intro K hK);simp only [go_sem,simprocAttr,cR,hv,hi,aj,ak,bp,dM,kG])))|((first|((with_reducible apply wL);exact rfl)|((with_reducible apply wM);exact rfl));all_goals (try ((with_reducible intro h);first|(exact absurd h (by decide))|(try simp only [go_sem,simprocAttr,cR,hv,hi,aj,ak,bp,dM,kG] at h))))|omega|((first|first|refine aa hX hC hP (aQ g hl) rfl rfl rfl (by simp only [go_sem,simprocAttr,cR,hv,hi,aj,ak,bp,dM,kG]) rfl ?_|refine aa hX hC hP (cj p.ord g.n ho) rfl rfl rfl (by simp only [go_sem,simprocAttr,cR,hv,hi,aj,ak,bp,dM,kG]) rfl ?_);try simp only [go_sem,simprocAttr,cR,hv,hi,aj,ak,bp,dM,kG])|(intro h))
   ·rw [if_neg h3] at kG
    have ck:=BX (fl:=fl++l.take k) hel
    rw [List.append_assoc, ← vH] at ck
    repeat' (first|fail|((first|((with_reducible (first|apply oA|apply oB));exact rfl;intro K hK)|(refine hK _ ?_;clear hK K)|((with_reducible (first|apply oG|apply oH));iterate 3 exact rfl)|((with_reducible apply oI);(iterate 2 exact rfl);intro K hK)|(with_reducible (first|apply wI|apply wJ|apply wK)));try simp only [go_sem,simprocAttr,cR,hv,hi,aj,ak,bp,dM,kG])|fail|(with_reducible (first|apply oC|apply oJ|exact oK|apply wA|apply wB|apply wC hX hC|apply wD hX hC|apply wE hX hC af|apply wF hX hC af|apply wG|apply wH|apply And.intro))|((with_reducible refine oD ?_ ?_);first|fail|kernel_rfl)|((with_reducible (first|apply oE|apply oF));(iterate 3 exact rfl);all_goals (intro h;first|(exact absurd h (by decide))|((try simp only [go_sem,simprocAttr,cR,hv,hi,aj,ak,bp,dM,kG] at h);(try with_reducible intro K hK);simp only [go_sem,simprocAttr,cR,hv,hi,aj,ak,bp,dM,kG])))|((first|((with_reducible apply wL);exact rfl)|((with_reducible apply wM);exact rfl));all_goals (try ((with_reducible intro h);first|(exact absurd h (by decide))|(try simp only [go_sem,simprocAttr,cR,hv,hi,aj,ak,bp,dM,kG] at h))))|omega|((first|first|refine aa hX hC hP (aQ g hl) rfl rfl rfl (by simp only [go_sem,simprocAttr,cR,hv,hi,aj,ak,bp,dM,kG]) rfl ?_|refine aa hX hC hP (cj p.ord g.n ho) rfl rfl rfl (by simp only [go_sem,simprocAttr,cR,hv,hi,aj,ak,bp,dM,kG]) rfl ?_);try simp only [go_sem,simprocAttr,cR,hv,hi,aj,ak,bp,dM,kG])|(intro h))
    refine ⟨k+1,⟨by omega, ?_, ?_⟩, ?_,by omega⟩
    ·rw [vH, ← List.append_assoc,List.nodup_append]
     exact ⟨yV,by simp,fun a ha b hb h=>h3 (by rw [List.mem_singleton] at hb;rw [← hb, ← h];exact ha)⟩
    ·intro j hj
     rw [vH,List.mem_append,List.mem_singleton] at hj
     rcases hj with hj|rfl
     ·exact Fk j hj
     ·exact nk.2 ⟨⟨by omega,by omega⟩,by rw [Int.toNat_natCast];exact h2⟩
    ·rw [← ck]
     refine Le.of ?_ ?_<;>simp [go_sem,simprocAttr,cR,hv,hi,aj,ak,bp,dM,kG,rI]
  ·have cR:decide ((k:Int)<(l.length:Int))=false:=decide_eq_false (by omega)
   obtain rfl:k=l.length:=by omega
   rw [List.take_length] at yV Fk
   repeat' (first|fail|((first|((with_reducible (first|apply oA|apply oB));exact rfl;intro K hK)|(refine hK _ ?_;clear hK K)|((with_reducible (first|apply oG|apply oH));iterate 3 exact rfl)|((with_reducible apply oI);(iterate 2 exact rfl);intro K hK)|(with_reducible (first|apply wI|apply wJ|apply wK)));try simp only [go_sem,simprocAttr,cR,hv])|fail|(with_reducible (first|apply oC|apply oJ|exact oK|apply wA|apply wB|apply wC hX hC|apply wD hX hC|apply wE hX hC af|apply wF hX hC af|apply wG|apply wH|apply And.intro))|((with_reducible refine oD ?_ ?_);first|fail|kernel_rfl)|((with_reducible (first|apply oE|apply oF));(iterate 3 exact rfl);all_goals (intro h;first|(exact absurd h (by decide))|((try simp only [go_sem,simprocAttr,cR,hv] at h);(try with_reducible intro K hK);simp only [go_sem,simprocAttr,cR,hv])))|((first|((with_reducible apply wL);exact rfl)|((with_reducible apply wM);exact rfl));all_goals (try ((with_reducible intro h);first|(exact absurd h (by decide))|(try simp only [go_sem,simprocAttr,cR,hv] at h))))|omega|((first|first|refine aa hX hC hP (aQ g hl) rfl rfl rfl (by simp only [go_sem,simprocAttr,cR,hv]) rfl ?_|refine aa hX hC hP (cj p.ord g.n ho) rfl rfl rfl (by simp only [go_sem,simprocAttr,cR,hv]) rfl ?_);try simp only [go_sem,simprocAttr,cR,hv])|(intro h))
   refine ⟨x+1,⟨by omega,by rw [hnext];exact yV,A9 Fk⟩, ?_,by omega⟩
   rw [hnext]
   refine Le.of ?_ ?_<;>simp [go_sem,simprocAttr,cR,hv]
 have hb:decide ((x:Int)<(p.outs.length:Int))=false:=decide_eq_false (by omega)
 obtain rfl:x=p.outs.length:=by omega
 rw [List.take_length] at cl
 rw [List.take_length]
 have dM:=vX (m:=g.es.length) (fl:=p.outs.flatten)
 repeat' (first|fail|((first|((with_reducible (first|apply oA|apply oB));exact rfl;intro K hK)|(refine hK _ ?_;clear hK K)|((with_reducible (first|apply oG|apply oH));iterate 3 exact rfl)|((with_reducible apply oI);(iterate 2 exact rfl);intro K hK)|(with_reducible (first|apply wI|apply wJ|apply wK)));try simp only [go_sem,simprocAttr,hb])|fail|(with_reducible (first|apply oC|apply oJ|exact oK|apply wA|apply wB|apply wC hX hC|apply wD hX hC|apply wE hX hC af|apply wF hX hC af|apply wG|apply wH|apply And.intro))|((with_reducible refine oD ?_ ?_);first|fail|kernel_rfl)|((with_reducible (first|apply oE|apply oF));(iterate 3 exact rfl);all_goals (intro h;first|(exact absurd h (by decide))|((try simp only [go_sem,simprocAttr,hb] at h);(try with_reducible intro K hK);simp only [go_sem,simprocAttr,hb])))|((first|((with_reducible apply wL);exact rfl)|((with_reducible apply wM);exact rfl));all_goals (try ((with_reducible intro h);first|(exact absurd h (by decide))|(try simp only [go_sem,simprocAttr,hb] at h))))|omega|((first|first|refine aa hX hC hP (aQ g hl) rfl rfl rfl (by simp only [go_sem,simprocAttr,hb]) rfl ?_|refine aa hX hC hP (cj p.ord g.n ho) rfl rfl rfl (by simp only [go_sem,simprocAttr,hb]) rfl ?_);try simp only [go_sem,simprocAttr,hb])|(intro h))
 clear hb
 refine an (fun k:Nat=>k≤g.es.length∧∀i:Nat,i<k→(i:Int)∈p.outs.flatten) (fun k=>⟨[(5, .ref 32),(9,eN k)], [(32, .own 3 1 ((mo g.es.length p.outs.flatten).map rI))]⟩) (fun k=>g.es.length - k) 0 (by simp) ?_ ?_
 ·refine Le.of ?_ ?_<;>simp [go_sem,simprocAttr]
 rintro k ⟨hk,Fk⟩
 rcases Nat.lt_or_ge k g.es.length with cm|Ea
 ·have cR:decide ((k:Int)<(g.es.length:Int))=true:=decide_eq_true (by omega)
  have kG:=ym (fl:=p.outs.flatten) cm
  by_cases h3:(k:Int)∈p.outs.flatten
  ·rw [if_pos h3] at kG
   repeat' (first|fail|((first|((with_reducible (first|apply oA|apply oB));exact rfl;intro K hK)|(refine hK _ ?_;clear hK K)|((with_reducible (first|apply oG|apply oH));iterate 3 exact rfl)|((with_reducible apply oI);(iterate 2 exact rfl);intro K hK)|(with_reducible (first|apply wI|apply wJ|apply wK)));try simp only [go_sem,simprocAttr,cR,dM,kG])|fail|(with_reducible (first|apply oC|apply oJ|exact oK|apply wA|apply wB|apply wC hX hC|apply wD hX hC|apply wE hX hC af|apply wF hX hC af|apply wG|apply wH|apply And.intro))|((with_reducible refine oD ?_ ?_);first|fail|kernel_rfl)|((with_reducible (first|apply oE|apply oF));(iterate 3 exact rfl);all_goals (intro h;first|(exact absurd h (by decide))|((try simp only [go_sem,simprocAttr,cR,dM,kG] at h);(try with_reducible intro K hK);simp only [go_sem,simprocAttr,cR,dM,kG])))|((first|((with_reducible apply wL);exact rfl)|((with_reducible apply wM);exact rfl));all_goals (try ((with_reducible intro h);first|(exact absurd h (by decide))|(try simp only [go_sem,simprocAttr,cR,dM,kG] at h))))|omega|((first|first|refine aa hX hC hP (aQ g hl) rfl rfl rfl (by simp only [go_sem,simprocAttr,cR,dM,kG]) rfl ?_|refine aa hX hC hP (cj p.ord g.n ho) rfl rfl rfl (by simp only [go_sem,simprocAttr,cR,dM,kG]) rfl ?_);try simp only [go_sem,simprocAttr,cR,dM,kG])|(intro h))
   refine ⟨k+1,⟨by omega,fun i hi=> ?_⟩, ?_,by omega⟩
   ·by_cases e:i=k
    ·subst e;exact h3
    ·exact Fk i (by omega)
   ·(refine Le.of ?_ ?_<;>simp [go_sem,simprocAttr,cR,dM,kG])
  ·rw [if_neg h3] at kG
   have hres:res=false:=by
    rw [← Bool.not_eq_true,hr]
    rintro ⟨_,_,_,_,h5⟩
    exact h3 (h5 k cm)
   subst hres
   repeat' (first|fail|((first|((with_reducible (first|apply oA|apply oB));exact rfl;intro K hK)|(refine hK _ ?_;clear hK K)|((with_reducible (first|apply oG|apply oH));iterate 3 exact rfl)|((with_reducible apply oI);(iterate 2 exact rfl);intro K hK)|(with_reducible (first|apply wI|apply wJ|apply wK)));try simp only [go_sem,simprocAttr,cR,dM,kG])|fail|(with_reducible (first|apply oC|apply oJ|exact oK|apply wA|apply wB|apply wC hX hC|apply wD hX hC|apply wE hX hC af|apply wF hX hC af|apply wG|apply wH|apply And.intro))|((with_reducible refine oD ?_ ?_);first|fail|kernel_rfl)|((with_reducible (first|apply oE|apply oF));(iterate 3 exact rfl);all_goals (intro h;first|(exact absurd h (by decide))|((try simp only [go_sem,simprocAttr,cR,dM,kG] at h);(try with_reducible intro K hK);simp only [go_sem,simprocAttr,cR,dM,kG])))|((first|((with_reducible apply wL);exact rfl)|((with_reducible apply wM);exact rfl));all_goals (try ((with_reducible intro h);first|(exact absurd h (by decide))|(try simp only [go_sem,simprocAttr,cR,dM,kG] at h))))|omega|((first|first|refine aa hX hC hP (aQ g hl) rfl rfl rfl (by simp only [go_sem,simprocAttr,cR,dM,kG]) rfl ?_|refine aa hX hC hP (cj p.ord g.n ho) rfl rfl rfl (by simp only [go_sem,simprocAttr,cR,dM,kG]) rfl ?_);try simp only [go_sem,simprocAttr,cR,dM,kG])|(intro h))
 ·have cR:decide ((k:Int)<(g.es.length:Int))=false:=decide_eq_false (by omega)
  obtain rfl:k=g.es.length:=by omega
  have hres:res=true:=hr.2 ⟨mH,uG,um,cl,Fk⟩
  subst hres
  repeat' (first|fail|((first|((with_reducible (first|apply oA|apply oB));exact rfl;intro K hK)|(refine hK _ ?_;clear hK K)|((with_reducible (first|apply oG|apply oH));iterate 3 exact rfl)|((with_reducible apply oI);(iterate 2 exact rfl);intro K hK)|(with_reducible (first|apply wI|apply wJ|apply wK)));try simp only [go_sem,simprocAttr,cR,dM])|fail|(with_reducible (first|apply oC|apply oJ|exact oK|apply wA|apply wB|apply wC hX hC|apply wD hX hC|apply wE hX hC af|apply wF hX hC af|apply wG|apply wH|apply And.intro))|((with_reducible refine oD ?_ ?_);first|fail|kernel_rfl)|((with_reducible (first|apply oE|apply oF));(iterate 3 exact rfl);all_goals (intro h;first|(exact absurd h (by decide))|((try simp only [go_sem,simprocAttr,cR,dM] at h);(try with_reducible intro K hK);simp only [go_sem,simprocAttr,cR,dM])))|((first|((with_reducible apply wL);exact rfl)|((with_reducible apply wM);exact rfl));all_goals (try ((with_reducible intro h);first|(exact absurd h (by decide))|(try simp only [go_sem,simprocAttr,cR,dM] at h))))|omega|((first|first|refine aa hX hC hP (aQ g hl) rfl rfl rfl (by simp only [go_sem,simprocAttr,cR,dM]) rfl ?_|refine aa hX hC hP (cj p.ord g.n ho) rfl rfl rfl (by simp only [go_sem,simprocAttr,cR,dM]) rfl ?_);try simp only [go_sem,simprocAttr,cR,dM])|(intro h))
end Go.Ab
end
section
namespace Go.Ab
open Go.Proofs
attribute [local congr] ACall.congr
set_option maxRecDepth 10000
set_option maxHeartbeats 8000000
def bK (b:Bool) (g:Gr) (p:Pl):(List (List It) × List It) × Int × Int:=
 if b=false then (([], []),(1,0)) else
 match iA g p g.n.toNat with
 |some i=>(([], []),(3,(i:Int)))
 |none=>((dR g p g.n.toNat,(fK g p g.n.toNat).row),(0,0))
theorem B0 {n:Nat} :List.replicate n [D.sl 3 []]=vT (List.replicate n []):=by simp [vT,sT]
theorem B3 {ls:List (List It)} {k:Nat} {l:List It} :(vT ls).set k [sT l]=vT (ls.set k l):=by simp [vT,List.map_set]
theorem sP {g:Gr} {p:Pl} {k:Nat} :dR g p (k+1)=(dR g p k).set (au p k).toNat (dz g p k):=rfl
theorem vY (g:Gr) (hl:g.es.length≤9223372036854775807) (p:Pl) (hp:nj p) (b:Bool) (hr:b=true↔(b8 g).1=0∧bu g p):
 Spec Tryz.prog 88 (Args [eG g,ePl p]) [] (.tup [.d (.sl 1 (vT (bK b g p).1.1)), .d (sT (bK b g p).1.2),eN (bK b g p).2.1,eN (bK b g p).2.2]) []:=by
 have hO:=BZ g hl p hp b hr
 cases b with
 |false=>
  have hR:bK false g p=(([], []),(1,0)):=rfl
  rw [hR]
  (refine Spec.intro (C:=T.cfg [] []) (rs:= [.t 4, .t 5, .t 6, .t 7]) (T.aq _ _) Tryz.func88 rfl rfl Tryz.ntmps88 Tryz.results88 (by simp [AObj.isNest]) (by simp [AObj.isNest]) (by kernel_rfl) ?_;intro X hX hP hC aN aO vals hA;refine ⟨_,by simp,hA, ?_⟩;have af:X.P.follows .mixedOrders=true:=(by rw [hP];exact T.mixed);clear aN aO)
  repeat' (first|fail|((first|((with_reducible (first|apply oA|apply oB));exact rfl;intro K hK)|(refine hK _ ?_;clear hK K)|((with_reducible (first|apply oG|apply oH));iterate 3 exact rfl)|((with_reducible apply oI);(iterate 2 exact rfl);intro K hK)|(with_reducible (first|apply wI|apply wJ|apply wK)));try simp only [go_sem,simprocAttr,vT,List.map_nil])|fail|(with_reducible (first|apply oC|apply oJ|exact oK|apply wA|apply wB|apply wC hX hC|apply wD hX hC|apply wE hX hC af|apply wF hX hC af|apply wG|apply wH|apply And.intro))|((with_reducible refine oD ?_ ?_);first|fail|kernel_rfl)|((with_reducible (first|apply oE|apply oF));(iterate 3 exact rfl);all_goals (intro h;first|(exact absurd h (by decide))|((try simp only [go_sem,simprocAttr,vT,List.map_nil] at h);(try with_reducible intro K hK);simp only [go_sem,simprocAttr,vT,List.map_nil])))|((first|((with_reducible apply wL);exact rfl)|((with_reducible apply wM);exact rfl));all_goals (try ((with_reducible intro h);first|(exact absurd h (by decide))|(try simp only [go_sem,simprocAttr,vT,List.map_nil] at h))))|omega|((first|first|refine aa hX hC hP (hO) rfl rfl rfl (by simp only [go_sem,simprocAttr,vT,List.map_nil]) rfl ?_);try simp only [go_sem,simprocAttr,vT,List.map_nil])|(intro h))
 |true=>
 obtain ⟨hc,zN⟩:=hr.1 rfl
 have hm:=aD hc
 have hn:=aY hm
 have hle:=bZ zN
 have hR:bK true g p=match iA g p g.n.toNat with
  |some i=>(([], []),(3,(i:Int)))
  |none=>((dR g p g.n.toNat,(fK g p g.n.toNat).row),(0,0)):=rfl
 generalize bK true g p=R at hR
 (refine Spec.intro (C:=T.cfg [] []) (rs:= [.t 4, .t 5, .t 6, .t 7]) (T.aq _ _) Tryz.func88 rfl rfl Tryz.ntmps88 Tryz.results88 (by simp [AObj.isNest]) (by simp [AObj.isNest]) (by kernel_rfl) ?_;intro X hX hP hC aN aO vals hA;refine ⟨_,by simp,hA, ?_⟩;have af:X.P.follows .mixedOrders=true:=(by rw [hP];exact T.mixed);clear aN aO)
 repeat' (first|fail|((first|((with_reducible (first|apply oA|apply oB));exact rfl;intro K hK)|(refine hK _ ?_;clear hK K)|((with_reducible (first|apply oG|apply oH));iterate 3 exact rfl)|((with_reducible apply oI);(iterate 2 exact rfl);intro K hK)|(with_reducible (first|apply wI|apply wJ|apply wK)));try simp only [go_sem,simprocAttr])|(show dr _ (.seq (.region 4 _ _) _) _ _;(refine mS 20 2 3 rfl rfl rfl ?_;simp only [LA.app,ASt.put,ASt.kill,putM,rml,List.set_cons_zero,List.set_cons_succ,go_sem,simprocAttr]);(refine mS 20 3 1 rfl rfl rfl ?_;simp only [LA.app,ASt.put,ASt.kill,putM,rml,List.set_cons_zero,List.set_cons_succ,go_sem,simprocAttr]))|(with_reducible (first|apply oC|apply oJ|exact oK|apply wA|apply wB|apply wC hX hC|apply wD hX hC|apply wE hX hC af|apply wF hX hC af|apply wG|apply wH|apply And.intro))|((with_reducible refine oD ?_ ?_);first|fail|kernel_rfl)|((with_reducible (first|apply oE|apply oF));(iterate 3 exact rfl);all_goals (intro h;first|(exact absurd h (by decide))|((try simp only [go_sem,simprocAttr] at h);(try with_reducible intro K hK);simp only [go_sem,simprocAttr])))|((first|((with_reducible apply wL);exact rfl)|((with_reducible apply wM);exact rfl));all_goals (try ((with_reducible intro h);first|(exact absurd h (by decide))|(try simp only [go_sem,simprocAttr] at h))))|omega|((first|first|refine aa hX hC hP (hO) rfl rfl rfl (by simp only [go_sem,simprocAttr]) rfl ?_);try simp only [go_sem,simprocAttr])|(intro h))
 rw [B0]
 refine an (fun k:Nat=>k≤g.n.toNat∧∀j,j<k→vQ g p j=true) (fun k=>⟨[(2, .ptr 2 0),(3, .ptr 3 0),(8, .ptr 20 0),(9, .ref 23),(10,eN k)], [(23, .own 80 1 (vT (dR g p k))),(20, .box (ej g (fK g p k))),(3, .box [.d (sI p.ord), .d (.sl 1 (vI p.outs))]),(2, .box [eN g.n, .d (sE g.es)])]⟩) (fun k=>g.n.toNat - k) 0 (by simp) ?_ ?_
 ·refine Le.of ?_ ?_<;>simp [go_sem,simprocAttr,ej,fK,dR]
 rintro k ⟨hk,hok⟩
 obtain ⟨hi,_,hrl⟩:=cO hm zN hk hok
 have hel:=kE (g:=g) (p:=p) (k:=k)
 rcases Nat.lt_or_ge k g.n.toNat with hlt|hge
 ·have hb:decide ((k:Int)<(p.ord.length:Int))=true:=decide_eq_true (by omega)
  have CC:=aK zN hlt
  have eu:=sP (g:=g) (p:=p) (k:=k)
  have zO:fK g p (k+1)=(az g (fK g p k) (au p k) (bD p (au p k))).2:=rfl
  have um:dz g p k=(az g (fK g p k) (au p k) (bD p (au p k))).1.1:=rfl
  have hpk:=vR zN hlt
  have B4:=vS (g:=g) (p:=p) (k:=k)
  have hsk:vQ g p k=false→R=(([], []),(3,(k:Int))):=fun h=>by
   rw [hR,mh.2 ⟨hlt,h,hok⟩]
  have hmul:k*(g.es.length+1)≤64*129:=Nat.mul_le_mul (by omega) (by omega)
  have jM:=jS zN CC.1 CC.2
  have fQ:p.ord.getD k 0=au p k:=rfl
  have B5:(fK g p k).pl.length≤64:=by
   rcases DQ hi.toeW with h|h
   ·omega
   ·rw [h];simp
  obtain ⟨x,hx⟩:∃x:Nat,au p k=x:=⟨(au p k).toNat,by omega⟩
  rw [hx] at fQ zO um hpk B4 CC jM eu
  have hxl:x<p.outs.length:=by have:=zN.1;omega
  have hv:=iz hxl
  have hla:bD p (x:Int)=p.outs.getD x []:=by unfold bD;rw [Int.toNat_natCast]
  rw [hla] at zO um hpk B4 jM
  rw [Int.toNat_natCast] at eu
  have j6:=vM g (by omega) (fK g p k) (x:Int) (p.outs.getD x []) (by omega) (by omega) (by omega)
  have ck:=B3 (ls:=dR g p k) (k:=x) (l:=dz g p k)
  generalize p.outs.getD x []=o at hv zO um hpk B4 j6
  rw [← eu] at ck
  generalize fK g p k=f at zO um hpk B4 j6 hi hrl B5
  cases uo:vQ g p k with
  |false=>
   rw [B4 uo] at j6
   have EM:=hsk uo
   subst EM
   repeat' (first|fail|((first|((with_reducible (first|apply oA|apply oB));exact rfl;intro K hK)|(refine hK _ ?_;clear hK K)|((with_reducible (first|apply oG|apply oH));iterate 3 exact rfl)|((with_reducible apply oI);(iterate 2 exact rfl);intro K hK)|(with_reducible (first|apply wI|apply wJ|apply wK)));try simp only [go_sem,simprocAttr,hb,fQ,hv,ej,vT,List.map_nil])|fail|(with_reducible (first|apply oC|apply oJ|exact oK|apply wA|apply wB|apply wC hX hC|apply wD hX hC|apply wE hX hC af|apply wF hX hC af|apply wG|apply wH|apply And.intro))|((with_reducible refine oD ?_ ?_);first|fail|kernel_rfl)|((with_reducible (first|apply oE|apply oF));(iterate 3 exact rfl);all_goals (intro h;first|(exact absurd h (by decide))|((try simp only [go_sem,simprocAttr,hb,fQ,hv,ej,vT,List.map_nil] at h);(try with_reducible intro K hK);simp only [go_sem,simprocAttr,hb,fQ,hv,ej,vT,List.map_nil])))|((first|((with_reducible apply wL);exact rfl)|((with_reducible apply wM);exact rfl));all_goals (try ((with_reducible intro h);first|(exact absurd h (by decide))|(try simp only [go_sem,simprocAttr,hb,fQ,hv,ej,vT,List.map_nil] at h))))|omega|((first|first|(refine aB hX hC hP [(10000,20)] (j6) rfl rfl rfl ?_ ?_ ?_ ?_ ?_ ?_ ?_ ?_ ?_ ?_ ?_ ?_ ?_ ?_;(focus (simp only [go_sem,simprocAttr,hb,fQ,hv,ej,vT,List.map_nil];done));(iterate 12 (focus (simp [go_sem,simprocAttr,hb,fQ,hv,ej,vT,List.map_nil];done)));simp only [go_sem,simprocAttr,hb,fQ,hv,ej,vT,List.map_nil,List.map_cons,List.map_nil]));try simp only [go_sem,simprocAttr,hb,fQ,hv,ej,vT,List.map_nil])|(intro h))
  |true=>
   rw [hpk uo] at j6
   have dS:(az g f (x:Int) o).1.2=0:=rfl
   rw [um] at ck
   generalize az g f (x:Int) o=su at zO um j6 dS ck
   have Ic:x<(dR g p k).length:=by omega
   generalize Na:dR g p k=E at ck Ic hel
   have hvl:(vT E).length=E.length:=vT_length
   have sQ:=fun d=>mX Ic d
   repeat' (first|fail|((first|((with_reducible (first|apply oA|apply oB));exact rfl;intro K hK)|(refine hK _ ?_;clear hK K)|((with_reducible (first|apply oG|apply oH));iterate 3 exact rfl)|((with_reducible apply oI);(iterate 2 exact rfl);intro K hK)|(with_reducible (first|apply wI|apply wJ|apply wK)));try simp only [go_sem,simprocAttr,hb,fQ,hv,ej,dS,ck,sQ,List.drop_succ_cons,List.drop_zero])|fail|(with_reducible (first|apply oC|apply oJ|exact oK|apply wA|apply wB|apply wC hX hC|apply wD hX hC|apply wE hX hC af|apply wF hX hC af|apply wG|apply wH|apply And.intro))|((with_reducible refine oD ?_ ?_);first|fail|kernel_rfl)|((with_reducible (first|apply oE|apply oF));(iterate 3 exact rfl);all_goals (intro h;first|(exact absurd h (by decide))|((try simp only [go_sem,simprocAttr,hb,fQ,hv,ej,dS,ck,sQ,List.drop_succ_cons,List.drop_zero] at h);(try with_reducible intro K hK);simp only [go_sem,simprocAttr,hb,fQ,hv,ej,dS,ck,sQ,List.drop_succ_cons,List.drop_zero])))|((first|((with_reducible apply wL);exact rfl)|((with_reducible apply wM);exact rfl));all_goals (try ((with_reducible intro h);first|(exact absurd h (by decide))|(try simp only [go_sem,simprocAttr,hb,fQ,hv,ej,dS,ck,sQ,List.drop_succ_cons,List.drop_zero] at h))))|omega|((first|first|(refine aB hX hC hP [(10000,20)] (j6) rfl rfl rfl ?_ ?_ ?_ ?_ ?_ ?_ ?_ ?_ ?_ ?_ ?_ ?_ ?_ ?_;(focus (simp only [go_sem,simprocAttr,hb,fQ,hv,ej,dS,ck,sQ,List.drop_succ_cons,List.drop_zero];done));(iterate 12 (focus (simp [go_sem,simprocAttr,hb,fQ,hv,ej,dS,ck,sQ,List.drop_succ_cons,List.drop_zero];done)));simp only [go_sem,simprocAttr,hb,fQ,hv,ej,dS,ck,sQ,List.drop_succ_cons,List.drop_zero,List.map_cons,List.map_nil]));try simp only [go_sem,simprocAttr,hb,fQ,hv,ej,dS,ck,sQ,List.drop_succ_cons,List.drop_zero])|(intro h))
   refine ⟨k+1,⟨by omega,fun j hj=> ?_⟩, ?_,by omega⟩
   ·by_cases e:j=k
    ·subst e;exact uo
    ·exact hok j (by omega)
   ·rw [zO]
    have B6:(vT E).set x [D.sl 3 (List.map rT su.1.1)]=vT (dR g p (k+1)):=ck
    refine Le.of ?_ ?_<;>simp [go_sem,simprocAttr,hb,fQ,hv,ej,dS,ck,sQ,List.drop_succ_cons,List.drop_zero,B6]
 have hb:decide ((k:Int)<(p.ord.length:Int))=false:=decide_eq_false (by omega)
 obtain rfl:k=g.n.toNat:=by omega
 rw [eD.2 hok] at hR
 subst hR
 repeat' (first|fail|((first|((with_reducible (first|apply oA|apply oB));exact rfl;intro K hK)|(refine hK _ ?_;clear hK K)|((with_reducible (first|apply oG|apply oH));iterate 3 exact rfl)|((with_reducible apply oI);(iterate 2 exact rfl);intro K hK)|(with_reducible (first|apply wI|apply wJ|apply wK)));try simp only [go_sem,simprocAttr,hb,ej])|fail|(with_reducible (first|apply oC|apply oJ|exact oK|apply wA|apply wB|apply wC hX hC|apply wD hX hC|apply wE hX hC af|apply wF hX hC af|apply wG|apply wH|apply And.intro))|((with_reducible refine oD ?_ ?_);first|fail|kernel_rfl)|((with_reducible (first|apply oE|apply oF));(iterate 3 exact rfl);all_goals (intro h;first|(exact absurd h (by decide))|((try simp only [go_sem,simprocAttr,hb,ej] at h);(try with_reducible intro K hK);simp only [go_sem,simprocAttr,hb,ej])))|((first|((with_reducible apply wL);exact rfl)|((with_reducible apply wM);exact rfl));all_goals (try ((with_reducible intro h);first|(exact absurd h (by decide))|(try simp only [go_sem,simprocAttr,hb,ej] at h))))|omega|((first|fail);try simp only [go_sem,simprocAttr,hb,ej])|(intro h))
end Go.Ab
end
section
namespace Go.Ab
open Go.Proofs
attribute [local congr] ACall.congr
set_option maxRecDepth 10000
set_option maxHeartbeats 8000000
theorem lH (g:Gr) (hl:g.es.length≤1000) (p:Pl) (hp:nj p) (b:Bool) (hr:b=true↔(b8 g).1=0∧bu g p):
 Spec Tryz.prog 46 (Args [eG g,ePl p]) [] (.tup [.d (.sl 1 (vT (bK b g p).1.1)), .d (sT (bK b g p).1.2),eF ((bK b g p).2.1,(bK b g p).2.2, [])]) []:=by
 by_cases hc:(b8 g).1=0
 rotate_left
 ·obtain rfl:b=false:=by
   rw [← Bool.not_eq_true,hr]
   exact fun h=>hc h.1
  have hR:bK false g p=(([], []),(1,0)):=rfl
  rw [hR]
  (refine Spec.intro (C:=T.cfg [] []) (rs:= [.t 4, .t 5, .c 6 82]) (T.aq _ _) Tryz.func46 rfl rfl Tryz.ntmps46 Tryz.results46 (by simp [AObj.isNest]) (by simp [AObj.isNest]) (by kernel_rfl) ?_;intro X hX hP hC aN aO vals hA;refine ⟨_,by simp,hA, ?_⟩;have af:X.P.follows .mixedOrders=true:=(by rw [hP];exact T.mixed);clear aN aO)
  repeat' (first|fail|((first|((with_reducible (first|apply oA|apply oB));exact rfl;intro K hK)|(refine hK _ ?_;clear hK K)|((with_reducible (first|apply oG|apply oH));iterate 3 exact rfl)|((with_reducible apply oI);(iterate 2 exact rfl);intro K hK)|(with_reducible (first|apply wI|apply wJ|apply wK)));try simp only [go_sem,simprocAttr,vT,List.map_nil])|fail|(with_reducible (first|apply oC|apply oJ|exact oK|apply wA|apply wB|apply wC hX hC|apply wD hX hC|apply wE hX hC af|apply wF hX hC af|apply wG|apply wH|apply And.intro))|((with_reducible refine oD ?_ ?_);first|fail|kernel_rfl)|((with_reducible (first|apply oE|apply oF));(iterate 3 exact rfl);all_goals (intro h;first|(exact absurd h (by decide))|((try simp only [go_sem,simprocAttr,vT,List.map_nil] at h);(try with_reducible intro K hK);simp only [go_sem,simprocAttr,vT,List.map_nil])))|((first|((with_reducible apply wL);exact rfl)|((with_reducible apply wM);exact rfl));all_goals (try ((with_reducible intro h);first|(exact absurd h (by decide))|(try simp only [go_sem,simprocAttr,vT,List.map_nil] at h))))|omega|((first|first|refine aa hX hC hP (zx g hl hc) rfl rfl rfl (by simp only [go_sem,simprocAttr,vT,List.map_nil]) rfl ?_);try simp only [go_sem,simprocAttr,vT,List.map_nil])|(intro h))
 have hm:=aD hc
 have hn:=aY hm
 have hr:b=true↔bu g p:=by rw [hr];exact ⟨fun h=>h.2,fun h=>⟨hc,h⟩⟩
 have hO:=BU g hm p hp b hr
 cases b with
 |false=>
  have hR:bK false g p=(([], []),(1,0)):=rfl
  rw [hR]
  (refine Spec.intro (C:=T.cfg [] []) (rs:= [.t 4, .t 5, .c 6 82]) (T.aq _ _) Tryz.func46 rfl rfl Tryz.ntmps46 Tryz.results46 (by simp [AObj.isNest]) (by simp [AObj.isNest]) (by kernel_rfl) ?_;intro X hX hP hC aN aO vals hA;refine ⟨_,by simp,hA, ?_⟩;have af:X.P.follows .mixedOrders=true:=(by rw [hP];exact T.mixed);clear aN aO)
  repeat' (first|fail|((first|((with_reducible (first|apply oA|apply oB));exact rfl;intro K hK)|(refine hK _ ?_;clear hK K)|((with_reducible (first|apply oG|apply oH));iterate 3 exact rfl)|((with_reducible apply oI);(iterate 2 exact rfl);intro K hK)|(with_reducible (first|apply wI|apply wJ|apply wK)));try simp only [go_sem,simprocAttr,vT,List.map_nil])|fail|(with_reducible (first|apply oC|apply oJ|exact oK|apply wA|apply wB|apply wC hX hC|apply wD hX hC|apply wE hX hC af|apply wF hX hC af|apply wG|apply wH|apply And.intro))|((with_reducible refine oD ?_ ?_);first|fail|kernel_rfl)|((with_reducible (first|apply oE|apply oF));(iterate 3 exact rfl);all_goals (intro h;first|(exact absurd h (by decide))|((try simp only [go_sem,simprocAttr,vT,List.map_nil] at h);(try with_reducible intro K hK);simp only [go_sem,simprocAttr,vT,List.map_nil])))|((first|((with_reducible apply wL);exact rfl)|((with_reducible apply wM);exact rfl));all_goals (try ((with_reducible intro h);first|(exact absurd h (by decide))|(try simp only [go_sem,simprocAttr,vT,List.map_nil] at h))))|omega|((first|first|(refine qw hX hC hP [(10000,13)] (sH g hl hc hm) rfl rfl rfl ?_ ?_ ?_ ?_ ?_ ?_ ?_ ?_ ?_ ?_ ?_ ?_ ?_ ?_;(focus (simp only [go_sem,simprocAttr,vT,List.map_nil];done));(iterate 12 (focus (simp [go_sem,simprocAttr,vT,List.map_nil];done)));simp only [go_sem,simprocAttr,vT,List.map_nil,List.map_cons,List.map_nil])|refine aa hX hC hP (fR g hm) rfl rfl rfl (by simp only [go_sem,simprocAttr,vT,List.map_nil]) rfl ?_|refine aa hX hC hP (hO) rfl rfl rfl (by simp only [go_sem,simprocAttr,vT,List.map_nil]) rfl ?_);try simp only [go_sem,simprocAttr,vT,List.map_nil])|(intro h))
 |true=>
 have zN:=hr.1 rfl
 have hle:=bZ zN
 have hR:bK true g p=match iA g p g.n.toNat with
  |some i=>(([], []),(3,(i:Int)))
  |none=>((dR g p g.n.toNat,(fK g p g.n.toNat).row),(0,0)):=rfl
 generalize bK true g p=R at hR
 (refine Spec.intro (C:=T.cfg [] []) (rs:= [.t 4, .t 5, .c 6 82]) (T.aq _ _) Tryz.func46 rfl rfl Tryz.ntmps46 Tryz.results46 (by simp [AObj.isNest]) (by simp [AObj.isNest]) (by kernel_rfl) ?_;intro X hX hP hC aN aO vals hA;refine ⟨_,by simp,hA, ?_⟩;have af:X.P.follows .mixedOrders=true:=(by rw [hP];exact T.mixed);clear aN aO)
 repeat' (first|fail|((first|((with_reducible (first|apply oA|apply oB));exact rfl;intro K hK)|(refine hK _ ?_;clear hK K)|((with_reducible (first|apply oG|apply oH));iterate 3 exact rfl)|((with_reducible apply oI);(iterate 2 exact rfl);intro K hK)|(with_reducible (first|apply wI|apply wJ|apply wK)));try simp only [go_sem,simprocAttr])|(show dr _ (.seq (.region 5 _ _) _) _ _;(refine mS 13 0 3 rfl rfl rfl ?_;simp only [LA.app,ASt.put,ASt.kill,putM,rml,List.set_cons_zero,List.set_cons_succ,go_sem,simprocAttr]);(refine vp hX 13 2 100 (.tip 3 1 []) rfl rfl rfl (by simp only [go_sem,simprocAttr]) (by decide) (by simp [go_sem,simprocAttr]) ⟨3,1,by decide, .inr rfl⟩ ?_;simp only [LA.app,ASt.put,ASt.kill,subT,rmk,putM,rml,kl,AV.sub,AV.subs,AObj.sub,List.set_cons_zero,List.set_cons_succ,go_sem,simprocAttr]))|(with_reducible (first|apply oC|apply oJ|exact oK|apply wA|apply wB|apply wC hX hC|apply wD hX hC|apply wE hX hC af|apply wF hX hC af|apply wG|apply wH|apply And.intro))|((with_reducible refine oD ?_ ?_);first|fail|kernel_rfl)|((with_reducible (first|apply oE|apply oF));(iterate 3 exact rfl);all_goals (intro h;first|(exact absurd h (by decide))|((try simp only [go_sem,simprocAttr] at h);(try with_reducible intro K hK);simp only [go_sem,simprocAttr])))|((first|((with_reducible apply wL);exact rfl)|((with_reducible apply wM);exact rfl));all_goals (try ((with_reducible intro h);first|(exact absurd h (by decide))|(try simp only [go_sem,simprocAttr] at h))))|omega|((first|first|(refine qw hX hC hP [(10000,13)] (sH g hl hc hm) rfl rfl rfl ?_ ?_ ?_ ?_ ?_ ?_ ?_ ?_ ?_ ?_ ?_ ?_ ?_ ?_;(focus (simp only [go_sem,simprocAttr];done));(iterate 12 (focus (simp [go_sem,simprocAttr];done)));simp only [go_sem,simprocAttr,List.map_cons,List.map_nil])|refine aa hX hC hP (fR g hm) rfl rfl rfl (by simp only [go_sem,simprocAttr]) rfl ?_|refine aa hX hC hP (hO) rfl rfl rfl (by simp only [go_sem,simprocAttr]) rfl ?_);try simp only [go_sem,simprocAttr])|(intro h))
 rw [B0]
 refine an (fun k:Nat=>k≤g.n.toNat∧∀j,j<k→vQ g p j=true) (fun k=>⟨[(3, .ptr 3 0),(4, .ref 28),(6, .ptr 6 0),(7, .ptr 13 0),(30, .d (sI p.ord)),(31,eN p.ord.length),(32,eN k)], [(28, .own 80 1 (vT (dR g p k))),(13, .box [.d (sT (fK g p k).row), .d (vw g), .ref 100]),(100, .tip 3 1 ((fK g p k).pl.map rI)),(6, .box [eN 0,eN 0, .nil 3]),(3, .box [.d (sI p.ord), .d (.sl 1 (vI p.outs))])]⟩) (fun k=>g.n.toNat - k) 0 (by simp) ?_ ?_
 ·refine Le.of ?_ ?_<;>simp [go_sem,simprocAttr,ej,fK,dR]
 rintro k ⟨hk,hok⟩
 obtain ⟨hi,_,hrl⟩:=cO hm zN hk hok
 have hel:=kE (g:=g) (p:=p) (k:=k)
 have hmul:k*(g.es.length+1)≤64*129:=Nat.mul_le_mul (by omega) (by omega)
 rcases Nat.lt_or_ge k g.n.toNat with hlt|hge
 ·have hb:decide ((k:Int)<(p.ord.length:Int))=true:=decide_eq_true (by omega)
  have CC:=aK zN hlt
  have eu:=sP (g:=g) (p:=p) (k:=k)
  have zO:fK g p (k+1)=(az g (fK g p k) (au p k) (bD p (au p k))).2:=rfl
  have um:dz g p k=(az g (fK g p k) (au p k) (bD p (au p k))).1.1:=rfl
  have hpk:=vR zN hlt
  have B4:=vS (g:=g) (p:=p) (k:=k)
  have hsk:vQ g p k=false→R=(([], []),(3,(k:Int))):=fun h=>by
   rw [hR,mh.2 ⟨hlt,h,hok⟩]
  have jM:=jS zN CC.1 CC.2
  have fQ:p.ord.getD k 0=au p k:=rfl
  have B5:(fK g p k).pl.length≤64:=by
   rcases DQ hi.toeW with h|h
   ·omega
   ·rw [h];simp
  obtain ⟨x,hx⟩:∃x:Nat,au p k=x:=⟨(au p k).toNat,by omega⟩
  rw [hx] at fQ zO um hpk B4 CC jM eu
  have hxl:x<p.outs.length:=by have:=zN.1;omega
  have hv:=iz hxl
  have hla:bD p (x:Int)=p.outs.getD x []:=by unfold bD;rw [Int.toNat_natCast]
  rw [hla] at zO um hpk B4 jM
  rw [Int.toNat_natCast] at eu
  have j6:=vW g hm (fK g p k) hi (x:Int) (p.outs.getD x []) (by omega) (by omega) (by omega)
  have ck:=B3 (ls:=dR g p k) (k:=x) (l:=dz g p k)
  generalize p.outs.getD x []=o at hv zO um hpk B4 j6
  rw [← eu] at ck
  generalize fK g p k=f at zO um hpk B4 j6 hi hrl B5
  have Ic:x<(dR g p k).length:=by omega
  have hvl:(vT (dR g p k)).length=(dR g p k).length:=vT_length
  cases uo:vQ g p k with
  |false=>
   rw [B4 uo] at j6
   simp only at j6
   have EM:=hsk uo
   subst EM
   repeat' (first|fail|((first|((with_reducible (first|apply oA|apply oB));exact rfl;intro K hK)|(refine hK _ ?_;clear hK K)|((with_reducible (first|apply oG|apply oH));iterate 3 exact rfl)|((with_reducible apply oI);(iterate 2 exact rfl);intro K hK)|(with_reducible (first|apply wI|apply wJ|apply wK)));try simp only [go_sem,simprocAttr,hb,fQ,hv,gZ,qO,List.map_nil])|fail|(with_reducible (first|apply oC|apply oJ|exact oK|apply wA|apply wB|apply wC hX hC|apply wD hX hC|apply wE hX hC af|apply wF hX hC af|apply wG|apply wH|apply And.intro))|((with_reducible refine oD ?_ ?_);first|fail|kernel_rfl)|((with_reducible (first|apply oE|apply oF));(iterate 3 exact rfl);all_goals (intro h;first|(exact absurd h (by decide))|((try simp only [go_sem,simprocAttr,hb,fQ,hv,gZ,qO,List.map_nil] at h);(try with_reducible intro K hK);simp only [go_sem,simprocAttr,hb,fQ,hv,gZ,qO,List.map_nil])))|((first|((with_reducible apply wL);exact rfl)|((with_reducible apply wM);exact rfl));all_goals (try ((with_reducible intro h);first|(exact absurd h (by decide))|(try simp only [go_sem,simprocAttr,hb,fQ,hv,gZ,qO,List.map_nil] at h))))|omega|((first|first|(refine aB hX hC hP [(10000,13),(10001,100),(10002,101)] (j6) rfl rfl rfl ?_ ?_ ?_ ?_ ?_ ?_ ?_ ?_ ?_ ?_ ?_ ?_ ?_ ?_;(focus (simp only [go_sem,simprocAttr,hb,fQ,hv,gZ,qO,List.map_nil];done));(iterate 12 (focus (simp [go_sem,simprocAttr,hb,fQ,hv,gZ,qO,List.map_nil];done)));simp only [go_sem,simprocAttr,hb,fQ,hv,gZ,qO,List.map_nil,List.map_cons,List.map_nil]));try simp only [go_sem,simprocAttr,hb,fQ,hv,gZ,qO,List.map_nil])|(intro h))
   all_goals rfl
  |true=>
   rw [hpk uo] at j6
   have dS:(az g f (x:Int) o).1.2=0:=rfl
   rw [um] at ck
   generalize az g f (x:Int) o=su at zO um j6 dS ck
   generalize Na:dR g p k=E at ck Ic hel hvl
   have sQ:=fun d=>mX Ic d
   repeat' (first|fail|((first|((with_reducible (first|apply oA|apply oB));exact rfl;intro K hK)|(refine hK _ ?_;clear hK K)|((with_reducible (first|apply oG|apply oH));iterate 3 exact rfl)|((with_reducible apply oI);(iterate 2 exact rfl);intro K hK)|(with_reducible (first|apply wI|apply wJ|apply wK)));try simp only [go_sem,simprocAttr,hb,fQ,hv,gZ,qO,dS,ck,sQ,List.drop_succ_cons,List.drop_zero])|(show dr _ (.region 11 _ _) _ _;(refine iu hX 13 2 101 100 rfl rfl rfl (by first|exact .inl rfl|exact .inr rfl) (by decide) (by decide) ?_;simp only [LA.app,ASt.put,ASt.kill,subT,rmk,putM,rml,kl,AV.sub,AV.subs,AObj.sub,List.set_cons_zero,List.set_cons_succ,go_sem,simprocAttr,hb,fQ,hv,gZ,qO,dS,ck,sQ,List.drop_succ_cons,List.drop_zero]))|(with_reducible (first|apply oC|apply oJ|exact oK|apply wA|apply wB|apply wC hX hC|apply wD hX hC|apply wE hX hC af|apply wF hX hC af|apply wG|apply wH|apply And.intro))|((with_reducible refine oD ?_ ?_);first|fail|kernel_rfl)|((with_reducible (first|apply oE|apply oF));(iterate 3 exact rfl);all_goals (intro h;first|(exact absurd h (by decide))|((try simp only [go_sem,simprocAttr,hb,fQ,hv,gZ,qO,dS,ck,sQ,List.drop_succ_cons,List.drop_zero] at h);(try with_reducible intro K hK);simp only [go_sem,simprocAttr,hb,fQ,hv,gZ,qO,dS,ck,sQ,List.drop_succ_cons,List.drop_zero])))|((first|((with_reducible apply wL);exact rfl)|((with_reducible apply wM);exact rfl));all_goals (try ((with_reducible intro h);first|(exact absurd h (by decide))|(try simp only [go_sem,simprocAttr,hb,fQ,hv,gZ,qO,dS,ck,sQ,List.drop_succ_cons,List.drop_zero] at h))))|omega|((first|first|(refine aB hX hC hP [(10000,13),(10001,100),(10002,101)] (j6) rfl rfl rfl ?_ ?_ ?_ ?_ ?_ ?_ ?_ ?_ ?_ ?_ ?_ ?_ ?_ ?_;(focus (simp only [go_sem,simprocAttr,hb,fQ,hv,gZ,qO,dS,ck,sQ,List.drop_succ_cons,List.drop_zero];done));(iterate 12 (focus (simp [go_sem,simprocAttr,hb,fQ,hv,gZ,qO,dS,ck,sQ,List.drop_succ_cons,List.drop_zero];done)));simp only [go_sem,simprocAttr,hb,fQ,hv,gZ,qO,dS,ck,sQ,List.drop_succ_cons,List.drop_zero,List.map_cons,List.map_nil]));try simp only [go_sem,simprocAttr,hb,fQ,hv,gZ,qO,dS,ck,sQ,List.drop_succ_cons,List.drop_zero])|(intro h))
   refine ⟨k+1,⟨by omega,fun j hj=> ?_⟩, ?_,by omega⟩
   ·by_cases e:j=k
    ·subst e;exact uo
    ·exact hok j (by omega)
   ·rw [zO]
    have B6:(vT E).set x [D.sl 3 (List.map rT su.1.1)]=vT (dR g p (k+1)):=ck
    refine Le.of ?_ ?_<;>simp [go_sem,simprocAttr,hb,fQ,hv,gZ,qO,dS,ck,sQ,List.drop_succ_cons,List.drop_zero,B6]
 have hb:decide ((k:Int)<(p.ord.length:Int))=false:=decide_eq_false (by omega)
 obtain rfl:k=g.n.toNat:=by omega
 rw [eD.2 hok] at hR
 subst hR
 repeat' (first|fail|((first|((with_reducible (first|apply oA|apply oB));exact rfl;intro K hK)|(refine hK _ ?_;clear hK K)|((with_reducible (first|apply oG|apply oH));iterate 3 exact rfl)|((with_reducible apply oI);(iterate 2 exact rfl);intro K hK)|(with_reducible (first|apply wI|apply wJ|apply wK)));try simp only [go_sem,simprocAttr,hb])|fail|(with_reducible (first|apply oC|apply oJ|exact oK|apply wA|apply wB|apply wC hX hC|apply wD hX hC|apply wE hX hC af|apply wF hX hC af|apply wG|apply wH|apply And.intro))|((with_reducible refine oD ?_ ?_);first|fail|kernel_rfl)|((with_reducible (first|apply oE|apply oF));(iterate 3 exact rfl);all_goals (intro h;first|(exact absurd h (by decide))|((try simp only [go_sem,simprocAttr,hb] at h);(try with_reducible intro K hK);simp only [go_sem,simprocAttr,hb])))|((first|((with_reducible apply wL);exact rfl)|((with_reducible apply wM);exact rfl));all_goals (try ((with_reducible intro h);first|(exact absurd h (by decide))|(try simp only [go_sem,simprocAttr,hb] at h))))|omega|((first|first|(refine ou hX hC hP 60 (zv [vw g,sI (fK g p g.n.toNat).pl] (fK g p g.n.toNat).row (by omega)) rfl rfl rfl ?_ ?_ (by first|exact ⟨_,_,_,rfl,BI⟩|exact ⟨_,_,_,rfl,BJ⟩|exact ⟨_,_,_,rfl,BK⟩) rfl (by decide) ?_;(iterate 2 (focus (simp only [go_sem,simprocAttr,hb];done)));simp only [go_sem,simprocAttr,hb]));try simp only [go_sem,simprocAttr,hb])|(intro h))
end Go.Ab
end
section
namespace Go.Ab
open Go.Proofs
attribute [local congr] ACall.congr
set_option maxRecDepth 10000
set_option maxHeartbeats 8000000
def N5 (n:Int) (es:List Edge) (ord:List Int) (O:List (List Int)):List (Nat × AObj):= [(10000, .box [eN n, .ref 10001, .ref 10002, .ref 10003]),(10001, .tip 58 2 (es.map rE)),(10002, .tip 3 1 (ord.map rI)),(10003, .own 25 1 (vI O))]
def N6 (n:Int) (es:List Edge) (ord:List Int) (O:List (List Int)):List (Nat × AObj):= [(10000, .box [eN n, .ref 10004, .ref 10002, .ref 10003]),(10004, .tip 58 2 (es.map rE)),(10002, .tip 3 1 (ord.map rI)),(10003, .own 25 1 (vI O))]
def Nb (x:Int) (items:List It):List Edge:=(loose items).map fun v=>(v,x)
end Go.Ab
end
section
namespace Go.Ab
open Go.Proofs
attribute [local congr] ACall.congr
set_option maxRecDepth 10000
set_option maxHeartbeats 16000000
def pz:Pl:=⟨[], []⟩
def Nc (b:Bool) (g:Gr) (p:Pl):Gr × Pl × Int:=
 if (bK b g p).2.1≠0 then (gz,pz,1) else if 64<(BT g p).n∨128<(BT g p).es.length then (gz,pz,10) else (BT g p,KJ g p,0)
theorem sR {b:Bool} {g:Gr} {p:Pl} (hr:b=true↔(b8 g).1=0∧bu g p) (h:(bK b g p).2.1=0):bR g p∧bK b g p=((dR g p g.n.toNat,kF g p),(0,0)):=by
 cases b with
 |false=>simp [bK] at h
 |true=>
  have hR:bK true g p=match iA g p g.n.toNat with
   |some i=>(([], []),(3,(i:Int)))
   |none=>((dR g p g.n.toNat,(fK g p g.n.toNat).row),(0,0)):=rfl
  cases hs:iA g p g.n.toNat with
  |some i=>rw [hR,hs] at h;simp at h
  |none=>
   obtain ⟨h1,h2⟩:=hr.1 rfl
   exact ⟨⟨h1,h2,eD.1 hs⟩,by rw [hR,hs];rfl⟩
end Go.Ab
end
section
namespace Go.Ab
open Go.Proofs
attribute [local congr] ACall.congr
set_option maxRecDepth 10000
set_option maxHeartbeats 16000000
def Nd (p:Pl) (x:Gr) (k:Nat):List (List Int):=(List.range k).map fun v=>if 0<(p.outs.getD v []).length then p.outs.getD v [] else bt x (v:Int)
theorem xA {g:Gr} {p:Pl} (hr:bR g p):∀t∈kF g p,t.1<0:=by
 obtain ⟨hc,h,hok⟩:=hr
 have hm:=aD hc
 have hn:=aY hm
 obtain ⟨hi,gh,_⟩:=cO hm h (k:=g.n.toNat) (Nat.le_refl _) hok
 intro t ht
 refine Decidable.byContradiction fun h0=> ?_
 rcases hi.it t ht with ⟨h1,_⟩|⟨h1,h2,_,h4⟩
 ·omega
 ·have LF:=(fH hm (k:=t.1.toNat) (by omega)).2
  rw [← h4] at LF
  refine hi.head t ht h1 (jt hi.toeW ?_ LF)
  rw [gh,List.length_take,bZ h];omega
end Go.Ab
end
section
namespace Go.Ab
open Go.Proofs
attribute [local congr] ACall.congr
set_option maxRecDepth 10000
set_option maxHeartbeats 8000000
def oV (g:Gr) (p:Pl):Bool:=decide (200<g.es.length)||decide (100<p.ord.length)||decide (100<p.outs.length)||p.outs.any fun l=>decide (200<l.length)
theorem uq {g:Gr} {p:Pl} (h:oV g p=false):g.es.length≤200∧p.ord.length≤100∧p.outs.length≤100∧∀l∈p.outs,l.length≤200:=by
 simp only [oV,Bool.or_eq_false_iff,decide_eq_false_iff_not,List.any_eq_false,decide_eq_true_eq] at h
 obtain ⟨⟨⟨h1,h2⟩,h3⟩,h4⟩:=h
 exact ⟨by omega,by omega,by omega,fun l hl=>by have:=h4 l hl;omega⟩
theorem kH {g:Gr} {p:Pl} (h:oV g p=false):nj p:=by
 obtain ⟨_,h1,h2,h3⟩:=uq h
 exact ⟨by omega,by omega,fun l hl=>by have:=h3 l hl;omega⟩
structure yo (p:Pl):Prop where
 ord:p.ord.length≤9223372036854775807
 outs:p.outs.length≤9223372036854775807
 each:∀l∈p.outs,l.length≤9223372036854775807
theorem ur (g:Gr) (p:Pl) (hl:g.es.length≤9223372036854775807) (hp:yo p):Spec Tryz.prog 19 (Args [eG g,ePl p]) [] (eB (oV g p)) []:=by
 have ho:=hp.ord
 have hu:=hp.outs
 (refine Spec.intro (C:=T.cfg [] []) (rs:= [.t 4]) (T.aq _ _) Tryz.func19 rfl rfl Tryz.ntmps19 Tryz.results19 (by simp [AObj.isNest]) (by simp [AObj.isNest]) (by kernel_rfl) ?_;intro X hX hP hC aN aO vals hA;refine ⟨_,by simp,hA, ?_⟩;have af:X.P.follows .mixedOrders=true:=(by rw [hP];exact T.mixed);clear aN aO)
 generalize hB:oV g p=B
 by_cases h1:200<g.es.length
 ·have aj:decide (200<(g.es.length:Int))=true:=decide_eq_true (by omega)
  have:B=true:=by rw [← hB,oV,decide_eq_true h1];rfl
  subst this
  repeat' (first|fail|((first|((with_reducible (first|apply oA|apply oB));exact rfl;intro K hK)|(refine hK _ ?_;clear hK K)|((with_reducible (first|apply oG|apply oH));iterate 3 exact rfl)|((with_reducible apply oI);(iterate 2 exact rfl);intro K hK)|(with_reducible (first|apply wI|apply wJ|apply wK)));try simp only [go_sem,simprocAttr,aj])|fail|(with_reducible (first|apply oC|apply oJ|exact oK|apply wA|apply wB|apply wC hX hC|apply wD hX hC|apply wE hX hC af|apply wF hX hC af|apply wG|apply wH|apply And.intro))|((with_reducible refine oD ?_ ?_);first|fail|kernel_rfl)|((with_reducible (first|apply oE|apply oF));(iterate 3 exact rfl);all_goals (intro h;first|(exact absurd h (by decide))|((try simp only [go_sem,simprocAttr,aj] at h);(try with_reducible intro K hK);simp only [go_sem,simprocAttr,aj])))|((first|((with_reducible apply wL);exact rfl)|((with_reducible apply wM);exact rfl));all_goals (try ((with_reducible intro h);first|(exact absurd h (by decide))|(try simp only [go_sem,simprocAttr,aj] at h))))|omega|((first|fail);try simp only [go_sem,simprocAttr,aj])|(intro h))
 have aj:decide (200<(g.es.length:Int))=false:=decide_eq_false (by omega)
 by_cases h2:100<p.ord.length
 ·have ak:decide (100<(p.ord.length:Int))=true:=decide_eq_true (by omega)
  have:B=true:=by rw [← hB,oV,decide_eq_true h2];simp
  subst this
  repeat' (first|fail|((first|((with_reducible (first|apply oA|apply oB));exact rfl;intro K hK)|(refine hK _ ?_;clear hK K)|((with_reducible (first|apply oG|apply oH));iterate 3 exact rfl)|((with_reducible apply oI);(iterate 2 exact rfl);intro K hK)|(with_reducible (first|apply wI|apply wJ|apply wK)));try simp only [go_sem,simprocAttr,aj,ak])|fail|(with_reducible (first|apply oC|apply oJ|exact oK|apply wA|apply wB|apply wC hX hC|apply wD hX hC|apply wE hX hC af|apply wF hX hC af|apply wG|apply wH|apply And.intro))|((with_reducible refine oD ?_ ?_);first|fail|kernel_rfl)|((with_reducible (first|apply oE|apply oF));(iterate 3 exact rfl);all_goals (intro h;first|(exact absurd h (by decide))|((try simp only [go_sem,simprocAttr,aj,ak] at h);(try with_reducible intro K hK);simp only [go_sem,simprocAttr,aj,ak])))|((first|((with_reducible apply wL);exact rfl)|((with_reducible apply wM);exact rfl));all_goals (try ((with_reducible intro h);first|(exact absurd h (by decide))|(try simp only [go_sem,simprocAttr,aj,ak] at h))))|omega|((first|fail);try simp only [go_sem,simprocAttr,aj,ak])|(intro h))
 have ak:decide (100<(p.ord.length:Int))=false:=decide_eq_false (by omega)
 by_cases h3:100<p.outs.length
 ·have bp:decide (100<(p.outs.length:Int))=true:=decide_eq_true (by omega)
  have:B=true:=by rw [← hB,oV,decide_eq_true h3];simp
  subst this
  repeat' (first|fail|((first|((with_reducible (first|apply oA|apply oB));exact rfl;intro K hK)|(refine hK _ ?_;clear hK K)|((with_reducible (first|apply oG|apply oH));iterate 3 exact rfl)|((with_reducible apply oI);(iterate 2 exact rfl);intro K hK)|(with_reducible (first|apply wI|apply wJ|apply wK)));try simp only [go_sem,simprocAttr,aj,ak,bp])|fail|(with_reducible (first|apply oC|apply oJ|exact oK|apply wA|apply wB|apply wC hX hC|apply wD hX hC|apply wE hX hC af|apply wF hX hC af|apply wG|apply wH|apply And.intro))|((with_reducible refine oD ?_ ?_);first|fail|kernel_rfl)|((with_reducible (first|apply oE|apply oF));(iterate 3 exact rfl);all_goals (intro h;first|(exact absurd h (by decide))|((try simp only [go_sem,simprocAttr,aj,ak,bp] at h);(try with_reducible intro K hK);simp only [go_sem,simprocAttr,aj,ak,bp])))|((first|((with_reducible apply wL);exact rfl)|((with_reducible apply wM);exact rfl));all_goals (try ((with_reducible intro h);first|(exact absurd h (by decide))|(try simp only [go_sem,simprocAttr,aj,ak,bp] at h))))|omega|((first|fail);try simp only [go_sem,simprocAttr,aj,ak,bp])|(intro h))
 have bp:decide (100<(p.outs.length:Int))=false:=decide_eq_false (by omega)
 have LG:B=p.outs.any fun l=>decide (200<l.length):=by rw [← hB,oV,decide_eq_false h1,decide_eq_false h2,decide_eq_false h3];simp
 clear hB
 repeat' (first|fail|((first|((with_reducible (first|apply oA|apply oB));exact rfl;intro K hK)|(refine hK _ ?_;clear hK K)|((with_reducible (first|apply oG|apply oH));iterate 3 exact rfl)|((with_reducible apply oI);(iterate 2 exact rfl);intro K hK)|(with_reducible (first|apply wI|apply wJ|apply wK)));try simp only [go_sem,simprocAttr,aj,ak,bp])|fail|(with_reducible (first|apply oC|apply oJ|exact oK|apply wA|apply wB|apply wC hX hC|apply wD hX hC|apply wE hX hC af|apply wF hX hC af|apply wG|apply wH|apply And.intro))|((with_reducible refine oD ?_ ?_);first|fail|kernel_rfl)|((with_reducible (first|apply oE|apply oF));(iterate 3 exact rfl);all_goals (intro h;first|(exact absurd h (by decide))|((try simp only [go_sem,simprocAttr,aj,ak,bp] at h);(try with_reducible intro K hK);simp only [go_sem,simprocAttr,aj,ak,bp])))|((first|((with_reducible apply wL);exact rfl)|((with_reducible apply wM);exact rfl));all_goals (try ((with_reducible intro h);first|(exact absurd h (by decide))|(try simp only [go_sem,simprocAttr,aj,ak,bp] at h))))|omega|((first|fail);try simp only [go_sem,simprocAttr,aj,ak,bp])|(intro h))
 refine an (fun k:Nat=>k≤p.outs.length∧∀j,j<k→(p.outs.getD j []).length≤200) (fun k=>⟨[(24, .d (.sl 1 (vI p.outs))),(25,eN p.outs.length),(26,eN k)], []⟩) (fun k=>p.outs.length - k) 0 (by simp) ?_ ?_
 ·(refine Le.of ?_ ?_<;>simp [go_sem,simprocAttr])
 rintro k ⟨hk,hg⟩
 rcases Nat.lt_or_ge k p.outs.length with cm|Ea
 ·have hb:decide ((k:Int)<(p.outs.length:Int))=true:=decide_eq_true (by omega)
  have hv:=iz cm
  have hm:=bf (d:= []) cm
  have jM:=hp.each _ hm
  by_cases h4:200<(p.outs.getD k []).length
  ·have hb4:decide (200<((p.outs.getD k []).length:Int))=true:=decide_eq_true (by omega)
   have:B=true:=by rw [LG,List.any_eq_true];exact ⟨_,hm,decide_eq_true h4⟩
   subst this
   repeat' (first|fail|((first|((with_reducible (first|apply oA|apply oB));exact rfl;intro K hK)|(refine hK _ ?_;clear hK K)|((with_reducible (first|apply oG|apply oH));iterate 3 exact rfl)|((with_reducible apply oI);(iterate 2 exact rfl);intro K hK)|(with_reducible (first|apply wI|apply wJ|apply wK)));try simp only [go_sem,simprocAttr,hb,hv,hb4])|fail|(with_reducible (first|apply oC|apply oJ|exact oK|apply wA|apply wB|apply wC hX hC|apply wD hX hC|apply wE hX hC af|apply wF hX hC af|apply wG|apply wH|apply And.intro))|((with_reducible refine oD ?_ ?_);first|fail|kernel_rfl)|((with_reducible (first|apply oE|apply oF));(iterate 3 exact rfl);all_goals (intro h;first|(exact absurd h (by decide))|((try simp only [go_sem,simprocAttr,hb,hv,hb4] at h);(try with_reducible intro K hK);simp only [go_sem,simprocAttr,hb,hv,hb4])))|((first|((with_reducible apply wL);exact rfl)|((with_reducible apply wM);exact rfl));all_goals (try ((with_reducible intro h);first|(exact absurd h (by decide))|(try simp only [go_sem,simprocAttr,hb,hv,hb4] at h))))|omega|((first|fail);try simp only [go_sem,simprocAttr,hb,hv,hb4])|(intro h))
  ·have hb4:decide (200<((p.outs.getD k []).length:Int))=false:=decide_eq_false (by omega)
   repeat' (first|fail|((first|((with_reducible (first|apply oA|apply oB));exact rfl;intro K hK)|(refine hK _ ?_;clear hK K)|((with_reducible (first|apply oG|apply oH));iterate 3 exact rfl)|((with_reducible apply oI);(iterate 2 exact rfl);intro K hK)|(with_reducible (first|apply wI|apply wJ|apply wK)));try simp only [go_sem,simprocAttr,hb,hv,hb4])|fail|(with_reducible (first|apply oC|apply oJ|exact oK|apply wA|apply wB|apply wC hX hC|apply wD hX hC|apply wE hX hC af|apply wF hX hC af|apply wG|apply wH|apply And.intro))|((with_reducible refine oD ?_ ?_);first|fail|kernel_rfl)|((with_reducible (first|apply oE|apply oF));(iterate 3 exact rfl);all_goals (intro h;first|(exact absurd h (by decide))|((try simp only [go_sem,simprocAttr,hb,hv,hb4] at h);(try with_reducible intro K hK);simp only [go_sem,simprocAttr,hb,hv,hb4])))|((first|((with_reducible apply wL);exact rfl)|((with_reducible apply wM);exact rfl));all_goals (try ((with_reducible intro h);first|(exact absurd h (by decide))|(try simp only [go_sem,simprocAttr,hb,hv,hb4] at h))))|omega|((first|fail);try simp only [go_sem,simprocAttr,hb,hv,hb4])|(intro h))
   refine ⟨k+1,⟨by omega,fun j hj=> ?_⟩, ?_,by omega⟩
   ·by_cases e:j=k
    ·subst e;omega
    ·exact hg j (by omega)
   ·(refine Le.of ?_ ?_<;>simp [go_sem,simprocAttr,hb,hv,hb4])
 ·have hb:decide ((k:Int)<(p.outs.length:Int))=false:=decide_eq_false (by omega)
  have:B=false:=by
   rw [LG,List.any_eq_false]
   intro l hl
   obtain ⟨j,hj,rfl⟩:=List.mem_iff_getElem.1 hl
   have:=hg j (by omega)
   rw [List.getD_eq_getElem?_getD,List.getElem?_eq_getElem hj,Option.getD_some] at this
   simp;omega
  subst this
  repeat' (first|fail|((first|((with_reducible (first|apply oA|apply oB));exact rfl;intro K hK)|(refine hK _ ?_;clear hK K)|((with_reducible (first|apply oG|apply oH));iterate 3 exact rfl)|((with_reducible apply oI);(iterate 2 exact rfl);intro K hK)|(with_reducible (first|apply wI|apply wJ|apply wK)));try simp only [go_sem,simprocAttr,hb])|fail|(with_reducible (first|apply oC|apply oJ|exact oK|apply wA|apply wB|apply wC hX hC|apply wD hX hC|apply wE hX hC af|apply wF hX hC af|apply wG|apply wH|apply And.intro))|((with_reducible refine oD ?_ ?_);first|fail|kernel_rfl)|((with_reducible (first|apply oE|apply oF));(iterate 3 exact rfl);all_goals (intro h;first|(exact absurd h (by decide))|((try simp only [go_sem,simprocAttr,hb] at h);(try with_reducible intro K hK);simp only [go_sem,simprocAttr,hb])))|((first|((with_reducible apply wL);exact rfl)|((with_reducible apply wM);exact rfl));all_goals (try ((with_reducible intro h);first|(exact absurd h (by decide))|(try simp only [go_sem,simprocAttr,hb] at h))))|omega|((first|fail);try simp only [go_sem,simprocAttr,hb])|(intro h))
def jZ (g:Gr):Bool:=decide ((b8 g).1=0)&&decide ((bG (·.1) g).length=1)
theorem qX (g:Gr) (hl:g.es.length≤1000):Spec Tryz.prog 51 (Args [eG g]) [] (eB (jZ g)) []:=by
 by_cases hc:(b8 g).1=0
 ·have hm:=aD hc
  have aj:decide ((b8 g).1=0)=true:=decide_eq_true hc
  have hI:jZ g=decide (((bG (·.1) g).length:Int)=1):=by
   unfold jZ;rw [aj,Bool.true_and,decide_eq_decide];omega
  rw [hI]
  generalize iG:bG (·.1) g=bl
  have hS:=qB g hm
  rw [iG] at hS
  (refine Spec.intro (C:=T.cfg [] []) (rs:= [.t 2]) (T.aq _ _) Tryz.func51 rfl rfl Tryz.ntmps51 Tryz.results51 (by simp [AObj.isNest]) (by simp [AObj.isNest]) (by kernel_rfl) ?_;intro X hX hP hC aN aO vals hA;refine ⟨_,by simp,hA, ?_⟩;have af:X.P.follows .mixedOrders=true:=(by rw [hP];exact T.mixed);clear aN aO)
  repeat' (first|fail|((first|((with_reducible (first|apply oA|apply oB));exact rfl;intro K hK)|(refine hK _ ?_;clear hK K)|((with_reducible (first|apply oG|apply oH));iterate 3 exact rfl)|((with_reducible apply oI);(iterate 2 exact rfl);intro K hK)|(with_reducible (first|apply wI|apply wJ|apply wK)));try simp only [go_sem,simprocAttr,aj])|fail|(with_reducible (first|apply oC|apply oJ|exact oK|apply wA|apply wB|apply wC hX hC|apply wD hX hC|apply wE hX hC af|apply wF hX hC af|apply wG|apply wH|apply And.intro))|((with_reducible refine oD ?_ ?_);first|fail|kernel_rfl)|((with_reducible (first|apply oE|apply oF));(iterate 3 exact rfl);all_goals (intro h;first|(exact absurd h (by decide))|((try simp only [go_sem,simprocAttr,aj] at h);(try with_reducible intro K hK);simp only [go_sem,simprocAttr,aj])))|((first|((with_reducible apply wL);exact rfl)|((with_reducible apply wM);exact rfl));all_goals (try ((with_reducible intro h);first|(exact absurd h (by decide))|(try simp only [go_sem,simprocAttr,aj] at h))))|omega|((first|first|refine aa hX hC hP (jK g hl) rfl rfl rfl (by simp only [go_sem,simprocAttr,aj]) rfl ?_|refine aa hX hC hP (fR g hm) rfl rfl rfl (by simp only [go_sem,simprocAttr,aj]) rfl ?_|refine aa hX hC hP (hS) rfl rfl rfl (by simp only [go_sem,simprocAttr,aj]) rfl ?_);try simp only [go_sem,simprocAttr,aj])|(intro h))
 ·have aj:decide ((b8 g).1=0)=false:=decide_eq_false hc
  have hI:jZ g=false:=by unfold jZ;rw [aj];rfl
  rw [hI]
  (refine Spec.intro (C:=T.cfg [] []) (rs:= [.t 2]) (T.aq _ _) Tryz.func51 rfl rfl Tryz.ntmps51 Tryz.results51 (by simp [AObj.isNest]) (by simp [AObj.isNest]) (by kernel_rfl) ?_;intro X hX hP hC aN aO vals hA;refine ⟨_,by simp,hA, ?_⟩;have af:X.P.follows .mixedOrders=true:=(by rw [hP];exact T.mixed);clear aN aO)
  repeat' (first|fail|((first|((with_reducible (first|apply oA|apply oB));exact rfl;intro K hK)|(refine hK _ ?_;clear hK K)|((with_reducible (first|apply oG|apply oH));iterate 3 exact rfl)|((with_reducible apply oI);(iterate 2 exact rfl);intro K hK)|(with_reducible (first|apply wI|apply wJ|apply wK)));try simp only [go_sem,simprocAttr,aj])|fail|(with_reducible (first|apply oC|apply oJ|exact oK|apply wA|apply wB|apply wC hX hC|apply wD hX hC|apply wE hX hC af|apply wF hX hC af|apply wG|apply wH|apply And.intro))|((with_reducible refine oD ?_ ?_);first|fail|kernel_rfl)|((with_reducible (first|apply oE|apply oF));(iterate 3 exact rfl);all_goals (intro h;first|(exact absurd h (by decide))|((try simp only [go_sem,simprocAttr,aj] at h);(try with_reducible intro K hK);simp only [go_sem,simprocAttr,aj])))|((first|((with_reducible apply wL);exact rfl)|((with_reducible apply wM);exact rfl));all_goals (try ((with_reducible intro h);first|(exact absurd h (by decide))|(try simp only [go_sem,simprocAttr,aj] at h))))|omega|((first|first|refine aa hX hC hP (jK g hl) rfl rfl rfl (by simp only [go_sem,simprocAttr,aj]) rfl ?_);try simp only [go_sem,simprocAttr,aj])|(intro h))
theorem xB (g:Gr) (hl:g.es.length≤1000):Spec Tryz.prog 50 (Args [eG g]) [] (eB (jZ g)) []:=by
 by_cases hc:(b8 g).1=0
 ·have hm:=aD hc
  have hn:=aY hm
  have aj:decide ((b8 g).1=0)=true:=decide_eq_true hc
  have hI:jZ g=decide (((bG (·.1) g).length:Int)=1):=by
   unfold jZ;rw [aj,Bool.true_and,decide_eq_decide];omega
  rw [hI]
  have hS:=cq g false hl (by omega)
  rw [show jL (!false)=(·.1) from rfl] at hS
  generalize bG (·.1) g=bl at hS
  (refine Spec.intro (C:=T.cfg [] []) (rs:= [.t 2]) (T.aq _ _) Tryz.func50 rfl rfl Tryz.ntmps50 Tryz.results50 (by simp [AObj.isNest]) (by simp [AObj.isNest]) (by kernel_rfl) ?_;intro X hX hP hC aN aO vals hA;refine ⟨_,by simp,hA, ?_⟩;have af:X.P.follows .mixedOrders=true:=(by rw [hP];exact T.mixed);clear aN aO)
  repeat' (first|fail|((first|((with_reducible (first|apply oA|apply oB));exact rfl;intro K hK)|(refine hK _ ?_;clear hK K)|((with_reducible (first|apply oG|apply oH));iterate 3 exact rfl)|((with_reducible apply oI);(iterate 2 exact rfl);intro K hK)|(with_reducible (first|apply wI|apply wJ|apply wK)));try simp only [go_sem,simprocAttr,aj])|fail|(with_reducible (first|apply oC|apply oJ|exact oK|apply wA|apply wB|apply wC hX hC|apply wD hX hC|apply wE hX hC af|apply wF hX hC af|apply wG|apply wH|apply And.intro))|((with_reducible refine oD ?_ ?_);first|fail|kernel_rfl)|((with_reducible (first|apply oE|apply oF));(iterate 3 exact rfl);all_goals (intro h;first|(exact absurd h (by decide))|((try simp only [go_sem,simprocAttr,aj] at h);(try with_reducible intro K hK);simp only [go_sem,simprocAttr,aj])))|((first|((with_reducible apply wL);exact rfl)|((with_reducible apply wM);exact rfl));all_goals (try ((with_reducible intro h);first|(exact absurd h (by decide))|(try simp only [go_sem,simprocAttr,aj] at h))))|omega|((first|first|refine aa hX hC hP (aQ g (by omega)) rfl rfl rfl (by simp only [go_sem,simprocAttr,aj]) rfl ?_|refine aa hX hC hP (hS) rfl rfl rfl (by simp only [go_sem,simprocAttr,aj]) rfl ?_);try simp only [go_sem,simprocAttr,aj])|(intro h))
 ·have aj:decide ((b8 g).1=0)=false:=decide_eq_false hc
  have hI:jZ g=false:=by unfold jZ;rw [aj];rfl
  rw [hI]
  (refine Spec.intro (C:=T.cfg [] []) (rs:= [.t 2]) (T.aq _ _) Tryz.func50 rfl rfl Tryz.ntmps50 Tryz.results50 (by simp [AObj.isNest]) (by simp [AObj.isNest]) (by kernel_rfl) ?_;intro X hX hP hC aN aO vals hA;refine ⟨_,by simp,hA, ?_⟩;have af:X.P.follows .mixedOrders=true:=(by rw [hP];exact T.mixed);clear aN aO)
  repeat' (first|fail|((first|((with_reducible (first|apply oA|apply oB));exact rfl;intro K hK)|(refine hK _ ?_;clear hK K)|((with_reducible (first|apply oG|apply oH));iterate 3 exact rfl)|((with_reducible apply oI);(iterate 2 exact rfl);intro K hK)|(with_reducible (first|apply wI|apply wJ|apply wK)));try simp only [go_sem,simprocAttr,aj])|fail|(with_reducible (first|apply oC|apply oJ|exact oK|apply wA|apply wB|apply wC hX hC|apply wD hX hC|apply wE hX hC af|apply wF hX hC af|apply wG|apply wH|apply And.intro))|((with_reducible refine oD ?_ ?_);first|fail|kernel_rfl)|((with_reducible (first|apply oE|apply oF));(iterate 3 exact rfl);all_goals (intro h;first|(exact absurd h (by decide))|((try simp only [go_sem,simprocAttr,aj] at h);(try with_reducible intro K hK);simp only [go_sem,simprocAttr,aj])))|((first|((with_reducible apply wL);exact rfl)|((with_reducible apply wM);exact rfl));all_goals (try ((with_reducible intro h);first|(exact absurd h (by decide))|(try simp only [go_sem,simprocAttr,aj] at h))))|omega|((first|first|refine aa hX hC hP (aQ g (by omega)) rfl rfl rfl (by simp only [go_sem,simprocAttr,aj]) rfl ?_);try simp only [go_sem,simprocAttr,aj])|(intro h))
end Go.Ab
end
section
namespace Go.Ab
open Go.Proofs
attribute [local congr] ACall.congr
set_option maxRecDepth 10000
set_option maxHeartbeats 8000000
def N7:Gr:=⟨3, [(0,1),(0,2)]⟩
def N8:Pl:=⟨[0,1,2], [[0,1], [], []]⟩
def N9:Gr:=⟨4, [(0,1),(0,2),(1,3),(2,3)]⟩
def Oa:Pl:=⟨[0,1,2,3], [[0,1], [2], [3], []]⟩
end Go.Ab
end
section
namespace Go.Ab
open Go.Proofs
attribute [local congr] ACall.congr
set_option maxRecDepth 10000
def Ob (l:List Int) (k:Nat):Bool:=(List.range k).all fun i=>decide (l.getD i 0=(i:Int))
def Du (g:Gr) (names order:List Int) (k:Nat):List Edge:=(List.range k).map fun i=>(names.getD (g.es.getD (order.getD i 0).toNat (0,0)).1.toNat 0,names.getD (g.es.getD (order.getD i 0).toNat (0,0)).2.toNat 0)
def gj (g:Gr) (names order:List Int):Gr:=⟨g.n,Du g names order order.length⟩
theorem vZ {g:Gr} {names order:List Int} {k:Nat} :(Du g names order k).length=k:=by simp [Du]
def Ie (g:Gr) (names order:List Int):Bool:=aU g&&fC names g.n&&fC order g.es.length
def Nf (g:Gr) (names order:List Int):Gr:=if Ie g names order then gj g names order else ⟨0, []⟩
end Go.Ab
end
section
namespace Go.Ab
def Ed (g:Gr) (a b:Int):Prop:=∃i,i<g.es.length∧tl g i=a∧hd g i=b
def IM (g:Gr) (l:List Int):Prop:=∀i,i<l.length→Ed g (l.getD i 0) (l.getD ((i+1) % l.length) 0)
def B7 (g:Gr) (way:List Int) (at_:Int):Prop:=∀p,p<way.length→Ed g ((way++ [at_]).getD (p+1) 0) (way.getD p 0)
theorem nU {l:List Int} {a:Int} :(l++ [a]).getD l.length 0=a:=by
 rw [List.getD_eq_getElem?_getD,List.getElem?_append_right (Nat.le_refl _)];simp
theorem qY {g:Gr} (hm:aU g=true):∀(f:Nat) (way:List Int) (a:Nat),a<g.n.toNat→(a:Int)∉aI g→B7 g way a→left g way≤f→
 B7 g (jJ g (cu g (aI g)) f way a).1 (jJ g (cu g (aI g)) f way a).2∧0≤(jJ g (cu g (aI g)) f way a).2∧(jJ g (cu g (aI g)) f way a).2∈(jJ g (cu g (aI g)) f way a).1
 |f,way,a,ha,hn,hc,hl=>by
  by_cases hmem:(a:Int)∈way
  ·rw [jh (.inr hmem)]
   exact ⟨hc,by simp only;omega,hmem⟩
  ·have hla:=gP ha hmem
   cases f with
   |zero=>omega
   |succ f=>
    obtain ⟨⟨i,hi,Ng,oR,HW⟩,_⟩:=qH hm (EE hm ha hn)
    have htr:=bX hm hi
    rw [oR] at htr
    obtain ⟨b,HX⟩:∃b:Nat,iy g (cu g (aI g)) a=b:=⟨(iy g (cu g (aI g)) a).toNat,by omega⟩
    rw [HX] at HW htr oR
    have e1:jJ g (cu g (aI g)) (f+1) way a=jJ g (cu g (aI g)) f (way++ [(a:Int)]) b:=by
     simp only [jJ];rw [if_neg (by intro h;rcases h with h|h;omega;exact hmem h),HX]
    rw [e1]
    refine qY hm f (way++ [(a:Int)]) b (by omega) HW ?_ (by omega)
    intro p hp
    rw [List.length_append,List.length_singleton] at hp
    by_cases gh:p<way.length
    ·have:=hc p gh
     rw [kD (by simp;omega),kD gh]
     exact this
    ·have:p=way.length:=by omega
     subst this
     have e2:=nU (l:=way++ [(a:Int)]) (a:=(b:Int))
     rw [List.length_append,List.length_singleton] at e2
     rw [e2,nU]
     exact ⟨i,hi,oR,Ng⟩
theorem nV {l:List Int} {k p:Nat} :(l.drop k).getD p 0=l.getD (k+p) 0:=by
 rw [List.getD_eq_getElem?_getD,List.getElem?_drop, ← List.getD_eq_getElem?_getD]
theorem IM.KK {g:Gr} {l:List Int} (h:∀p,p<l.length→Ed g (l.getD ((p+1) % l.length) 0) (l.getD p 0)) (h0:0<l.length):IM g (jX l.reverse):=by
 have IL:0<l.reverse.length:=by simpa using h0
 obtain ⟨k,xO,hk2,_⟩:=dc (gQ IL)
 rw [List.length_reverse] at hk2
 have e1:jX l.reverse=l.reverse.drop k++l.reverse.take k:=by simp only [jX,xO,Int.toNat_natCast]
 have hlen:(jX l.reverse).length=l.length:=by rw [e1];simp;omega
 have hg:∀i,i<l.length→(jX l.reverse).getD i 0=l.getD (l.length - 1 - (i+k) % l.length) 0:=by
  intro i hi
  rw [e1,List.getD_eq_getElem?_getD]
  by_cases hik:i<l.length - k
  ·rw [List.getElem?_append_left (by simp;omega),List.getElem?_drop,List.getElem?_reverse (by omega),Nat.mod_eq_of_lt (by omega), ← List.getD_eq_getElem?_getD]
   congr 1;omega
  ·rw [List.getElem?_append_right (by simp;omega),List.length_drop,List.length_reverse,List.getElem?_take,if_pos (by omega),List.getElem?_reverse (by omega), ← List.getD_eq_getElem?_getD]
   have:(i+k) % l.length=i+k - l.length:=by rw [Nat.mod_eq_sub_mod (by omega),Nat.mod_eq_of_lt (by omega)]
   rw [this];congr 1;omega
 intro i hi
 rw [hlen] at hi ⊢
 rw [hg i hi,hg _ (Nat.mod_lt _ h0)]
 have hmm:((i+1) % l.length+k) % l.length=((i+k) % l.length+1) % l.length:=by
  rw [Nat.mod_add_mod,Nat.mod_add_mod];congr 1;omega
 rw [hmm]
 have hj:=Nat.mod_lt (i+k) h0
 generalize (i+k) % l.length=j at hj ⊢
 by_cases sS:j+1<l.length
 ·rw [Nat.mod_eq_of_lt sS]
  have:=h (l.length - 1 - (j+1)) (by omega)
  rw [Nat.mod_eq_of_lt (by omega),show l.length - 1 - (j+1)+1=l.length - 1 - j from by omega] at this
  exact this
 ·have:j+1=l.length:=by omega
  rw [this,Nat.mod_self]
  have:=h (l.length - 1) (by omega)
  rw [show l.length - 1+1=l.length from by omega,Nat.mod_self] at this
  rw [show l.length - 1 - j=0 from by omega]
  exact this
def KL (g:Gr):Prop:=∃r:Int→Nat,∀i,i<g.es.length→r (tl g i)<r (hd g i)
theorem yp {g:Gr} (hm:aU g=true):Ae g=true↔KL g:=by
 constructor
 ·intro h
  refine ⟨fun v=>((vG g.n.toNat (aI g) (aI g).length).getD v.toNat 0).toNat,fun i hi=> ?_⟩
  have h1:=BH (zq hm h) hi
  have h2:=qL (n:=g.n.toNat) (l:=aI g) (k:=(aI g).length) (y:=(tl g i).toNat)
  simp only;omega
 ·rintro ⟨r,hr⟩
  cases h:Ae g with
  |true=>rfl
  |false=>
   exfalso
   obtain ⟨y,hy,hn⟩:=ya hm h
   have key:∀(p:Nat) (y:Nat),y<g.n.toNat→(y:Int)∉aI g→r y=p→False:=by
    intro p
    induction p using Nat.strongRecOn with
    |_ p ih=>
     intro y hy hn hp
     obtain ⟨t,i,hi,h1,rfl,h2⟩:=EE hm hy hn
     have htr:=bX hm hi
     have hlt:=hr i hi
     rw [h1,hp] at hlt
     have e:((tl g i).toNat:Int)=tl g i:=by omega
     exact ih (r (tl g i)) hlt (tl g i).toNat (by omega) (by rw [e];exact h2) (by rw [e])
   exact key _ y hy hn rfl
theorem Dv {g:Gr} (hm:aU g=true) (h:Ae g=true):jg g= []:=by
 have hall:=(bU.1 (x9 hm h)).2
 have hn:=aY hm
 rcases start_eq hm with ⟨h1,h2⟩|⟨a,ha,h1,h2,h3⟩
 ·have:jf g=([], -1):=by
   unfold jf;rw [h1];exact jh (.inl (by omega)) _
  simp only [jg,this]
  rw [if_pos (by omega)]
 ·exact absurd (hall a (dJ.2 (by omega))) h3
theorem B8 {g:Gr} (hm:aU g=true) (h:Ae g=false):0<(jg g).length∧IM g (jg g):=by
 obtain ⟨y,hy,Nh⟩:=ya hm h
 have hn:=aY hm
 rcases start_eq hm with ⟨h1,h2⟩|⟨a,ha,h1,h2,h3⟩
 ·exfalso
  rcases ez (f:=fun n:Int=>decide (0<n)) (l:=cu g (aI g)) 0 with ⟨_,h4⟩|⟨k,h4,_⟩
  ·have h5:=(nP hm hy).2 Nh
   have h6:=h4 ((cu g (aI g)).getD y 0) (by rw [List.getD_eq_getElem?_getD,jH hy];exact List.mem_of_getElem? (jH hy))
   rw [kr hy] at h6
   exact absurd h5 (of_decide_eq_false h6)
  ·omega
 ·obtain ⟨h4,h5,h6⟩:=qY hm g.n.toNat [] a ha h3 (fun p hp=>by simp at hp) ua
  have hw:jf g=jJ g (cu g (aI g)) g.n.toNat [] a:=by unfold jf;rw [h1]
  rw [← hw] at h4 h5 h6
  obtain ⟨k,xO,hk2,HU⟩:=dc h6
  have hc:jg g=jX ((jf g).1.drop k).reverse:=by
   simp only [jg]
   rw [if_neg (by omega),xO,Int.toNat_natCast]
  have hlen:((jf g).1.drop k).length=(jf g).1.length - k:=by simp
  have h0:0<((jf g).1.drop k).length:=by omega
  refine ⟨?_, ?_⟩
  ·rw [hc]
   simp only [jX,List.length_append,List.length_drop,List.length_take,List.length_reverse]
   omega
  ·rw [hc]
   refine IM.KK (fun p hp=> ?_) h0
   rw [hlen] at hp ⊢
   have h7:=h4 (k+p) (by omega)
   rw [nV (p:=p)]
   by_cases sS:p+1<(jf g).1.length - k
   ·rw [Nat.mod_eq_of_lt sS,nV]
    rw [kD (by omega)] at h7
    exact h7
   ·have:p+1=(jf g).1.length - k:=by omega
    rw [this,Nat.mod_self,nV,Nat.add_zero,HU]
    rw [show k+p+1=(jf g).1.length from by omega,nU] at h7
    exact h7
end Go.Ab
end
section
namespace Go.Ab
def nm (names:List Int) (v:Int):Int:=names.getD v.toNat 0
structure iB (g:Gr) (names order:List Int):Prop where
 may:aU g=true
 EN:fC names g.n=true
 ord:fC order (g.es.length:Int)=true
section
variable {g:Gr} {names order:List Int} (h:iB g names order)
include h
theorem iB.len:(gj g names order).es.length=g.es.length:=by
 have:=(bU.1 h.ord).1
 simp only [gj,vZ];omega
theorem iB.iI {i:Nat} (hi:i<g.es.length):∃j,j<g.es.length∧order.getD i 0=(j:Int)∧(gj g names order).es.getD i (0,0)=(nm names (tl g j),nm names (hd g j)):=by
 have Aa:=(bU.1 h.ord).1
 have:=qK h.ord _ (fZ (l:=order) (m:=i) (by omega))
 refine ⟨(order.getD i 0).toNat,by omega,by omega, ?_⟩
 simp only [gj,Du,nm,tl,hd]
 rw [List.getD_eq_getElem?_getD,List.getElem?_map,List.getElem?_range (by omega)]
 rfl
theorem iB.back {j:Nat} (hj:j<g.es.length):∃i,i<g.es.length∧order.getD i 0=(j:Int)∧(gj g names order).es.getD i (0,0)=(nm names (tl g j),nm names (hd g j)):=by
 obtain ⟨Aa,hall⟩:=bU.1 h.ord
 obtain ⟨i,hi,hil,he⟩:=dc (hall (j:Int) (dJ.2 (by omega)))
 obtain ⟨j',_,h2,h3⟩:=h.iI (i:=i) (by omega)
 have:j'=j:=by omega
 subst this
 exact ⟨i,by omega,he,h3⟩
theorem iB.inj {a b:Int} (ha:0≤a∧a<g.n) (hb:0≤b∧b<g.n) (e:nm names a=nm names b):a=b:=by
 have hnl:=(bU.1 h.EN).1
 have:=jO h.EN (i:=a.toNat) (j:=b.toNat) (by omega) (by omega) e
 omega
theorem iB.range {a:Int} (ha:0≤a∧a<g.n):0≤nm names a∧nm names a<g.n:=by
 have hnl:=(bU.1 h.EN).1
 exact qK h.EN _ (fZ (by omega))
theorem iB.inv {a:Int} (ha:0≤a∧a<g.n):dg names (nm names a)=a:=by
 have hnl:=(bU.1 h.EN).1
 obtain ⟨k,hk,cm,he⟩:=dc (fZ (l:=names) (m:=a.toNat) (by omega))
 have h2:=jO h.EN cm (j:=a.toNat) (by omega) he
 have h3:dg names (nm names a)=k:=hk
 omega
theorem iB.of {v:Int} (hv:0≤v∧v<g.n):∃a,(0≤a∧a<g.n)∧nm names a=v:=by
 obtain ⟨hnl,hall⟩:=bU.1 h.EN
 obtain ⟨k,hk,cm,he⟩:=dc (hall v (dJ.2 (by omega)))
 exact ⟨k,by omega,he⟩
theorem iB.may':aU (gj g names order)=true:=by
 have hn:=aY h.may
 have hlen:=h.len
 have hall:(gj g names order).es.any (nN (gj g names order))=false:=by
  rw [List.any_eq_false]
  intro e he
  obtain ⟨i,hi,rfl⟩:=List.getElem_of_mem he
  obtain ⟨j,hj,_,h3⟩:=h.iI (i:=i) (by omega)
  rw [List.getD_eq_getElem?_getD,List.getElem?_eq_getElem hi,Option.getD_some] at h3
  rw [h3]
  have h4:=h.range (bX h.may hj)
  have h5:=h.range (de h.may hj)
  have e1:(gj g names order).n=g.n:=rfl
  simp only [nN,tR,e1,Bool.or_eq_true,decide_eq_true_eq]
  omega
 have e1:(gj g names order).n=g.n:=rfl
 simp only [aU,hall,e1,Bool.not_false,Bool.and_true,Bool.and_eq_true,decide_eq_true_eq]
 omega
omit h in
theorem nW {i j:Nat} (e:(gj g names order).es.getD i (0,0)=(nm names (tl g j),nm names (hd g j))):tl (gj g names order) i=nm names (tl g j)∧hd (gj g names order) i=nm names (hd g j):=⟨congrArg Prod.fst e,congrArg Prod.snd e⟩
theorem iB.loop:(0≤ji (gj g names order))↔0≤ji g:=by
 have key:∀g:Gr,(0≤ji g)↔∃i,i<g.es.length∧tl g i=hd g i:=by
  intro g
  have:=gF (fun e:Edge=>decide (e.1=e.2)) g.es
  rw [show (0≤ji g)↔g.es.any (fun e:Edge=>decide (e.1=e.2))=true from by rw [← this];simp [ji],List.any_eq_true]
  constructor
  ·rintro ⟨e,he,h2⟩
   obtain ⟨i,hi,rfl⟩:=List.getElem_of_mem he
   refine ⟨i,hi, ?_⟩
   simpa [tl,hd,List.getD_eq_getElem?_getD,List.getElem?_eq_getElem hi] using h2
  ·rintro ⟨i,hi,h2⟩
   refine ⟨_,List.getElem_mem hi, ?_⟩
   simpa [tl,hd,List.getD_eq_getElem?_getD,List.getElem?_eq_getElem hi] using h2
 rw [key,key,h.len]
 constructor
 ·rintro ⟨i,hi,e⟩
  obtain ⟨j,hj,_,h3⟩:=h.iI hi
  obtain ⟨e1,e2⟩:=nW h3
  exact ⟨j,hj,h.inj (bX h.may hj) (de h.may hj) (by rw [← e1, ← e2,e])⟩
 ·rintro ⟨j,hj,e⟩
  obtain ⟨i,hi,_,h3⟩:=h.back hj
  obtain ⟨e1,e2⟩:=nW h3
  exact ⟨i,hi,by rw [e1,e2,e]⟩
omit h in
theorem sV (g:Gr):(0≤eA g)↔∃i k,i<g.es.length∧k<g.es.length∧i≠k∧g.es.getD i (0,0)=g.es.getD k (0,0):=by
 have:=gF (lX g) (List.range g.es.length)
 rw [show (0≤eA g)↔(List.range g.es.length).any (lX g)=true from by rw [← this];simp [eA],List.any_eq_true]
 constructor
 ·rintro ⟨i,hi,h2⟩
  have hil:=List.mem_range.1 hi
  have h3:=of_decide_eq_true h2
  rw [List.mem_iff_getElem?] at h3
  obtain ⟨k,hk⟩:=h3
  rw [List.getElem?_take] at hk
  split at hk
  ·rename_i hki
   exact ⟨i,k,hil,by omega,by omega,by rw [List.getD_eq_getElem?_getD (i:=k),hk];rfl⟩
  ·cases hk
 ·rintro ⟨i,k,hi,hk,hne,e⟩
  have main:∀i k,k<i→i<g.es.length→g.es.getD i (0,0)=g.es.getD k (0,0)→lX g i=true:=by
   intro i k hki hi e
   refine decide_eq_true ?_
   rw [e,List.mem_iff_getElem?]
   refine ⟨k, ?_⟩
   rw [List.getElem?_take,if_pos hki,List.getD_eq_getElem?_getD,List.getElem?_eq_getElem (by omega)];rfl
  rcases Nat.lt_or_gt_of_ne hne with hlt|hgt
  ·exact ⟨k,List.mem_range.2 hk,main k i hlt hk e.symm⟩
  ·exact ⟨i,List.mem_range.2 hi,main i k hgt hi e⟩
theorem iB.Ig:(0≤eA (gj g names order))↔0≤eA g:=by
 have Aa:=(bU.1 h.ord).1
 rw [sV,sV,h.len]
 constructor
 ·rintro ⟨i,k,hi,hk,hne,e⟩
  obtain ⟨j,hj,ho,h3⟩:=h.iI hi
  obtain ⟨j',hj',ho',CY⟩:=h.iI hk
  refine ⟨j,j',hj,hj',fun e'=> ?_, ?_⟩
  ·subst e'
   exact hne (jO h.ord (by omega) (by omega) (by rw [ho,ho']))
  ·rw [h3,CY,Prod.mk.injEq] at e
   have e1:=h.inj (bX h.may hj) (bX h.may hj') e.1
   have e2:=h.inj (de h.may hj) (de h.may hj') e.2
   exact Prod.ext e1 e2
 ·rintro ⟨j,j',hj,hj',hne,e⟩
  obtain ⟨i,hi,ho,h3⟩:=h.back hj
  obtain ⟨k,hk,ho',CY⟩:=h.back hj'
  refine ⟨i,k,hi,hk,fun e'=> ?_, ?_⟩
  ·subst e';omega
  ·have e1:tl g j=tl g j':=congrArg Prod.fst e
   have e2:hd g j=hd g j':=congrArg Prod.snd e
   rw [h3,CY,e1,e2]
theorem iB.KM:Ae (gj g names order)=Ae g:=by
 rw [Bool.eq_iff_iff,yp h.may',yp h.may]
 constructor
 ·rintro ⟨r,hr⟩
  refine ⟨fun v=>r (nm names v),fun j hj=> ?_⟩
  obtain ⟨i,hi,_,h3⟩:=h.back hj
  obtain ⟨e1,e2⟩:=nW h3
  have:=hr i (by rw [h.len];exact hi)
  rwa [e1,e2] at this
 ·rintro ⟨r,hr⟩
  refine ⟨fun v=>r (dg names v),fun i hi=> ?_⟩
  rw [h.len] at hi
  obtain ⟨j,hj,_,h3⟩:=h.iI hi
  obtain ⟨e1,e2⟩:=nW h3
  have:=hr j hj
  rw [e1,e2];simp only;rw [h.inv (bX h.may hj),h.inv (de h.may hj)]
  exact this
omit h in
theorem gW {g:Gr} {y:Int} :y∈bG (·.2) g↔(0≤y∧y<g.n)∧∀i,i<g.es.length→hd g i≠y:=by
 simp only [bG,gO,List.mem_map,List.mem_filter,List.mem_range,decide_eq_true_eq]
 have he:∀x:Nat,x<g.n.toNat→(((cQ (·.2) g).getD x []).length=0↔∀i,i<g.es.length→hd g i≠(x:Int)):=by
  intro x hx
  have e:(cQ (·.2) g).getD x []=aX (·.2) g.es g.es.length (x:Int):=by
   simp [cQ,List.getD_eq_getElem?_getD,List.getElem?_range hx,kz]
  rw [e,List.length_eq_zero_iff]
  simp only [aX,List.map_eq_nil_iff,List.filter_eq_nil_iff,List.mem_range,decide_eq_true_eq]
  rfl
 constructor
 ·rintro ⟨x,⟨hx,h0⟩,rfl⟩
  refine ⟨by simp;omega,(he x hx).1 h0⟩
 ·rintro ⟨⟨h1,h2⟩,h3⟩
  have e:((y.toNat:Nat):Int)=y:=by omega
  exact ⟨y.toNat,⟨by omega,(he _ (by omega)).2 (by rw [e];exact h3)⟩,e⟩
omit h in
theorem qZ {f:Edge→Int} {g:Gr} :(bG f g).Nodup:=by
 unfold bG gO
 refine List.Pairwise.map _ (fun a b h e=>h (Int.ofNat.inj e)) (List.Pairwise.filter _ List.nodup_range)
theorem iB.bare:(bG (·.2) (gj g names order)).length=(bG (·.2) g).length:=by
 have e1:(gj g names order).n=g.n:=rfl
 have h1:((bG (·.2) g).map (nm names)).length≤(bG (·.2) (gj g names order)).length:=by
  refine Nat.le_trans (count_le _ (bG (·.2) (gj g names order)) ?_ ?_) List.countP_le_length
  ·rw [List.nodup_iff_pairwise_ne]
   refine List.Pairwise.map _ (fun a b h=>h) ?_
   refine List.Pairwise.imp_of_mem ?_ qZ
   intro a b ha hb hab e
   exact hab (h.inj (gW.1 ha).1 (gW.1 hb).1 e)
  ·intro v hv
   obtain ⟨y,hy,rfl⟩:=List.mem_map.1 hv
   obtain ⟨hy1,hy2⟩:=gW.1 hy
   refine gW.2 ⟨h.range hy1,fun i hi e=> ?_⟩
   rw [h.len] at hi
   obtain ⟨j,hj,_,h3⟩:=h.iI hi
   rw [(nW h3).2] at e
   exact hy2 j hj (h.inj (de h.may hj) hy1 e)
 have h2:((bG (·.2) (gj g names order)).map (dg names)).length≤(bG (·.2) g).length:=by
  have hsplit:∀v∈bG (·.2) (gj g names order),∃a,(0≤a∧a<g.n)∧nm names a=v:=fun v hv=>h.of (gW.1 hv).1
  refine Nat.le_trans (count_le _ (bG (·.2) g) ?_ ?_) List.countP_le_length
  ·rw [List.nodup_iff_pairwise_ne]
   refine List.Pairwise.map _ (fun a b h=>h) ?_
   refine List.Pairwise.imp_of_mem ?_ qZ
   intro a b ha hb hab e
   obtain ⟨a',E3,rfl⟩:=hsplit a ha
   obtain ⟨b',hb',rfl⟩:=hsplit b hb
   rw [h.inv E3,h.inv hb'] at e
   exact hab (by rw [e])
  ·intro v hv
   obtain ⟨y,hy,rfl⟩:=List.mem_map.1 hv
   obtain ⟨a,ha,rfl⟩:=hsplit y hy
   rw [h.inv ha]
   refine gW.2 ⟨ha,fun j hj e=> ?_⟩
   obtain ⟨i,hi,_,h3⟩:=h.back hj
   refine (gW.1 hy).2 i (by rw [h.len];exact hi) ?_
   rw [(nW h3).2,e]
 simp only [List.length_map] at h1 h2
 omega
theorem iB.kind:(b8 (gj g names order)).1=(b8 g).1:=by
 have hm:=h.may'
 have hc:(0<(jg (gj g names order)).length)↔0<(jg g).length:=by
  have key:∀g:Gr,aU g=true→((0<(jg g).length)↔Ae g=false):=by
   intro g hm
   cases ho:Ae g with
   |true=>rw [Dv hm ho];simp
   |false=>simp [(B8 hm ho).1]
  rw [key _ hm,key _ h.may,h.KM]
 have h1:=h.loop
 have h2:=h.Ig
 have h3:=h.bare
 simp only [b8,gv,hm,h.may]
 simp only [Bool.true_eq_false,if_false,h1,h2,hc,h3]
 split
 ·rfl
 split
 ·rfl
 split
 ·rfl
 split<;>rfl
end
end Go.Ab
end
section
namespace Go.Ab
open Go.Proofs
set_option maxRecDepth 10000
def LH:Nat→List Edge→Int→Option (Int × Int)
 |_, [],_=>none
 |m,e::N,v=>if e.1=v then some ((m:Int),e.2) else LH (m+1) N v
def Oc (m:Nat) (N:List Edge) (t:It):It:=if 0≤t.1 then t else match LH m N t.2.1 with
 |some (i,h)=>(i,t.2.1,h)
 |none=>t
structure LI (g:Gr) (p:Pl):Prop where
 run:bR g p
 n:(BT g p).n≤64
 es:(BT g p).es.length≤128
variable {g:Gr} {p:Pl}
end Go.Ab
end
section
namespace Go.Ab
open Go.Proofs
set_option maxRecDepth 10000
variable {g:Gr} {p:Pl}
theorem yq {p:Pl} {k:Nat} {v:Int} (hk:k≤p.ord.length) (h:v∈p.ord.take k):∃j,j<k∧au p j=v:=by
 obtain ⟨j,hj,e⟩:=List.mem_iff_getElem.1 h
 simp only [List.length_take] at hj
 refine ⟨j,by omega, ?_⟩
 rw [← e,au,List.getD_eq_getElem?_getD,List.getElem?_eq_getElem (by omega)]
 simp
end Go.Ab
end
section
namespace Go.Ab
open Go.Proofs
set_option maxRecDepth 10000
variable {g:Gr} {p:Pl}
theorem nZ (hr:bR g p):bD p (au p (g.n.toNat - 1))= []∧au p (g.n.toNat - 1)∈loose (kF g p):=by
 have hm:=aD hr.1
 have hn:=aY hm
 obtain ⟨k,hk⟩:∃k,g.n.toNat=k+1:=⟨g.n.toNat - 1,by omega⟩
 obtain ⟨hi,_,_⟩:=cO hm hr.2.1 (k:=k) (by omega) fun j hj=>hr.2.2 j (by omega)
 obtain ⟨A,X,C,hrw,_,_,_,hs⟩:=gV hm hi.toeW (hr.2.2 k (by omega))
 have hL:kF g p=A++aH g (au p k) (bD p (au p k))++C:=by
  unfold kF;rw [hk]
  show (az _ _ _ _).2.row=_
  rw [hs]
 have xO:g.n.toNat - 1=k:=by omega
 rw [xO]
 have jM:=xA hr
 have hx:=aK hr.2.1 (k:=k) (by omega)
 have h0:bD p (au p k)= []:=by
  refine Decidable.byContradiction fun h0=> ?_
  have ha:aH g (au p k) (bD p (au p k))=(bD p (au p k)).map (fh g (au p k)):=if_neg h0
  obtain ⟨i,hi'⟩:=List.exists_mem_of_ne_nil _ h0
  have h1:=jM (fh g (au p k) i) (by rw [hL,ha];simp;exact .inr (.inl ⟨i,hi',rfl⟩))
  obtain ⟨e,rfl,_⟩:=jq ((bN hr.2.1 hx.1 hx.2).mem_iff.1 hi')
  simp [fh] at h1
  omega
 refine ⟨h0, ?_⟩
 have ha:aH g (au p k) (bD p (au p k))= [(-1,au p k, -1)]:=if_pos h0
 rw [hL,ha,sO,sO]
 simp [loose]
theorem k6 {f:Edge→Int} {g:Gr} {y:Int} :y∈bG f g↔(0≤y∧y<g.n)∧aX f g.es g.es.length y= []:=by
 simp only [bG,gO,List.mem_map,List.mem_filter,List.mem_range,decide_eq_true_eq]
 have he:∀x:Nat,x<g.n.toNat→(((cQ f g).getD x []).length=0↔aX f g.es g.es.length (x:Int)= []):=by
  intro x hx
  have e:(cQ f g).getD x []=aX f g.es g.es.length (x:Int):=by
   simp [cQ,List.getD_eq_getElem?_getD,List.getElem?_range hx,kz]
  rw [e,List.length_eq_zero_iff]
 constructor
 ·rintro ⟨x,⟨hx,h0⟩,rfl⟩
  exact ⟨by simp;omega,(he x hx).1 h0⟩
 ·rintro ⟨⟨h1,h2⟩,h3⟩
  have e:((y.toNat:Nat):Int)=y:=by omega
  exact ⟨y.toNat,⟨by omega,(he _ (by omega)).2 (by rw [e];exact h3)⟩,e⟩
end Go.Ab
end
section
namespace Go.Ab
open Go.Proofs
set_option maxRecDepth 10000
def hM (l:List It):List It:=l.filter fun t=>decide (0≤t.1)
theorem k7 {a b:List It} :hM (a++b)=hM a++hM b:=by simp [hM]
theorem iC {l:List It} {t:It} :t∈hM l↔t∈l∧0≤t.1:=by simp [hM]
theorem pg {x:Int} {l:List It} (h:fk x l):fk x (hM l):=fun t ht=>h t (iC.1 ht).1
def uu (x:Int) (l:List It):Prop:=∀t∈l,t.2.2=x
theorem k8 {g:Gr} {x:Int} {o:List Int} (ho:∀i∈o,0≤i):hM (aH g x o)=o.map (fh g x):=by
 unfold aH
 split
 ·rename_i h;subst h;rfl
 ·refine List.filter_eq_self.2 fun t ht=> ?_
  obtain ⟨i,hi,rfl⟩:=List.mem_map.1 ht
  exact decide_eq_true (ho i hi)
theorem sW {x:Int} :∀ {X Y c d:List It},uu x X→uu x Y→fk x c→fk x d→X++c=Y++d→X=Y∧c=d
 | [], [],c,d,_,_,_,_,e=>⟨rfl,e⟩
 | [],u::Y,c,d,_,hY,hc,_,e=>by
   simp only [List.nil_append] at e
   exact absurd (hY u (by simp)) (hc u (by rw [e];simp))
 |t::X, [],c,d,hX,_,_,hd,e=>by
  simp only [List.nil_append] at e
  exact absurd (hX t (by simp)) (hd t (by rw [← e];simp))
 |t::X,u::Y,c,d,hX,hY,hc,hd,e=>by
  simp only [List.cons_append,List.cons.injEq] at e
  obtain ⟨e1,e2⟩:=sW (fun s hs=>hX s (by simp [hs])) (fun s hs=>hY s (by simp [hs])) hc hd e.2
  exact ⟨by rw [e.1,e1],e2⟩
theorem v7 {x:Int} :∀ {a b X Y c d:List It},fk x a→fk x b→uu x X→uu x Y→fk x c→fk x d→X≠ []→Y≠ []→a++X++c=b++Y++d→a=b∧X=Y∧c=d
 |t::a, [],X,u::Y,c,d,ha,_,_,hY,_,_,_,_,e=>by
  simp only [List.cons_append,List.nil_append,List.cons.injEq] at e
  exact absurd (by rw [e.1];exact hY u (by simp)) (ha t (by simp))
 | [],t::b,u::X,Y,c,d,_,hb,hX,_,_,_,_,_,e=>by
   simp only [List.cons_append,List.nil_append,List.cons.injEq] at e
   exact absurd (by rw [← e.1];exact hX u (by simp)) (hb t (by simp))
 |t::a,u::b,X,Y,c,d,ha,hb,hX,hY,hc,hd,nX,nY,e=>by
  simp only [List.cons_append,List.cons.injEq] at e
  obtain ⟨e1,e2,e3⟩:=v7 (fun s hs=>ha s (by simp [hs])) (fun s hs=>hb s (by simp [hs])) hX hY hc hd nX nY e.2
  exact ⟨by rw [e.1,e1],e2,e3⟩
 | [], [],X,Y,c,d,_,_,hX,hY,hc,hd,_,_,e=>by
   refine ⟨rfl, ?_⟩
   simp only [List.nil_append] at e
   exact sW hX hY hc hd e
 | [],_::_, [],_,_,_,_,_,_,_,_,_,h,_,_=>absurd rfl h
 |_::_, [],_, [],_,_,_,_,_,_,_,_,_,h,_=>absurd rfl h
theorem B9 {g:Gr} (hm:aU g=true) {f:Fr} (hi:eW g f) {x:Int} (hR:aA g f x=true) (hn:bq g x≠0):
 ∃a X c,hM f.row=a++X++c∧fk x a∧fk x c∧uu x X∧X.length=bq g x∧∀o,hM (az g f x o).2.row=a++hM (aH g x o)++c:=by
 obtain ⟨A,X,C,hr,hA,hC,hX,cX⟩:=bY hm hi hR hn
 have hx:=(aJ hR).1
 have hmem:∀t∈X,t∈f.row:=fun t ht=>by rw [hr];simp [ht]
 have hiff:∀t∈X,(0≤t.1↔t.2.2=x):=fun t ht=>by
  have h1:=(hi.it t (hmem t ht)).head hm
  have h2:=hX.al t ht
  omega
 refine ⟨hM A,hM X,hM C,by rw [hr,k7,k7],pg hA,pg hC,fun t ht=> ?_, ?_,fun o=> ?_⟩
 ·obtain ⟨h1,h2⟩:=iC.1 ht
  exact (hiff t h1).1 h2
 ·rw [← cX,hM, ← List.countP_eq_length_filter]
  refine List.countP_congr fun t ht=> ?_
  simp only [j7,decide_eq_true_eq]
  exact hiff t ht
 ·rw [gC o hr hA hC hX]
  simp only [k7]
theorem Dw {g:Gr} (hm:aU g=true) {f:Fr} (hi:eW g f) {x:Int} (hR:aA g f x=true) (hn:bq g x≠0) {a X c:List It} (e:hM f.row=a++X++c) (ha:fk x a) (hc:fk x c) (hX:uu x X) (nX:X≠ []) (o:List Int):
 hM (az g f x o).2.row=a++hM (aH g x o)++c:=by
 obtain ⟨b,Y,d,e',hb,hd,hY,lY,hs⟩:=B9 hm hi hR hn
 have nY:Y≠ []:=fun h=>hn (by rw [← lY,h];rfl)
 obtain ⟨e1,_,e3⟩:=v7 hb ha hY hX hd hc nY nX (e'.symm.trans e)
 rw [hs o,e1,e3]
theorem Ca {g:Gr} (hm:aU g=true) {f:Fr} (hi:eW g f) {x:Int} (h0:0≤x) (h1:x<g.n) (hp:x∉f.pl) {a X c:List It} (e:hM f.row=a++X++c) (ha:fk x a) (hc:fk x c) (hX:uu x X) (nX:X≠ []) (hl:X.length=bq g x):aA g f x=true:=by
 have hmem:∀j,j<f.row.length→zA g (f.row.getD j (0,0,0)):=fun j hj=>hi.it _ (bf hj)
 have yZ:f.row.countP (j7 x)=X.length:=by
  have h2:f.row.countP (j7 x)=(hM f.row).countP (j7 x):=by
   rw [hM,List.countP_filter]
   refine List.countP_congr fun t ht=> ?_
   have:=(hi.it t ht).head hm
   simp only [j7,Bool.and_eq_true,decide_eq_true_eq]
   omega
  have c1:a.countP (j7 x)=0:=List.countP_eq_zero.2 fun t ht=>by simp [j7,ha t ht]
  have c2:c.countP (j7 x)=0:=List.countP_eq_zero.2 fun t ht=>by simp [j7,hc t ht]
  have c3:X.countP (j7 x)=X.length:=List.countP_eq_length.2 fun t ht=>by simp [j7,hX t ht]
  rw [h2,e,List.countP_append,List.countP_append,c1,c2,c3]
  omega
 rw [← mZ hm hi,fM,if_neg (by rintro (h|h|h);omega;omega;exact hp h),fN h0 h1,Bool.and_eq_true,decide_eq_true_eq]
 have hN:(aX (fun e=>e.2) g.es g.es.length x).length=bq g x:=rfl
 rw [hN]
 refine ⟨?_, ?_⟩
 ·unfold aS
  rw [jm,jR (Nat.le_refl _),List.take_length,yZ,hl]
 ·rw [Bool.or_eq_true];right
  rcases cJ (row:=f.row) (x:=x) f.row.length with ⟨hs,hno⟩|⟨p,q,n,hs,hab,iG,hc0,dM,hpx,KN,hlo,hhi⟩
  ·have hs':aS f.row x=(-1,0,0):=hs
   rw [hs'];simp [oL]
  ·have hs':aS f.row x=((p:Int),(q:Int),(n:Int)):=hs
   rw [hs']
   simp only [Int.toNat_natCast,oL,Bool.not_eq_true']
   rw [← Bool.not_eq_true,sJ iG]
   rintro ⟨j,h2,h3,h4⟩
   simp only [jP,Bool.and_eq_true,decide_eq_true_eq] at h4
   have hja:p<j:=by
    refine Nat.lt_of_le_of_ne h2 fun e=> ?_
    subst e;exact h4.1 hpx
   have hjb:j<q - 1:=by
    refine Nat.lt_of_le_of_ne (by omega) fun e=> ?_
    subst e;exact h4.1 KN
   have hsub:=((qU (i:=j+1) (j:=q - 1) (qU (i:=p+1) (j:=j) (qU (i:=0) (j:=p) (List.nil_sublist _) (by omega) (by omega)) (by omega) (by omega)) (by omega) (by omega)).trans (List.take_sublist _ f.row)).filter fun t=>decide (0≤t.1)
   have hp1:=(hmem p (by omega)).head hm
   have LJ:=(hmem j (by omega)).head hm
   have hq1:=(hmem (q - 1) (by omega)).head hm
   generalize f.row.getD p (0,0,0)=s1 at hsub hp1 hpx
   generalize f.row.getD j (0,0,0)=s2 at hsub LJ h4
   generalize f.row.getD (q - 1) (0,0,0)=s3 at hsub hq1 KN
   have hf:([]++ [s1]++ [s2]++ [s3]).filter (fun t=>decide (0≤t.1))= [s1,s2,s3]:=List.filter_eq_self.2 fun t ht=>by
    simp only [List.nil_append,List.cons_append,List.mem_cons,List.not_mem_nil,or_false] at ht
    rcases ht with rfl|rfl|rfl
    ·exact decide_eq_true (hp1.1.2 (by omega))
    ·exact decide_eq_true (LJ.1.2 h4.2)
    ·exact decide_eq_true (hq1.1.2 (by omega))
   rw [hf] at hsub
   have hsub: [s1,s2,s3].Sublist (a++(X++c)):=by rw [← List.append_assoc, ← e];exact hsub
   rw [List.sublist_append_iff] at hsub
   obtain ⟨l1,l',el,k1,k'⟩:=hsub
   rw [List.sublist_append_iff] at k'
   obtain ⟨l2,l3,rfl,k2,k3⟩:=k'
   match l1,el,k1 with
   |t::l1,el,k1=>
    simp only [List.cons_append,List.cons.injEq] at el
    exact ha t (k1.subset (by simp)) (by rw [← el.1];exact hpx)
   | [],el,_=>
     match l2,el,k2 with
     | [],el,_=>
       simp only [List.nil_append] at el
       exact hc s1 (k3.subset (by rw [← el];simp)) hpx
     | [t],el,_=>
       simp only [List.nil_append,List.cons_append,List.cons.injEq] at el
       exact hc s3 (k3.subset (by rw [← el.2];simp)) KN
     |t::u::l2,el,k2=>
      simp only [List.nil_append,List.cons_append,List.cons.injEq] at el
      exact h4.1 (by rw [el.2.1];exact hX u (k2.subset (by simp)))
end Go.Ab
end
section
namespace Go.Ab
open Go.Proofs
set_option maxRecDepth 10000
def Ih (gone:List Int) (i:Nat):Bool:= !decide ((i:Int)∈gone)
def E6 (gone:List Int) (k:Nat):List Nat:=(List.range k).filter (Ih gone)
def Ni (gone:List Int) (k:Nat):Nat:=(E6 gone k).length
def KO (gone:List Int) (es:List Edge) (k:Nat):List Edge:=(E6 gone k).map fun i=>es.getD i (0,0)
def Nj (g:Gr) (gone:List Int):Gr:=⟨g.n,KO gone g.es g.es.length⟩
def LL (gone:List Int) (i:Int):Int:=if i∈gone then -1 else (Ni gone i.toNat:Int)
def KP (gone:List Int) (l:List Int):List Int:=(l.filter fun i=>decide (i∉gone)).map (LL gone)
def Nk (p:Pl) (gone:List Int):Pl:=⟨p.ord,p.outs.map (KP gone)⟩
variable {g:Gr} {p:Pl} {gone:List Int}
def Nl (gone:List Int) (t:It):It:=(LL gone t.1,t.2.1,t.2.2)
def Nm (gone:List Int) (l:List It):List It:=(l.filter fun t=>decide (t.1∉gone)).map (Nl gone)
theorem fO (hr:bR g p):bq g (au p 0)=0:=by
 have hm:=aD hr.1
 have hn:=aY hm
 refine Decidable.byContradiction fun hnz=> ?_
 obtain ⟨A,X,C,hrw,_,_,hX,_⟩:=bY hm (ye g).toeW (hr.2.2 0 (by omega)) hnz
 obtain ⟨q,X0,e1,_⟩:=hX.fst
 rw [e1] at hrw
 simp at hrw
end Go.Ab
end
section
namespace Go.Ab
open Go.Proofs
set_option maxRecDepth 10000
theorem uv {g:Gr} (hm:aU g=true) {f:Fr} (hi:eW g f) {x:Int} (hR:aA g f x=true) (hn:bq g x≠0) (o:List Int):
 ∃a c,hM f.row=a++hM (az g f x o).1.1++c∧fk x a∧fk x c∧uu x (hM (az g f x o).1.1)∧(hM (az g f x o).1.1).length=bq g x∧hM (az g f x o).2.row=a++hM (aH g x o)++c:=by
 obtain ⟨A,X,C,hr,hA,hC,hX,hc⟩:=bY hm hi hR hn
 have hx:=(aJ hR).1
 have hmem:∀t∈X,t∈f.row:=fun t ht=>by rw [hr];simp [ht]
 have hiff:∀t∈X,(0≤t.1↔t.2.2=x):=fun t ht=>by
  have h1:=(hi.it t (hmem t ht)).head hm
  have h2:=hX.al t ht
  constructor
  ·intro h;rcases h2 with h2|h2
   ·exact h2
   ·exact absurd h2 (h1.1.1 h)
  ·intro h;exact h1.1.2 (by omega)
 rw [gC o hr hA hC hX]
 refine ⟨hM A,hM C,by rw [hr,k7,k7],pg hA,pg hC,fun t ht=> ?_, ?_,by simp only [k7]⟩
 ·obtain ⟨h1,h2⟩:=iC.1 ht
  exact (hiff t h1).1 h2
 ·rw [← hc,hM, ← List.countP_eq_length_filter]
  refine List.countP_congr fun t ht=> ?_
  simp only [j7,decide_eq_true_eq]
  exact hiff t ht
def cA (g:Gr) (p:Pl) (x:Int):List Int:=(hM ((dR g p g.n.toNat).getD x.toNat [])).map (·.1)
def ld (g:Gr) (p:Pl) (f:Fr) (x:Int):List Int:=(hM (az g f x (bD p x)).1.1).map (·.1)
def oN (g:Gr) (p:Pl):Nat→Fr→Prop
 |0,f=>(f.pl.length:Int)=g.n
 |m+1,f=>∃x,aA g f x=true∧ld g p f x=cA g p x∧oN g p m (sM g p f x)
theorem q6 {g:Gr} {p:Pl} :∀ {m:Nat} {f f':Fr},f.row=f'.row→f.pl.Perm f'.pl→oN g p m f→oN g p m f'
 |0,f,f',_,hp,h=>by
  have h:(f.pl.length:Int)=g.n:=h
  show (f'.pl.length:Int)=g.n
  rw [← hp.length_eq];exact h
 |m+1,f,f',hr,hp,⟨x,h1,h3,h2⟩=>by
  refine ⟨x,by rw [← vP hr hp];exact h1, ?_,q6 ?_ ?_ h2⟩
  ·simp only [ld,az,hr] at h3 ⊢;exact h3
  ·simp only [sM,az,hr]
  ·exact hp.append_right _
theorem sX {g:Gr} (hc:(b8 g).1=0) {p:Pl} (hp:bu g p):∀ {m:Nat} {f:Fr},uI g f→(f.pl.length:Int)+(m+1:Nat)=g.n→oN g p (m+1) f→∀ {x:Int},aA g f x=true→ld g p f x=cA g p x∧oN g p m (sM g p f x)
 |m,f,hi,hl,⟨y,sK,IN,hcan⟩,x,hR=>by
  have hm:=aD hc
  by_cases hxy:x=y
  ·subst hxy;exact ⟨IN,hcan⟩
  have py:=bN hp (aJ sK).1 (aJ sK).2.1
  have px:=bN hp (aJ hR).1 (aJ hR).2.1
  have i2:=js hm hi sK py
  match m,hl,hcan with
  |0,hl,hcan=>
   exfalso
   have h1:=jt i2.toeW (by show ((f.pl++ [y]).length:Int)=g.n;simp;omega) (x:=x) ⟨(aJ hR).1,(aJ hR).2.1⟩
   have h2:x∈f.pl++ [y]:=h1
   simp [(aJ hR).2.2,hxy] at h2
  |m+1,hl,hcan=>
   obtain ⟨h4,h5,h6,h7,h8⟩:=zH hc hi hxy hR sK px py
   obtain ⟨h9,h3⟩:=sX hc hp i2 (by show (((f.pl++ [y]).length:Nat):Int)+_=_;simp;omega) hcan h5
   refine ⟨?_,y,h4, ?_,q6 h6.symm ?_ h3⟩
   ·unfold ld at h9 ⊢;rw [h7];exact h9
   ·unfold ld at IN ⊢;rw [h8] at IN;exact IN
   show (f.pl++ [y]++ [x]).Perm (f.pl++ [x]++ [y])
   rw [List.append_assoc,List.append_assoc]
   exact List.Perm.append_left _ (List.Perm.swap ..)
theorem sY {g:Gr} {p:Pl} (h:bR g p):∀ {d k:Nat},k+d=g.n.toNat→oN g p d (fK g p k)
 |0,k,hk=>by
  have hn:=aY (aD h.1)
  obtain ⟨_,gh,_⟩:=cO (aD h.1) h.2.1 (k:=k) (by omega) fun j hj=>h.2.2 j (by omega)
  show ((fK g p k).pl.length:Int)=g.n
  rw [gh,List.length_take,bZ h.2.1];omega
 |d+1,k,hk=>⟨au p k,h.2.2 k (by omega),by
   unfold cA
   rw [nc h.2.1 (Nat.le_refl _) (show k<g.n.toNat by omega)]
   rfl,sY h (k:=k+1) (by omega)⟩
theorem yu {g:Gr} (hc:(b8 g).1=0) {p:Pl} (hp:bu g p):∀ {m:Nat} {f:Fr},uI g f→oN g p m f→∀ {i:Nat},i<g.es.length→tl g i∈f.pl→hd g i∉f.pl→∃t∈f.row,t.1=(i:Int)
 |0,f,hi,h,i,hil,_,hh=>by
  have hr:=de (aD hc) hil
  exact absurd (jt hi.toeW h (x:=hd g i) hr) hh
 |m+1,f,hi,⟨x,hR,_,h⟩,i,hil,ht,hh=>by
  have hm:=aD hc
  have px:=bN hp (aJ hR).1 (aJ hR).2.1
  by_cases hx:hd g i=x
  ·obtain ⟨t,h1,h2,_⟩:=uk hm hi hR hil hx
   exact ⟨t,h1,h2⟩
  ·obtain ⟨t,h1,h2⟩:=yu hc hp (js hm hi hR px) h hil (List.mem_append.2 (.inl ht)) (fun h1=>by
    rcases List.mem_append.1 h1 with h1|h1
    ·exact hh h1
    ·exact hx (by simpa using h1))
   obtain ⟨A,X,C,hr,_,_,_,hs⟩:=gV hm hi.toeW hR
   rw [hs] at h1
   simp only [List.mem_append] at h1
   rcases h1 with (h1|h1)|h1
   ·exact ⟨t,by rw [hr];simp [h1],h2⟩
   ·rcases jr (fun i hi=>px.mem_iff.1 hi) h1 with ⟨h3,_⟩|⟨k,h3,h4,h5,_,h6,_⟩
    ·omega
    ·have:k=i:=by omega
     subst this
     exact absurd (h6 ▸ ht) (aJ hR).2.2
   ·exact ⟨t,by rw [hr];simp [h1],h2⟩
def pn (g:Gr) (e:Int):Int:=(g.es.getD e.toNat (0,0)).1
def CD (g:Gr) (e:Int):Int:=(g.es.getD e.toNat (0,0)).2
def nv (g:Gr) (x:Int):Prop:=0≤x∧x<g.n
instance {g:Gr} {x:Int} :Decidable (nv g x):=inferInstanceAs (Decidable (0≤x∧x<g.n))
def kI (g:Gr) (p:Pl) (k:Nat) (W D:List Int):Prop:=∃f,uI g f∧f.pl=D∧W=(hM f.row).map (·.1)∧oN g p k f∧(D.length:Int)+k=g.n∧au p 0∈D
def Cb (g:Gr) (p:Pl) (x:Int):Nat:=((vG g.n.toNat p.ord p.ord.length).getD x.toNat 0).toNat
def fy (g:Gr) (p:Pl):PS:=
 {m:=g.es.length,src:=au p 0,Fq:=au p (g.n.toNat - 1),tl:=pn g,hd:=CD g,ins:=fun x=>if nv g x then cA g p x else [],outs:=fun x=>if nv g x then bD p x else [],DV:=Cb g p,Row:=kI g p,k0:=g.n.toNat - 1}
theorem gX {g:Gr} {p:Pl} {x:Int} (h:nv g x):(fy g p).ins x=cA g p x:=if_pos h
theorem jT {g:Gr} {p:Pl} {x:Int} (h:¬nv g x):(fy g p).ins x= []:=if_neg h
theorem fT {g:Gr} {p:Pl} {x:Int} (h:nv g x):(fy g p).outs x=bD p x:=if_pos h
theorem ju {g:Gr} {p:Pl} {x:Int} (h:¬nv g x):(fy g p).outs x= []:=if_neg h
theorem cx {f:Edge→Int} {es:List Edge} {x e:Int} :e∈aX f es es.length x↔(0≤e∧e<es.length)∧f (es.getD e.toNat (0,0))=x:=by
 refine ⟨gJ,fun ⟨h1,h2⟩=> ?_⟩
 simp only [aX,List.mem_map,List.mem_filter,List.mem_range,decide_eq_true_eq]
 exact ⟨e.toNat,⟨by omega,h2⟩,by simp;omega⟩
section
variable {g:Gr} {p:Pl}
theorem yw (hm:aU g=true) (hp:bu g p) {k:Nat} (hk:k<g.n.toNat):Cb g p (au p k)=k:=by
 have hE:=((yh hm).2 hp).1
 have:=ue hE (p:=k) (k:=p.ord.length) (by rw [bZ hp];exact hk) (Nat.le_refl _)
 unfold Cb
 show ((vG _ _ _).getD (p.ord.getD k 0).toNat 0).toNat=k
 rw [this];simp
theorem uw (h:bR g p) {e:Int} (he:0≤e∧e<g.es.length) {k:Nat} (hk:k<g.n.toNat) (hx:CD g e=au p k):∃j,j<k∧au p j=pn g e:=by
 have hm:=aD h.1
 obtain ⟨hi,gh,_⟩:=cO hm h.2.1 (k:=k) (by omega) fun j hj=>h.2.2 j (by omega)
 obtain ⟨t,h1,h2,h3,_⟩:=uk hm hi (h.2.2 k hk) (i:=e.toNat) (by omega) hx
 have h4:=hi.tail t h1 (by omega)
 rw [h3,gh] at h4
 exact yq (by rw [bZ h.2.1];omega) h4
theorem nq (hm:aU g=true) {f:Fr} (hi:eW g f) {t:It} (ht:t∈hM f.row):(0≤t.1∧t.1<g.es.length)∧t.2.1=pn g t.1∧t.2.2=CD g t.1:=by
 obtain ⟨h1,h2⟩:=iC.1 ht
 rcases hi.it t h1 with h3|h3
 ·omega
 ·exact ⟨⟨h3.1,h3.2.1⟩,h3.2.2.1,h3.2.2.2⟩
theorem Cc {f:Fr} (hi:uI g f):((hM f.row).map (·.1)).Nodup:=by
 refine List.pairwise_map.2 ?_
 have:=hi.once.filter (fun t:It=>decide (0≤t.1))
 refine List.Pairwise.imp_of_mem (fun {s t} hs ht h1=>h1 (iC.1 hs).2) this
theorem Dx (hm:aU g=true) {f:Fr} (hi:uI g f) {x:Int} (hR:aA g f x=true):(ld g p f x).Nodup∧∀e,e∈ld g p f x↔(0≤e∧e<g.es.length)∧CD g e=x:=by
 by_cases hn:bq g x=0
 ·have hno:=qT hm hi.toeW (aJ hR).1 hn
  have e0:ld g p f x= []:=by unfold ld;rw [gK _ hno];rfl
  rw [e0]
  refine ⟨List.nodup_nil,fun e=>⟨fun h=>by (cases h),fun ⟨h1,h2⟩=> ?_⟩⟩
  have:=cx.2 ⟨h1,h2⟩
  have h3:aX (·.2) g.es g.es.length x= []:=List.eq_nil_of_length_eq_zero hn
  rw [h3] at this;cases this
 ·obtain ⟨a,c,e1,ha,hc,hX,hl,_⟩:=uv hm hi.toeW hR hn (bD p x)
  have cl:=Cc hi
  have hmem:∀t∈hM (az g f x (bD p x)).1.1,t∈hM f.row:=fun t ht=>by rw [e1];simp [ht]
  rw [e1,List.map_append,List.map_append,List.nodup_append] at cl
  have LM:(ld g p f x).Nodup:=(List.nodup_append.1 cl.1).2.1
  have hsub:∀e∈ld g p f x,e∈aX (·.2) g.es g.es.length x:=fun e he=>by
   obtain ⟨t,ht,rfl⟩:=List.mem_map.1 he
   obtain ⟨h1,_,h3⟩:=nq hm hi.toeW (hmem t ht)
   exact cx.2 ⟨h1,by rw [← hX t ht,h3];rfl⟩
  have hlen:(aX (·.2) g.es g.es.length x).length=(ld g p f x).length:=by
   unfold ld;rw [List.length_map,hl];rfl
  exact ⟨LM,fun e=>⟨fun he=>cx.1 (hsub e he),fun he=>uj LM hsub hlen e (cx.2 he)⟩⟩
theorem pq (h:bR g p) {k:Nat} (hk:k<g.n.toNat):cA g p (au p k)=ld g p (fK g p k) (au p k):=by
 unfold cA
 rw [nc h.2.1 (Nat.le_refl _) hk];rfl
theorem kJ (h:bR g p) {x:Int} (hx:nv g x):(cA g p x).Nodup∧∀e,e∈cA g p x↔(0≤e∧e<g.es.length)∧CD g e=x:=by
 obtain ⟨k,hk,rfl⟩:=fS h.2.1 hx.1 hx.2
 have hm:=aD h.1
 obtain ⟨hi,_,_⟩:=cO hm h.2.1 (k:=k) (by omega) fun j hj=>h.2.2 j (by omega)
 rw [pq h hk]
 exact Dx hm hi (h.2.2 k hk)
theorem jv (h:bR g p) {x:Int} (hx:nv g x):(cA g p x).length=bq g x:=by
 obtain ⟨h1,h2⟩:=kJ h hx
 refine Nat.le_antisymm ?_ ?_
 ·exact eH h1 fun e he=>cx.2 ((h2 e).1 he)
 ·exact eH cM fun e he=>(h2 e).2 (cx.1 he)
theorem dY (h:bR g p) (hI:jZ g=true) {x:Int} (hx:nv g x):bD p x= []↔x=au p (g.n.toNat - 1):=by
 have hm:=aD h.1
 have hn:=aY hm
 constructor
 ·intro h1
  have hs:=(nZ h).1
  have hsi:=aK h.2.1 (k:=g.n.toNat - 1) (by omega)
  have b1:=k6 (f:=(·.1)) (g:=g) (y:=x) |>.2 ⟨hx,(ni h.2.1 hx.1 hx.2).2 h1⟩
  have b2:=k6 (f:=(·.1)) (g:=g) (y:=au p (g.n.toNat - 1)) |>.2 ⟨hsi,(ni h.2.1 hsi.1 hsi.2).2 hs⟩
  have hl:(bG (·.1) g).length=1:=by
   unfold jZ at hI
   simp only [Bool.and_eq_true,decide_eq_true_eq] at hI
   exact hI.2
  obtain ⟨y,hy⟩:=List.length_eq_one_iff.1 hl
  rw [hy,List.mem_singleton] at b1 b2
  rw [b1,b2]
 ·rintro rfl;exact (nZ h).1
theorem sZ (h:bR g p) (hI:jZ g=true) {f:Fr} (hi:uI g f):∀ {d k:Nat},k+d=g.n.toNat→k<g.n.toNat→au p k∉f.pl→au p (g.n.toNat - 1)∉f.pl
 |0,k,h1,h2,_=>by omega
 |d+1,k,h1,h2,h3=>by
  have hm:=aD h.1
  have hx:=aK h.2.1 h2
  by_cases hs:bD p (au p k)= []
  ·rw [(dY h hI hx).1 hs] at h3;exact h3
  ·obtain ⟨e,u,he⟩:=ig hs
   have rH:e∈bt g (au p k):=(bN h.2.1 hx.1 hx.2).mem_iff.1 (by rw [he];simp)
   obtain ⟨mH,uG⟩:=cx.1 rH
   have hh:=de hm (i:=e.toNat) (by omega)
   obtain ⟨k',hk',e'⟩:=fS h.2.1 hh.1 hh.2
   obtain ⟨j,hj,e2⟩:=uw h mH hk' e'.symm
   have:j=k:=dA h.2.1 (by omega) h2 (e2.trans uG)
   refine sZ h hI hi (d:=g.n.toNat - k') (k:=k') (by omega) hk' fun h4=> ?_
   have:=hi.low e.toNat (by omega) (e' ▸ h4)
   have h5:tl g e.toNat=au p k:=uG
   exact h3 (h5 ▸ this)
 termination_by d=>d
theorem kI.nd {k:Nat} {W D:List Int} (h:kI g p k W D):W.Nodup:=by
 obtain ⟨f,hi,_,rfl,_⟩:=h;exact Cc hi
theorem kI.mem (h:bR g p) {k:Nat} {W D:List Int} (hr:kI g p k W D) (e:Int):e∈W↔(0≤e∧e<g.es.length)∧pn g e∈D∧CD g e∉D:=by
 have hm:=aD h.1
 obtain ⟨f,hi,rfl,rfl,hc,_⟩:=hr
 constructor
 ·intro he
  obtain ⟨t,ht,rfl⟩:=List.mem_map.1 he
  obtain ⟨h1,h2,h3⟩:=nq hm hi.toeW ht
  obtain ⟨h4,h5⟩:=iC.1 ht
  exact ⟨h1,h2 ▸ hi.tail t h4 h5,h3 ▸ hi.head t h4 h5⟩
 ·rintro ⟨h1,h2,h3⟩
  obtain ⟨t,h4,h5⟩:=yu h.1 h.2.1 hi hc (i:=e.toNat) (by omega) h2 h3
  exact List.mem_map.2 ⟨t,iC.2 ⟨h4,by omega⟩,by omega⟩
theorem kI.next (h:bR g p) {k:Nat} {W D:List Int} (hr:kI g p (k+1) W D):∃x A C,W=A++(fy g p).ins x++C∧(fy g p).ins x≠ []:=by
 have hm:=aD h.1
 obtain ⟨f,hi,rfl,rfl,⟨x,hR,hg,_⟩,_,hs⟩:=hr
 obtain ⟨x0,x1,x2⟩:=aJ hR
 have hx:nv g x:=⟨x0,x1⟩
 have hn:bq g x≠0:=fun h0=>by
  have:=k5 h.1 (x:=x) (y:=au p 0) hx (hi.Dr _ hs) h0 (fO h)
  exact x2 (this ▸ hs)
 obtain ⟨a,c,e1,_,_,_,hl,_⟩:=uv hm hi.toeW hR hn (bD p x)
 refine ⟨x,a.map (·.1),c.map (·.1), ?_, ?_⟩
 ·rw [gX hx, ← hg,e1,List.map_append,List.map_append];rfl
 ·rw [gX hx]
  intro h0
  have:=jv h hx
  rw [h0] at this
  exact hn this.symm
theorem kI.step (h:bR g p) {k:Nat} {W D A C:List Int} {x:Int} (hr:kI g p k W D) (hW:W=A++(fy g p).ins x++C) (hI:(fy g p).ins x≠ []):∃k',k=k'+1∧kI g p k' (A++(fy g p).outs x++C) (D++ [x]):=by
 have hm:=aD h.1
 have hx:nv g x:=Decidable.byContradiction fun h0=>hI (jT h0)
 have cl:=hr.nd
 have hmem:=kI.mem h hr
 rw [gX hx] at hW hI
 rw [fT hx]
 obtain ⟨i1,i2⟩:=kJ h hx
 obtain ⟨e0,u0,Dj⟩:=ig hI
 have LN:x∉D:=by
  have h1:=(i2 e0).1 (by rw [Dj];simp)
  have h2:=(hmem e0).1 (by rw [hW,Dj];simp)
  rw [h1.2] at h2;exact h2.2.2
 obtain ⟨f,hi,rfl,Nn,hc,hD,hs⟩:=hr
 rw [Nn] at hW cl
 obtain ⟨l1,c,e1,e2,e3⟩:=List.map_eq_append_iff.1 hW
 obtain ⟨a,X,e4,e5,e6⟩:=List.map_eq_append_iff.1 e2
 have hrow:hM f.row=a++X++c:=by rw [e1,e4]
 rw [hrow,List.map_append,List.map_append,e5,e6,e3] at cl
 have hit:∀t∈a++X++c,(0≤t.1∧t.1<g.es.length)∧t.2.1=pn g t.1∧t.2.2=CD g t.1:=fun t ht=>nq hm hi.toeW (by rw [hrow];exact ht)
 have hX:uu x X:=fun t ht=>by
  have h1:t.1∈cA g p x:=by rw [← e6];exact List.mem_map_of_mem ht
  rw [(hit t (by simp [ht])).2.2,((i2 _).1 h1).2]
 have hin:∀t∈a++X++c,t.2.2=x→t.1∈cA g p x:=fun t ht e=>by
  obtain ⟨h1,_,h3⟩:=hit t ht
  exact (i2 _).2 ⟨h1,by rw [← h3,e]⟩
 have ha:fk x a:=fun t ht e=>by
  have h1:=hin t (by simp [ht]) e
  have h2:t.1∈A:=by rw [← e5];exact List.mem_map_of_mem ht
  exact (List.nodup_append.1 (List.nodup_append.1 cl).1).2.2 _ h2 _ h1 rfl
 have LP:fk x c:=fun t ht e=>by
  have h1:=hin t (by simp [ht]) e
  have h2:t.1∈C:=by rw [← e3];exact List.mem_map_of_mem ht
  exact (List.nodup_append.1 cl).2.2 _ (List.mem_append.2 (.inr h1)) _ h2 rfl
 have Kz:X.length=bq g x:=by rw [← jv h hx, ← e6,List.length_map]
 have nX:X≠ []:=fun h0=>hI (by rw [← e6,h0];rfl)
 have hR:=Ca hm hi.toeW hx.1 hx.2 LN hrow ha LP hX nX Kz
 have hn:bq g x≠0:=fun h0=>nX (List.eq_nil_of_length_eq_zero (Kz.trans h0))
 have px:=bN h.2.1 hx.1 hx.2
 cases k with
 |zero=>exact absurd (jt hi.toeW (by omega) hx) LN
 |succ k=>
  refine ⟨k,rfl,sM g p f x,js hm hi hR px,rfl, ?_,(sX h.1 h.2.1 hi (by omega) hc hR).2, ?_,List.mem_append.2 (.inl hs)⟩
  ·have:=Dw hm hi.toeW hR hn hrow ha LP hX nX (bD p x)
   show _=(hM (az g f x (bD p x)).2.row).map (·.1)
   rw [this,List.map_append,List.map_append,e5,e3,k8 (fun i hi=>by
    have:=cx.1 (px.mem_iff.1 hi);exact this.1.1),List.map_map]
   have e7:((fun t:It=>t.1) ∘ fh g x)=id:=rfl
   rw [e7,List.map_id]
  ·show (((f.pl++ [x]).length:Nat):Int)+_=_
   rw [List.length_append,List.length_singleton];omega
theorem zP (h:bR g p):kI g p (g.n.toNat - 1) (bD p (au p 0)) [au p 0]:=by
 have hm:=aD h.1
 have hn:=aY hm
 have hx:=aK h.2.1 (k:=0) (by omega)
 obtain ⟨hi,gh,_⟩:=cO hm h.2.1 (k:=1) (by omega) fun j hj=>h.2.2 j (by omega)
 have px:=bN h.2.1 hx.1 hx.2
 have hno:fk (au p 0) (fK g p 0).row:=fun t ht=>by cases ht
 have hf:fK g p 1=⟨aH g (au p 0) (bD p (au p 0)), [au p 0]⟩:=by
  show (az g (fK g p 0) (au p 0) _).2=_
  rw [gK _ hno]
  show (⟨_++ [], []++ [_]⟩:Fr)=_
  simp
 refine ⟨fK g p 1,hi,by rw [hf], ?_,sY h (by omega),by simp;omega,by simp⟩
 rw [hf]
 show _=(hM (aH g (au p 0) (bD p (au p 0)))).map (·.1)
 rw [k8 (fun i hi=>(cx.1 (px.mem_iff.1 hi)).1.1),List.map_map]
 have e7:((fun t:It=>t.1) ∘ fh g (au p 0))=id:=rfl
 rw [e7,List.map_id]
theorem Cd (h:bR g p) (hI:jZ g=true):(fy g p).Ok:=by
 have hm:=aD h.1
 have hn:=aY hm
 have h0:nv g (au p 0):=aK h.2.1 (by omega)
 exact {
  fU:=fun x e=>by
   show _↔(0≤e∧e<g.es.length)∧pn g e=x
   by_cases hx:nv g x
   ·rw [fT hx,(bN h.2.1 hx.1 hx.2).mem_iff];exact cx
   ·rw [ju hx]
    refine ⟨fun h=>by (cases h),fun ⟨h1,h2⟩=>absurd ?_ hx⟩
    rw [← h2];exact bX hm (i:=e.toNat) (by omega)
  ec:=fun x e=>by
   show _↔(0≤e∧e<g.es.length)∧CD g e=x
   by_cases hx:nv g x
   ·rw [gX hx];exact (kJ h hx).2 e
   ·rw [jT hx]
    refine ⟨fun h=>by (cases h),fun ⟨h1,h2⟩=>absurd ?_ hx⟩
    rw [← h2];exact de hm (i:=e.toNat) (by omega)
  mz:=fun x=>by
   by_cases hx:nv g x
   ·rw [fT hx,(bN h.2.1 hx.1 hx.2).nodup_iff];exact cM
   ·rw [ju hx];exact List.nodup_nil
  wN:=fun x=>by
   by_cases hx:nv g x
   ·rw [gX hx];exact (kJ h hx).1
   ·rw [jT hx];exact List.nodup_nil
  pI:=fun e he=>by
   have he:0≤e∧e<g.es.length:=he
   have hh:=de hm (i:=e.toNat) (by omega)
   obtain ⟨k,hk,e1⟩:=fS h.2.1 hh.1 hh.2
   obtain ⟨j,hj,e2⟩:=uw h he hk e1.symm
   show Cb g p (pn g e)<Cb g p (CD g e)
   have e3:CD g e=au p k:=e1.symm
   rw [← e2,e3,yw hm h.2.1 hk,yw hm h.2.1 (by omega)]
   exact hj
  CF:=by
   show kI g p (g.n.toNat - 1) ((fy g p).outs (au p 0)) [au p 0]
   rw [fT h0];exact zP h
  ta:=fun hr=>kI.nd hr
  kR:=fun hr e=>kI.mem h hr e
  mA:=fun hr=>kI.next h hr
  mB:=fun hr h1 h2=>kI.step h hr h1 h2
  oX:=fun {W D} hr e he=>by
   obtain ⟨f,hi,rfl,_,_,hD,_⟩:=hr
   exact jt hi.toeW (by omega) (de hm (i:=e.toNat) (by have:=he.1;have:=he.2;have:e<g.es.length:=he.2;omega))
  tc:=fun {k W D} hr=>by obtain ⟨f,hi,rfl,_,_,_,hs⟩:=hr;exact hs
  td:=fun {k W D} hr hs=>by
   obtain ⟨f,hi,rfl,_,_,hD,_⟩:=hr
   refine Decidable.byContradiction fun hk=> ?_
   have:∃k',k'<g.n.toNat∧au p k'∉f.pl:=by
    refine Decidable.byContradiction fun hall=> ?_
    have hall:∀k',k'<g.n.toNat→au p k'∈f.pl:=fun k' hk'=>Decidable.byContradiction fun h1=>hall ⟨k',hk',h1⟩
    have:=eH (l:=p.ord) (m:=f.pl) (qV h.2.1) fun x hx=>by
     have hx:=dJ.1 (h.2.1.2.1.mem_iff.1 hx)
     obtain ⟨k',h1,rfl⟩:=fS h.2.1 hx.1 (by omega)
     exact hall k' h1
    rw [bZ h.2.1] at this
    omega
   obtain ⟨k',h1,h2⟩:=this
   exact sZ h hI hi (d:=g.n.toNat - k') (by omega) h1 h2 hs
  tf:=by
   show (fy g p).ins (au p 0)= []
   rw [gX h0]
   have:=jv h h0
   rw [fO h] at this
   exact List.eq_nil_of_length_eq_zero this
  tg:=fun x hx=>by
   have BW:nv g x:=Decidable.byContradiction fun h0=>hx (jT h0)
   rw [fT BW]
   exact dY h hI BW}
end
end Go.Ab
end
section
namespace Go.Ab
open Go.Proofs
set_option maxRecDepth 10000
set_option linter.unusedSectionVars false
section
variable (g:Gr) (p:Pl)
def cK:Nat→Nat
 |0=>1
 |k+1=>cK k+((bD p (au p k)).length - 1)
def EO (e:Int):Nat:=(bD p (pn g e)).findIdx (fun i=>decide (i=e))
def dZ (x:Int):Int:=(cA g p x).headD 0
def lI (x:Int):Int:=(cA g p x).getLastD 0
def LK:Nat→Int→Int
 |0,_=>0
 |k+1,e=>if pn g e=au p k then (if EO g p e=0 then (if k=0 then 0 else LK k (dZ g p (au p k))) else (cK p k:Int)+EO g p e - 1) else LK k e
def RK (r:Int):Nat→Int→Int
 |0,_=>0
 |k+1,e=>if pn g e=au p k then (if EO g p e+1<(bD p (au p k)).length then (cK p k:Int)+EO g p e else (if k=0 then r else RK r k (lI g p (au p k)))) else RK r k e
def gY:Nat→List Int
 |0=> [au p 0]
 |k+1=>gY k++List.replicate ((bD p (au p k)).length - 1) (au p k)
end
section
variable {g:Gr} {p:Pl}
theorem ga:∀ {k:Nat},(gY p k).length=cK p k
 |0=>rfl
 |k+1=>by rw [gY,List.length_append,List.length_replicate,ga,cK]
theorem uz:∀ {k:Nat},0<cK p k
 |0=>by simp [cK]
 |k+1=>by rw [cK];have:= @uz k;omega
theorem pE {k:Nat} :∀ {d:Nat},cK p k≤cK p (k+d)
 |0=>Nat.le_refl _
 |d+1=>by
  have:= @pE k d
  show _≤cK p (k+d+1)
  rw [cK];omega
theorem s4 {k:Nat} {f:Nat} (hf:f<cK p k):∀ {d:Nat},(gY p (k+d)).getD f 0=(gY p k).getD f 0
 |0=>rfl
 |d+1=>by
  show (gY p (k+d+1)).getD f 0=_
  have:=pE (p:=p) (k:=k) (d:=d)
  rw [gY,List.getD_eq_getElem?_getD,List.getElem?_append_left (by rw [ga];omega), ← List.getD_eq_getElem?_getD,s4 hf]
theorem Ce {k f:Nat} (h1:cK p k≤f) (h2:f<cK p (k+1)):(gY p (k+1)).getD f 0=au p k:=by
 rw [gY,List.getD_eq_getElem?_getD,List.getElem?_append_right (by rw [ga];exact h1),List.getElem?_replicate,ga,if_pos (by rw [cK] at h2;omega)]
 rfl
variable (h:bR g p)
include h
theorem mq {k:Nat} (hk:k<g.n.toNat) {u v:List Int} {e:Int} (he:bD p (au p k)=u++e::v):pn g e=au p k∧EO g p e=u.length:=by
 have hx:=aK h.2.1 hk
 have px:=bN h.2.1 hx.1 hx.2
 have h1:=(cx.1 (px.mem_iff.1 (show e∈bD p (au p k) by rw [he];simp))).2
 have h1:pn g e=au p k:=h1
 refine ⟨h1, ?_⟩
 have cl:(bD p (au p k)).Nodup:=px.nodup_iff.2 cM
 unfold EO
 rw [h1,he]
 rw [he,List.nodup_append] at cl
 rw [List.findIdx_append]
 have h2:u.findIdx (fun i=>decide (i=e))=u.length:=by
  rw [List.findIdx_eq_length]
  intro i hi
  exact decide_eq_false fun e2=>cl.2.2 i hi e (by simp) e2
 rw [h2,if_neg (by omega)]
 simp [List.findIdx_cons]
theorem yx {e:Int} {k:Nat} (hk:k<g.n.toNat) (he:pn g e=au p k):∀ {d:Nat},k+1+d≤g.n.toNat→LK g p (k+1+d) e=LK g p (k+1) e
 |0,_=>rfl
 |d+1,hd=>by
  show LK g p (k+1+d+1) e=_
  rw [LK,if_neg (fun e2=>by have:=dA h.2.1 hk (show k+1+d<g.n.toNat by omega) (he.symm.trans e2);omega),yx hk he (by omega)]
theorem yy {r:Int} {e:Int} {k:Nat} (hk:k<g.n.toNat) (he:pn g e=au p k):∀ {d:Nat},k+1+d≤g.n.toNat→RK g p r (k+1+d) e=RK g p r (k+1) e
 |0,_=>rfl
 |d+1,hd=>by
  show RK g p r (k+1+d+1) e=_
  rw [RK,if_neg (fun e2=>by have:=dA h.2.1 hk (show k+1+d<g.n.toNat by omega) (he.symm.trans e2);omega),yy hk he (by omega)]
theorem kK {e:Int} {k:Nat} (hk:k<g.n.toNat) (he:pn g e=au p k) {j:Nat} (h1:k+1≤j) (h2:j≤g.n.toNat):LK g p j e=LK g p (k+1) e:=by
 obtain ⟨d,rfl⟩:=Nat.exists_eq_add_of_le h1
 exact yx h hk he h2
theorem gl {r:Int} {e:Int} {k:Nat} (hk:k<g.n.toNat) (he:pn g e=au p k) {j:Nat} (h1:k+1≤j) (h2:j≤g.n.toNat):RK g p r j e=RK g p r (k+1) e:=by
 obtain ⟨d,rfl⟩:=Nat.exists_eq_add_of_le h1
 exact yy h hk he h2
theorem uA {k:Nat} (hk:k<g.n.toNat) {v:List Int} {e:Int} (he:bD p (au p k)=e::v) {j:Nat} (h1:k+1≤j) (h2:j≤g.n.toNat):LK g p j e=if k=0 then 0 else LK g p k (dZ g p (au p k)):=by
 obtain ⟨a,b⟩:=mq h hk (u:= []) he
 rw [kK h hk a h1 h2,LK,if_pos a,if_pos (show EO g p e=0 from b)]
theorem yz {k:Nat} (hk:k<g.n.toNat) {u v:List Int} {e:Int} (he:bD p (au p k)=u++e::v) (hu:u≠ []) {j:Nat} (h1:k+1≤j) (h2:j≤g.n.toNat):LK g p j e=(cK p k:Int)+u.length - 1:=by
 obtain ⟨a,b⟩:=mq h hk he
 have:=List.length_pos_iff.2 hu
 rw [kK h hk a h1 h2,LK,if_pos a,if_neg (by omega),b]
theorem q7 {r:Int} {k:Nat} (hk:k<g.n.toNat) {u:List Int} {e:Int} (he:bD p (au p k)=u++ [e]) {j:Nat} (h1:k+1≤j) (h2:j≤g.n.toNat):RK g p r j e=if k=0 then r else RK g p r k (lI g p (au p k)):=by
 obtain ⟨a,b⟩:=mq h hk he
 rw [gl h hk a h1 h2,RK,if_pos a,if_neg (by rw [b,he];simp)]
theorem iD {r:Int} {k:Nat} (hk:k<g.n.toNat) {u v:List Int} {e c:Int} (he:bD p (au p k)=u++e::c::v) {j:Nat} (h1:k+1≤j) (h2:j≤g.n.toNat):RK g p r j e=(cK p k:Int)+u.length:=by
 obtain ⟨a,b⟩:=mq h hk he
 rw [gl h hk a h1 h2,RK,if_pos a,if_pos (by rw [b,he];simp),b]
theorem n0 {x:Int} {a:Int} {u:List Int} (hu:cA g p x=a::u):dZ g p x=a:=by unfold dZ;rw [hu];rfl
theorem kL {x:Int} {a:Int} {u:List Int} (hu:cA g p x=u++ [a]):lI g p x=a:=by unfold lI;rw [hu];simp
theorem yA {k:Nat} (hk:k<g.n.toNat) (hI:cA g p (au p k)≠ []):k≠0:=fun h0=>by
 subst h0
 have:=jv h (aK h.2.1 hk)
 rw [fO h] at this
 exact hI (List.eq_nil_of_length_eq_zero this)
theorem v8 {k:Nat} (hk:k<g.n.toNat) {a:Int} (ha:a∈cA g p (au p k)):∃j,j<k∧pn g a=au p j:=by
 obtain ⟨h1,h2⟩:=((kJ h (aK h.2.1 hk)).2 a).1 ha
 obtain ⟨j,h3,h4⟩:=uw h h1 hk h2
 exact ⟨j,h3,h4.symm⟩
def WK (g:Gr) (p:Pl) (k:Nat):List Int:=(hM (fK g p k).row).map (·.1)
theorem q8 (hn:0<g.n.toNat):WK g p 1=bD p (au p 0):=by
 have hx:=aK h.2.1 hn
 have px:=bN h.2.1 hx.1 hx.2
 have hno:fk (au p 0) (fK g p 0).row:=fun t ht=>by cases ht
 have hf:(fK g p 1).row=aH g (au p 0) (bD p (au p 0)):=by
  show (az g (fK g p 0) (au p 0) _).2.row=_
  rw [gK _ hno]
  show _++ []=_
  simp
 unfold WK
 rw [hf,k8 (fun i hi=>(cx.1 (px.mem_iff.1 hi)).1.1),List.map_map]
 have e7:((fun t:It=>t.1) ∘ fh g (au p 0))=id:=rfl
 rw [e7,List.map_id]
theorem k9 {k:Nat} (h0:k≠0) (hk:k<g.n.toNat):∃A C,WK g p k=A++cA g p (au p k)++C∧cA g p (au p k)≠ []∧WK g p (k+1)=A++bD p (au p k)++C:=by
 have hm:=aD h.1
 obtain ⟨hi,gh,_⟩:=cO hm h.2.1 (k:=k) (by omega) fun j hj=>h.2.2 j (by omega)
 have hR:=h.2.2 k hk
 have hx:=aK h.2.1 hk
 have px:=bN h.2.1 hx.1 hx.2
 have hn:bq g (au p k)≠0:=fun hz=>by
  have No:=aK h.2.1 (show 0<g.n.toNat by omega)
  have:=k5 h.1 hx No hz (fO h)
  exact h0 (dA h.2.1 hk (by omega) this)
 obtain ⟨a,c,e1,_,_,_,hl,e2⟩:=uv hm hi.toeW hR hn (bD p (au p k))
 refine ⟨a.map (·.1),c.map (·.1), ?_, ?_, ?_⟩
 ·rw [pq h hk];unfold WK;rw [e1,List.map_append,List.map_append];rfl
 ·intro h1
  have:=jv h hx
  rw [h1] at this
  exact hn this.symm
 ·unfold WK
  show (hM (az g (fK g p k) (au p k) _).2.row).map (·.1)=_
  rw [e2,List.map_append,List.map_append,k8 (fun i hi=>(cx.1 (px.mem_iff.1 hi)).1.1),List.map_map]
  have e7:((fun t:It=>t.1) ∘ fh g (au p k))=id:=rfl
  rw [e7,List.map_id]
theorem pF {k:Nat} (hk:k≤g.n.toNat) {a:Int} (ha:a∈WK g p k):∃j,j<k∧pn g a=au p j:=by
 have hm:=aD h.1
 obtain ⟨hi,gh,_⟩:=cO hm h.2.1 (k:=k) (by omega) fun j hj=>h.2.2 j (by omega)
 obtain ⟨t,ht,rfl⟩:=List.mem_map.1 ha
 obtain ⟨h1,h2,_⟩:=nq hm hi.toeW ht
 obtain ⟨h4,h5⟩:=iC.1 ht
 have:=hi.tail t h4 h5
 rw [gh,h2] at this
 obtain ⟨j,hj,e⟩:=yq (by rw [bZ h.2.1];omega) this
 exact ⟨j,hj,e.symm⟩
theorem yB {r:Int} {k:Nat} (hk:k<g.n.toNat) {j:Nat} (h1:k+1≤j) (h2:j≤g.n.toNat):gL (LK g p j) (RK g p r j) (if k=0 then 0 else LK g p k (dZ g p (au p k))) (bD p (au p k)):=by
 refine pL (fun u a b v e=> ?_) fun a u e=>uA h hk e h1 h2
 rw [iD h hk e h1 h2,yz h hk (u:=u++ [a]) (v:=v) (e:=b) (by rw [e];simp) (by simp) h1 h2]
 simp;omega
theorem yC {r:Int} {k:Nat} (hk:k<g.n.toNat) {j:Nat} (h1:k+1≤j) (h2:j≤g.n.toNat) (hO:bD p (au p k)≠ []) (f:Int):iP (RK g p r j) f (bD p (au p k))=if k=0 then r else RK g p r k (lI g p (au p k)):=by
 obtain ⟨v,b,hv⟩:=dK hO
 rw [hv,iQ,q7 h hk hv h1 h2]
theorem kM {L R L' R':Int→Int} :∀ {W:List Int} {f:Int},(∀a∈W,L a=L' a∧R a=R' a)→(gL L R f W↔gL L' R' f W)
 | [],_,_=>Iff.rfl
 |a::W,f,hh=>by
  have h1:=hh a (List.mem_cons_self ..)
  simp only [gL,h1.1,h1.2,kM (W:=W) fun b hb=>hh b (List.mem_cons_of_mem _ hb)]
theorem q9 {R R':Int→Int} :∀ {W:List Int} {f:Int},(∀a∈W,R a=R' a)→iP R f W=iP R' f W
 | [],_,_=>rfl
 |a::W,f,hh=>by
  simp only [iP,hh a (List.mem_cons_self ..),q9 (W:=W) fun b hb=>hh b (List.mem_cons_of_mem _ hb)]
theorem xC {r:Int} (hI:jZ g=true):∀ {k:Nat},1≤k→k<g.n.toNat→WK g p k≠ []→gL (LK g p k) (RK g p r k) 0 (WK g p k)∧iP (RK g p r k) 0 (WK g p k)=r
 |0,h1,_,_=>by omega
 |k+1,_,hk,hW=>by
  by_cases h0:k=0
  ·subst h0
   rw [q8 h (by omega)] at hW ⊢
   have a:=yB (r:=r) h (k:=0) (by omega) (j:=1) (Nat.le_refl _) (by omega)
   have b:=yC (r:=r) h (k:=0) (by omega) (j:=1) (Nat.le_refl _) (by omega) hW 0
   rw [if_pos rfl] at a b
   exact ⟨a,b⟩
  ·obtain ⟨A,C,e1,hne,e2⟩:=k9 h h0 (show k<g.n.toNat by omega)
   obtain ⟨l1,l2⟩:=xC hI (k:=k) (by omega) (by omega) (by rw [e1];simp [hne])
   have hO:bD p (au p k)≠ []:=fun h1=>by
    have:=(dY h hI (aK h.2.1 (show k<g.n.toNat by omega))).1 h1
    have:=dA h.2.1 (show k<g.n.toNat by omega) (by omega) this
    omega
   have yD:∀a∈WK g p k,LK g p (k+1) a=LK g p k a∧RK g p r (k+1) a=RK g p r k a:=fun a ha=>by
    obtain ⟨j,hj,e⟩:=pF h (by omega) ha
    exact ⟨by rw [kK h (by omega) e (j:=k+1) (by omega) (by omega),kK h (by omega) e (j:=k) (by omega) (by omega)],by rw [gl h (by omega) e (j:=k+1) (by omega) (by omega),gl h (by omega) e (j:=k) (by omega) (by omega)]⟩
   rw [← kM h yD] at l1
   rw [← q9 h fun a ha=>(yD a ha).2] at l2
   rw [e1] at l1 l2 yD
   rw [e2]
   obtain ⟨a0,u0,CI⟩:=ig hne
   obtain ⟨u,a,hu⟩:=dK hne
   obtain ⟨l3,l5⟩:=cB.1 l1
   obtain ⟨l4,l6⟩:=cB.1 l3
   have Np:LK g p (k+1) a0=iP (RK g p r (k+1)) 0 A:=by rw [CI] at l6;exact l6.1
   have LQ:∀f,iP (RK g p r (k+1)) f (cA g p (au p k))=RK g p r k (lI g p (au p k)):=fun f=>by
    rw [kL h hu,hu,iQ,(yD a (by rw [hu];simp)).2]
   have hlk:=yB (r:=r) h (k:=k) (by omega) (j:=k+1) (Nat.le_refl _) (by omega)
   have KQ:=yC (r:=r) h (k:=k) (by omega) (j:=k+1) (Nat.le_refl _) (by omega) hO
   rw [if_neg h0] at hlk KQ
   rw [n0 h CI, ← (yD a0 (by rw [CI];simp)).1,Np] at hlk
   refine ⟨?_, ?_⟩
   ·rw [cB,cB,cE,KQ]
    rw [cE,LQ] at l5
    exact ⟨⟨l4,hlk⟩,l5⟩
   ·rw [cE,cE,KQ]
    rw [cE,cE,LQ] at l2
    exact l2
theorem mu (hI:jZ g=true) {r:Int} (hr:r<0∨cK p g.n.toNat≤r):(fy g p).e8 (LK g p g.n.toNat) (RK g p r g.n.toNat) 0 r (fun f=>(gY p g.n.toNat).getD f.toNat 0):=by
 have hm:=aD h.1
 have hn:=aY hm
 have Dk:∀ {x:Int} {l:List Int},(fy g p).outs x=l→l≠ []→∃k,k<g.n.toNat∧au p k=x∧bD p (au p k)=l:=fun {x l} h1 h2=>by
  by_cases hx:nv g x
  ·obtain ⟨k,hk,rfl⟩:=fS h.2.1 hx.1 hx.2
   exact ⟨k,hk,rfl,by rw [← h1,fT hx]⟩
  ·rw [ju hx] at h1;exact absurd h1.symm h2
 have KR:∀ {x:Int} {l:List Int},(fy g p).ins x=l→l≠ []→∃k,k<g.n.toNat∧au p k=x∧cA g p (au p k)=l:=fun {x l} h1 h2=>by
  by_cases hx:nv g x
  ·obtain ⟨k,hk,rfl⟩:=fS h.2.1 hx.1 hx.2
   exact ⟨k,hk,rfl,by rw [← h1,gX hx]⟩
  ·rw [jT hx] at h1;exact absurd h1.symm h2
 have h0:(fy g p).src=au p 0:=rfl
 have FM:∀k,0<cK p k:=fun k=>uz
 exact {
  ne:=by have:=FM g.n.toNat;omega
  e9:=fun {x u a b v} e=>by
   obtain ⟨k,hk,_,e2⟩:=Dk e (by simp)
   rw [iD h hk e2 (by omega) (Nat.le_refl _),yz h hk (u:=u++ [a]) (v:=v) (e:=b) (by rw [e2];simp) (by simp) (by omega) (Nat.le_refl _)]
   simp;omega
  nE:=fun {x u a b v} e=>by
   obtain ⟨k,hk,_,e2⟩:=KR e (by simp)
   have uY:=yA h hk (by rw [e2];simp)
   obtain ⟨A,C,e1,hne,_⟩:=k9 h uY hk
   have l1:=(xC (r:=r) h hI (k:=k) (by omega) hk (by rw [e1];simp [hne])).1
   have yD:∀a∈WK g p k,LK g p g.n.toNat a=LK g p k a∧RK g p r g.n.toNat a=RK g p r k a:=fun a ha=>by
    obtain ⟨j,hj,e⟩:=pF h (by omega) ha
    exact ⟨by rw [kK h (by omega) e (j:=g.n.toNat) (by omega) (by omega),kK h (by omega) e (j:=k) (by omega) (by omega)],by rw [gl h (by omega) e (j:=g.n.toNat) (by omega) (by omega),gl h (by omega) e (j:=k) (by omega) (by omega)]⟩
   rw [← kM h yD,e1,e2,show A++(u++a::b::v)++C=(A++u)++a::b::(v++C) by simp] at l1
   exact Ai l1
  fst:=fun {x a u b v} e1 e2=>by
   obtain ⟨k,hk,hx,e3⟩:=Dk e2 (by simp)
   have e4:cA g p (au p k)=a::u:=by
    have BW:nv g x:=by rw [← hx];exact aK h.2.1 hk
    rw [hx, ← gX BW];exact e1
   have uY:=yA h hk (by rw [e4];simp)
   obtain ⟨j,hj,et⟩:=v8 h hk (a:=a) (by rw [e4];simp)
   rw [uA h hk e3 (by omega) (Nat.le_refl _),if_neg uY,n0 h e4,kK h (by omega) et (j:=g.n.toNat) (by omega) (Nat.le_refl _),kK h (by omega) et (j:=k) (by omega) (by omega)]
  Ag:=fun {x a u b v} e1 e2=>by
   obtain ⟨k,hk,hx,e3⟩:=Dk e2 (by simp)
   have e4:cA g p (au p k)=u++ [a]:=by
    have BW:nv g x:=by rw [← hx];exact aK h.2.1 hk
    rw [hx, ← gX BW];exact e1
   have uY:=yA h hk (by rw [e4];simp)
   obtain ⟨j,hj,et⟩:=v8 h hk (a:=a) (by rw [e4];simp)
   rw [q7 h hk e3 (by omega) (Nat.le_refl _),if_neg uY,kL h e4,gl h (by omega) et (j:=g.n.toNat) (by omega) (Nat.le_refl _),gl h (by omega) et (j:=k) (by omega) (by omega)]
  s0:=fun {b v} e=>by
   obtain ⟨k,hk,hx,e3⟩:=Dk e (by simp)
   have:k=0:=dA h.2.1 hk (by omega) hx
   rw [uA h hk e3 (by omega) (Nat.le_refl _),if_pos this]
  s1:=fun {b v} e=>by
   obtain ⟨k,hk,hx,e3⟩:=Dk e (by simp)
   have:k=0:=dA h.2.1 hk (by omega) hx
   rw [q7 h hk e3 (by omega) (Nat.le_refl _),if_pos this]
  new:=fun {x u a b v} e=>by
   obtain ⟨k,hk,hx,e3⟩:=Dk e (by simp)
   have hR:=iD (r:=r) h hk e3 (j:=g.n.toNat) (by omega) (Nat.le_refl _)
   have hl:(bD p (au p k)).length=u.length+(v.length+2):=by rw [e3];simp
   have DN:cK p (k+1)=cK p k+((bD p (au p k)).length - 1):=rfl
   obtain ⟨d,hd⟩:=Nat.exists_eq_add_of_le (show k+1≤g.n.toNat by omega)
   have hmo:=pE (p:=p) (k:=k+1) (d:=d)
   rw [← hd] at hmo
   have:=FM k
   refine ⟨?_,by omega,by omega⟩
   show (gY p g.n.toNat).getD (RK g p r g.n.toNat a).toNat 0=x
   rw [hR,show ((cK p k:Int)+(u.length:Int)).toNat=cK p k+u.length by omega,hd,s4 (by omega),Ce (by omega) (by omega),hx]
  new1:=fun {x u a b v u' a' b' v'} e1 e2 e3=>by
   obtain ⟨k,hk,hx,e4⟩:=Dk e1 (by simp)
   have e5:bD p (au p k)=u'++a'::b'::v':=by
    have BW:nv g x:=by rw [← hx];exact aK h.2.1 hk
    rw [hx, ← fT BW];exact e2
   rw [iD h hk e4 (by omega) (Nat.le_refl _),iD h hk e5 (by omega) (Nat.le_refl _)] at e3
   have hl:u.length=u'.length:=by omega
   rw [e4] at e5
   have:=(List.append_inj e5 hl).2
   simp only [List.cons.injEq] at this
   exact this.1}
end
end Go.Ab
end
section
namespace Go.Ab
theorem uB {X:Ctx} {o:Oper} {s:ASt} {K:LA→Prop} (hX:X.Ok) {C:Cfg} (hC:X.C=C) {P:Program} (hP:X.P=P) {c:Call} {fo:Operand} {f:Nat} {first caps EP ER:List AV} {ob:AObj} (d:Nat)
 (hs:Spec P f (Args ER) [] (.ref 10000) [(10000,ob)]) (ho:o.op= .call c) (hc:c.callee= .value fo) (hf:aev C 0 s fo= .fn f first caps) (has:evA C s c.args.toList c.argTypes.toList=EP)
 (vk:cvts (fun a x=>rdX C (fun _=>false) true (reach s 3 (AV.idss (first++EP++caps))) 4 a=some x) (first++EP++caps) ER)
 (AI:∃e sz rows,ob= .own e sz rows∧∀r∈rows,∀x∈r,∃v,x=D.sc v) (hd:o.dst=some d) (hdl:d<10000)
 (hK:K ⟨rsOf s (fo::c.args.toList),reach s 3 (AV.idss (first++EP++caps)), [(d,none)], [(d,ob)],some d, .ref d⟩):ACall X o (.fn f first caps) EP s K:=by
 subst hC;subst hP
 refine ⟨_,⟨hd.symm, ?_⟩,⟨aC s _,jG s _ _⟩,hK⟩
 rintro s' a w hdn fG ⟨E,hE⟩
 have hfo:=hE.evs fG.1 X.C 0 (x:=fo) (by simp)
 rw [hf] at hfo
 obtain ⟨us,vs,hfo,iH,uH⟩:=hfo
 have hargs:=kW (s:=s) hE c.args.toList c.argTypes.toList (fun p hp=>fG.1 p (by cases fo<;>simp [rsOf,hp]))
 rw [has] at hargs
 have qi:AVrs w E (first++EP++caps) (us++c.args.toList.map a.eval++vs):=(iH.append hargs).append uH
 obtain ⟨fn,cd,hfn,hname,hbody⟩:=hs.can
 have hrun:(execOp a.eval o).run X.P w= .ok (.enter f (us++c.args.toList.map a.eval++vs).toArray) w:=by
  have h1:us.toArray++c.args.map a.eval++vs.toArray=(us++c.args.toList.map a.eval++vs).toArray:=by
   apply Array.toList_inj.1;simp
  have h2:=cT (P:=X.P) hfn hname hbody (us.toArray++c.args.map a.eval++vs.toArray) w
  rw [h1] at h2
  simp only [execOp,ho,resolve,hc,hfo,Deferred.ofValue,Sem.run_bind,Sem.run_pure,Result.andThen_ok,invoke]
  rw [h1];exact h2
 have gi:∀l,bE [] l=none:=fun l=>by unfold bE;split<;>rfl
 have vm:aG w E.z w (fun b=>max (E.z b) (cg w b)):=fun b=>⟨Nat.le_max_left _ _,fun _ _=>rfl⟩
 have qj:Good [] ⟨E.ρ,E.σ,fun b=>max (E.z b) (cg w b)⟩ w:=by
  refine ⟨fun l h=>by simp [look] at h,fun l l' b h=>by simp [gi] at h,fun l o h=>by simp [gi] at h,fun b hb=> ?_⟩
  simp [hE.good.fresh b hb,cg,Array.getElem?_eq_none hb]
 have hA:AVrs w ⟨E.ρ,E.σ,fun b=>max (E.z b) (cg w b)⟩ ER (us++c.args.toList.map a.eval++vs):=
  fX (E':=⟨E.ρ,E.σ,fun b=>max (E.z b) (cg w b)⟩) ⟨vm,fun _ _=>rfl,fun _ _=>rfl⟩ (fun a x v Cz hr=>mK hE.good vm (fun l o b _ _ _ _=>Nat.le_max_right _ _) (qu (fun l o hl=>fG.2 _ (aT hl)) Cz) hr) vk qi
 unfold Oper.wp
 rw [hrun]
 refine (hs.calls _ w _ qj hA).mono ?_
 rintro e w' ⟨v,E',rfl,hst,hg',sg,hres⟩
 have hheap:∀b,b<w.heap.size→w'.heap[b]? =w.heap[b]? :=fun b hb=>(hst.frame b hb (by rintro ⟨l,o,hl,_⟩;simp [gi] at hl)).1
 obtain ⟨e0,sz,rows,rfl,hfl⟩:=AI
 have Bj:bE [(10000,AObj.own e0 sz rows)] 10000=some (.own e0 sz rows):=by rw [dm (by omega)];simp [look]
 have iO:=hg'.iR 10000 _ Bj
 have vr:∀b,E'.ρ 10000=some b→w.heap.size≤b:=fun b hb=>by
  rcases sg 10000 _ b Bj rfl hb with h|⟨l,q,hl,_⟩
  ·exact h
  ·simp [gi] at hl
 obtain ⟨E2,hρ,hσ,Ev,Ew,Db,yM⟩:∃E2:Env,(∀l,l≠d→E2.ρ l=E.ρ l)∧(∀l,l≠d→E2.σ l=E.σ l)∧E2.ρ d=E'.ρ 10000∧E2.σ d=E'.σ 10000∧(∀b,b<w.heap.size→E2.z b=E.z b)∧(∀b,w.heap.size≤b→E2.z b=E'.z b):=
  ⟨⟨fun l=>if l=d then E'.ρ 10000 else E.ρ l,fun l=>if l=d then E'.σ 10000 else E.σ l,fun b=>if b<w.heap.size then E.z b else E'.z b⟩,fun l h=>by simp [h],fun l h=>by simp [h],by simp,by simp,fun b h=>by simp [h],fun b h=>by simp [show ¬b<w.heap.size by omega]⟩
 have cm:∀l,kl [(d,(none:Option D))] l=if d=l then some none else none:=fun l=>by simp only [kl]
 have hlk:∀l,look [(d,AObj.own e0 sz rows)] l=if d=l then some (.own e0 sz rows) else none:=fun l=>by simp only [look]
 refine ⟨E2,hd ▸ hE.app' ⟨rsOf s (fo::c.args.toList),reach s 3 (AV.idss (first++EP++caps)), [(d,none)], [(d, .own e0 sz rows)],some d, .ref d⟩ E2 w' v (fun b=> ?_) hst.os hst.tape hst.output hst.size (fun l hl=> ?_) (fun l x hl=> ?_) (fun l hl=> ?_) (fun l hl=> ?_) (fun l q hl=> ?_) (fun b hb=> .inl ⟨hheap b hb,Db b hb⟩) (fun l q hl=> ?_) (fun l l' b hl hl' _ _=> ?_) (fun l b hl hb=> ?_) (fun b hb=> ?_) ?_ (fun k hk=>hdn k (hd ▸ hk))⟩
 ·by_cases hb:b<w.heap.size
  ·exact ⟨by rw [Db b hb];exact Nat.le_refl _,fun o _=>cell?_of_heap (hheap b hb) o⟩
  ·have:=hE.good.fresh b (by omega)
   exact ⟨by omega,fun o ho=>by omega⟩
 ·have:l≠d:=fun e=>by subst e;simp [kl] at hl
  exact ⟨hρ l this,hσ l this⟩
 ·simp only [cm] at hl;split at hl<;>simp at hl
 ·have:l≠d:=fun e=>by
   subst e
   have:=hX.low l hl
   omega
  exact ⟨hρ l this,hσ l this⟩
 ·simp only [cm] at hl
  split at hl
  ·omega
  ·exact absurd rfl hl
 ·simp only [hlk] at hl
  split at hl
  ·cases hl;exact ⟨by omega,rfl⟩
  ·cases hl
 ·simp only [hlk] at hl
  split at hl
  ·rename_i he;subst he
   cases hl
   obtain ⟨g1,g2,g3⟩:=iO
   refine ⟨g1,g2, ?_⟩
   rcases g3 with ⟨h1,h2,h3⟩|⟨b,cur,cap,h1,h2,h3,h4,h5,h6,h7,h8⟩
   ·exact .inl ⟨by rw [Ev];exact h1,h2,by rw [Ew];exact h3⟩
   ·refine .inr ⟨b,cur,cap,by rw [Ev];exact h1,h2,by rw [Ew];exact h3,h4,h5,h6,by rw [yM b (vr b h1)];exact h7,fun i j r x hi hj=> ?_⟩
    obtain ⟨v,hv,hx⟩:=h8 i j r x hi hj
    obtain ⟨u,rfl⟩:=hfl r (List.mem_of_getElem? hi) x (List.mem_of_getElem? hj)
    cases hx with
    |sc _ h=>exact ⟨_,hv, .sc _ h⟩
  ·cases hl
 ·simp only [hlk] at hl hl'
  split at hl
  ·rename_i he;split at hl'
   ·rename_i he';rw [← he, ← he']
   ·exact absurd rfl hl'
  ·exact absurd rfl hl
 ·simp only [hlk] at hl
  split at hl
  ·rename_i he;subst he
   rw [Ev] at hb;exact .inl (vr b hb)
  ·exact absurd rfl hl
 ·rw [yM b (Nat.le_trans hst.size hb)];exact hg'.fresh b hb
 ·exact ⟨by rw [Ew];exact hres.1,hres.2⟩
end Go.Ab
end
section
namespace Go.Ab
open Go.Proofs
attribute [local congr] ACall.congr
set_option maxRecDepth 10000
set_option maxHeartbeats 8000000
def jw (A o:List Int) (f:Nat→Int):Nat→List Int
 |0=>A
 |j+1=>(jw A o f j).set (o.getD j 0).toNat (f j)
theorem fP {A o:List Int} {f:Nat→Int} :∀ {j:Nat},(jw A o f j).length=A.length
 |0=>rfl
 |j+1=>by rw [jw,List.length_set,fP]
def lJ (A o:List Int) (left:Int) (c:Nat) (j:Nat):List Int:=jw A o (fun j=>if j=0 then left else (c:Int)+j - 1) j
def lK (A o:List Int) (right:Int) (c:Nat) (j:Nat):List Int:=jw A o (fun j=>if j+1<o.length then (c:Int)+j else right) j
theorem zQ {A o:List Int} {left:Int} {c:Nat} {j:Nat} :(lJ A o left c j).length=A.length:=fP
theorem zR {A o:List Int} {left:Int} {c:Nat} {j:Nat} :(lK A o left c j).length=A.length:=fP
theorem s5 {A o:List Int} {f:Nat→Int} {e:Nat} :∀ {j:Nat},(∀i,i<j→(o.getD i 0).toNat≠e)→(jw A o f j).getD e 0=A.getD e 0
 |0,_=>rfl
 |j+1,h=>by
  have h1:=h j (by omega)
  rw [jw,List.getD_eq_getElem?_getD,List.getElem?_set,if_neg h1, ← List.getD_eq_getElem?_getD,s5 fun i hi=>h i (by omega)]
theorem we {A o:List Int} {f:Nat→Int} {i:Nat} (hA:(o.getD i 0).toNat<A.length):∀ {j:Nat},i<j→(∀k,k<j→(o.getD k 0).toNat=(o.getD i 0).toNat→k=i)→(jw A o f j).getD (o.getD i 0).toNat 0=f i
 |0,h,_=>by omega
 |j+1,h,hn=>by
  rw [jw,List.getD_eq_getElem?_getD,List.getElem?_set]
  by_cases e:(o.getD j 0).toNat=(o.getD i 0).toNat
  ·have:=hn j (by omega) e
   subst this
   rw [if_pos rfl,if_pos (by rw [fP];exact hA)];rfl
  ·have hji:j≠i:=fun e2=>e (by rw [e2])
   rw [if_neg e, ← List.getD_eq_getElem?_getD,we hA (by omega) fun k hk=>hn k (by omega)]
def eX (c k:Nat):List Int:=(List.range k).map fun i:Nat=>((c+i:Nat):Int)
theorem xD {c k:Nat} :eX c (k+1)=eX c k++ [((c+k:Nat):Int)]:=by simp [eX,List.range_succ]
theorem jx {c k:Nat} :(eX c k).length=k:=by simp [eX]
def Dy (left:Int) (c d j:Nat):Int:=if min j (d - 1)=0 then left else (c:Int)+(min j (d - 1):Nat) - 1
def Fl (ed gp:D) (A B lo hi:List Int):List (Nat × AObj):= [(10000, .box [.d ed, .d gp, .ref 10001, .ref 10002, .ref 10003, .ref 10004]),(10001, .own 3 1 (A.map rI)),(10002, .own 3 1 (B.map rI)),(10003, .tip 3 1 (lo.map rI)),(10004, .own 3 1 (hi.map rI))]
def Fm (ed gp:D) (A B lo hi:List Int):List (Nat × AObj):= [(10000, .box [.d ed, .d gp, .ref 10001, .ref 10002, .ref 10005, .ref 10006]),(10001, .own 3 1 (A.map rI)),(10002, .own 3 1 (B.map rI)),(10005, .tip 3 1 (lo.map rI)),(10006, .own 3 1 (hi.map rI))]
theorem s6 (x left right:Int) (o:List Int) (ed gp:D) (A B lo hi:List Int) (ho:o.length≤100000) (hO:∀i∈o,0≤i∧i<A.length) (hB:B.length=A.length) (hlo:lo.length≤100000) (hhi:hi.length≤100000):
 Spec Tryz.prog 52 (Args [.ptr 10000 0,eN x, .d (sI o),eN left,eN right]) (Fl ed gp A B lo hi)
  (.d (sI (eX lo.length (o.length - 1)))) (Fm ed gp (lJ A o left lo.length o.length) (lK B o right lo.length o.length) (lo++List.replicate (o.length - 1) x) (hi++List.replicate (o.length - 1) 0)):=by
 unfold Fl Fm
 generalize hc:lo.length=c at*
 (refine Spec.er (C:=T.cfg [] []) (rs:= [.t 10]) [(10005,200),(10006,201)] (T.aq _ _) Tryz.func52 rfl rfl Tryz.ntmps52 Tryz.results52 (by simp [AObj.isNest]) (by simp [AObj.isNest]) (by first|(simp [look];done)|(simp [asN];done)|(intro l hl;simp only [asN];repeat (rw [if_neg (fun e=>by subst e;simp [look] at hl)]))) (by first|(simp [look];done)|(simp [asN];done)|(intro l hl;simp only [asN];repeat (rw [if_neg (fun e=>by subst e;simp [look] at hl)]))) (by kernel_rfl) ?_;intro X hX hP hC aN aO vals hA;refine ⟨_,by simp,hA, ?_⟩;have af:X.P.follows .mixedOrders=true:=(by rw [hP];exact T.mixed);clear aN aO)
 repeat' (first|fail|((first|((with_reducible (first|apply oA|apply oB));exact rfl;intro K hK)|(refine hK _ ?_;clear hK K)|((with_reducible (first|apply oG|apply oH));iterate 3 exact rfl)|((with_reducible apply oI);(iterate 2 exact rfl);intro K hK)|(with_reducible (first|apply wI|apply wJ|apply wK)));try simp only [go_sem,simprocAttr])|(show dr _ (.seq (.region 1 _ _) _) _ _;(refine ir hX 10 202 (.tip 3 1 []) (by simp only [go_sem,simprocAttr]) (by simp only [go_sem,simprocAttr]) (by decide) ⟨3,1,by decide, .inr rfl⟩ ?_;simp only [go_sem,simprocAttr]);(refine iu hX 10000 4 10003 200 rfl rfl rfl (by first|exact .inl rfl|exact .inr rfl) (by decide) (by decide) ?_;simp only [LA.app,ASt.put,ASt.kill,subT,rmk,putM,rml,kl,AV.sub,AV.subs,AObj.sub,List.set_cons_zero,List.set_cons_succ,go_sem,simprocAttr]);(refine iu hX 10000 5 10004 201 rfl rfl rfl (by first|exact .inl rfl|exact .inr rfl) (by decide) (by decide) ?_;simp only [LA.app,ASt.put,ASt.kill,subT,rmk,putM,rml,kl,AV.sub,AV.subs,AObj.sub,List.set_cons_zero,List.set_cons_succ,go_sem,simprocAttr]))|(with_reducible (first|apply oC|apply oJ|exact oK|apply wA|apply wB|apply wC hX hC|apply wD hX hC|apply wE hX hC af|apply wF hX hC af|apply wG|apply wH|apply And.intro))|((with_reducible refine oD ?_ ?_);first|fail|kernel_rfl)|((with_reducible (first|apply oE|apply oF));(iterate 3 exact rfl);all_goals (intro h;first|(exact absurd h (by decide))|((try simp only [go_sem,simprocAttr] at h);(try with_reducible intro K hK);simp only [go_sem,simprocAttr])))|((first|((with_reducible apply wL);exact rfl)|((with_reducible apply wM);exact rfl));all_goals (try ((with_reducible intro h);first|(exact absurd h (by decide))|(try simp only [go_sem,simprocAttr] at h))))|omega|((first|fail);try simp only [go_sem,simprocAttr])|(intro h))
 refine an (fun j:Nat=>j≤o.length) (fun j=>⟨[(0, .ptr 10000 0),(1,eN x),(2, .d (sI o)),(3,eN (Dy left c o.length j)),(4,eN right),(10, .ref 202),(13, .d (sI o)),(14,eN o.length),(15,eN j)], [(10000, .box [.d ed, .d gp, .ref 10001, .ref 10002, .ref 200, .ref 201]),(10001, .own 3 1 ((lJ A o left c j).map rI)),(10002, .own 3 1 ((lK B o right c j).map rI)),(200, .tip 3 1 ((lo++List.replicate (min j (o.length - 1)) x).map rI)),(201, .own 3 1 ((hi++List.replicate (min j (o.length - 1)) 0).map rI)),(202, .tip 3 1 ((eX c (min j (o.length - 1))).map rI))]⟩) (fun j=>o.length - j) 0 (by omega) ?_ ?_
 ·refine Le.of ?_ ?_<;>simp [go_sem,simprocAttr,Dy,lJ,lK,jw,eX]
 rintro j hj
 rcases Nat.lt_or_ge j o.length with hjl|IJ
 rotate_left
 ·have hb:decide ((j:Int)<(o.length:Int))=false:=decide_eq_false (by omega)
  obtain rfl:j=o.length:=by omega
  have hmin:min o.length (o.length - 1)=o.length - 1:=by omega
  rw [hmin]
  repeat' (first|fail|((first|((with_reducible (first|apply oA|apply oB));exact rfl;intro K hK)|(refine hK _ ?_;clear hK K)|((with_reducible (first|apply oG|apply oH));iterate 3 exact rfl)|((with_reducible apply oI);(iterate 2 exact rfl);intro K hK)|(with_reducible (first|apply wI|apply wJ|apply wK)));try simp only [go_sem,simprocAttr,hb])|fail|(with_reducible (first|apply oC|apply oJ|exact oK|apply wA|apply wB|apply wC hX hC|apply wD hX hC|apply wE hX hC af|apply wF hX hC af|apply wG|apply wH|apply And.intro))|((with_reducible refine oD ?_ ?_);first|fail|kernel_rfl)|((with_reducible (first|apply oE|apply oF));(iterate 3 exact rfl);all_goals (intro h;first|(exact absurd h (by decide))|((try simp only [go_sem,simprocAttr,hb] at h);(try with_reducible intro K hK);simp only [go_sem,simprocAttr,hb])))|((first|((with_reducible apply wL);exact rfl)|((with_reducible apply wM);exact rfl));all_goals (try ((with_reducible intro h);first|(exact absurd h (by decide))|(try simp only [go_sem,simprocAttr,hb] at h))))|omega|((first|fail);try simp only [go_sem,simprocAttr,hb])|(intro h))
 have hb:decide ((j:Int)<(o.length:Int))=true:=decide_eq_true (by omega)
 have hin:=hO _ (bf (d:=0) hjl)
 have rJ:=zQ (A:=A) (o:=o) (left:=left) (c:=c) (j:=j)
 have iG:=zR (A:=B) (o:=o) (left:=right) (c:=c) (j:=j)
 have ES:lJ A o left c (j+1)=(lJ A o left c j).set (o.getD j 0).toNat (if j=0 then left else (c:Int)+j - 1):=rfl
 have zS:lK B o right c (j+1)=(lK B o right c j).set (o.getD j 0).toNat (if j+1<o.length then (c:Int)+j else right):=rfl
 have rH:min j (o.length - 1)=j:=by omega
 have hlf:Dy left c o.length j=if j=0 then left else (c:Int)+j - 1:=by unfold Dy;rw [rH]
 rw [rH,hlf]
 generalize rq:o.getD j 0=v at hin ES zS
 obtain ⟨i,rfl⟩:∃i:Nat,v=i:=⟨v.toNat,by omega⟩
 rw [Int.toNat_natCast] at ES zS
 generalize (if j=0 then left else (c:Int)+j - 1)=lv at ES hlf ⊢
 by_cases hj2:j+1<o.length
 ·have ak:decide ((j:Int)+1<(o.length:Int))=true:=decide_eq_true (by omega)
  have hm2:min (j+1) (o.length - 1)=j+1:=by omega
  rw [if_pos hj2] at zS
  have ET:Dy left c o.length (j+1)=((c+j:Nat):Int):=by unfold Dy;rw [hm2,if_neg (by omega)];omega
  have jM:(lo++List.replicate j x).length=c+j:=by rw [List.length_append,List.length_replicate,hc]
  have ru:(hi++List.replicate j (0:Int)).length=hi.length+j:=by rw [List.length_append,List.length_replicate]
  have Ii:lo++List.replicate (j+1) x=(lo++List.replicate j x)++ [x]:=by rw [List.replicate_succ', ← List.append_assoc]
  have Ij:hi++List.replicate (j+1) (0:Int)=(hi++List.replicate j 0)++ [0]:=by rw [List.replicate_succ', ← List.append_assoc]
  have pV:=jx (c:=c) (k:=j)
  have A9:=xD (c:=c) (k:=j)
  generalize lo++List.replicate j x=Od at jM Ii
  generalize hi++List.replicate j (0:Int)=hi1 at ru Ij
  generalize eX c j=gs at pV A9
  generalize lJ A o left c j=A1 at rJ ES
  generalize lK B o right c j=B1 at iG zS
  repeat' (first|fail|((first|((with_reducible (first|apply oA|apply oB));exact rfl;intro K hK)|(refine hK _ ?_;clear hK K)|((with_reducible (first|apply oG|apply oH));iterate 3 exact rfl)|((with_reducible apply oI);(iterate 2 exact rfl);intro K hK)|(with_reducible (first|apply wI|apply wJ|apply wK)));try simp only [go_sem,simprocAttr,hb,ak,rq,rJ,iG,jM,ru,pV])|(show dr _ (.seq (.region 8 _ _) _) _ _;(refine iu hX 10000 4 48 200 rfl rfl rfl (by first|exact .inl rfl|exact .inr rfl) (by decide) (by decide) ?_;simp only [LA.app,ASt.put,ASt.kill,subT,rmk,putM,rml,kl,AV.sub,AV.subs,AObj.sub,List.set_cons_zero,List.set_cons_succ,go_sem,simprocAttr,hb,ak,rq,rJ,iG,jM,ru,pV]);(refine iu hX 10000 5 55 201 rfl rfl rfl (by first|exact .inl rfl|exact .inr rfl) (by decide) (by decide) ?_;simp only [LA.app,ASt.put,ASt.kill,subT,rmk,putM,rml,kl,AV.sub,AV.subs,AObj.sub,List.set_cons_zero,List.set_cons_succ,go_sem,simprocAttr,hb,ak,rq,rJ,iG,jM,ru,pV]))|(show dr _ (.region 9 _ _) _ _;(refine lU hX 10 65 202 (by simp only [go_sem,simprocAttr,hb,ak,rq,rJ,iG,jM,ru,pV]) rfl (by first|exact .inl rfl|exact .inr rfl) (by decide) ?_;simp only [go_sem,simprocAttr,hb,ak,rq,rJ,iG,jM,ru,pV]))|(with_reducible (first|apply oC|apply oJ|exact oK|apply wA|apply wB|apply wC hX hC|apply wD hX hC|apply wE hX hC af|apply wF hX hC af|apply wG|apply wH|apply And.intro))|((with_reducible refine oD ?_ ?_);first|fail|kernel_rfl)|((with_reducible (first|apply oE|apply oF));(iterate 3 exact rfl);all_goals (intro h;first|(exact absurd h (by decide))|((try simp only [go_sem,simprocAttr,hb,ak,rq,rJ,iG,jM,ru,pV] at h);(try with_reducible intro K hK);simp only [go_sem,simprocAttr,hb,ak,rq,rJ,iG,jM,ru,pV])))|((first|((with_reducible apply wL);exact rfl)|((with_reducible apply wM);exact rfl));all_goals (try ((with_reducible intro h);first|(exact absurd h (by decide))|(try simp only [go_sem,simprocAttr,hb,ak,rq,rJ,iG,jM,ru,pV] at h))))|omega|((first|fail);try simp only [go_sem,simprocAttr,hb,ak,rq,rJ,iG,jM,ru,pV])|(intro h))
  refine ⟨j+1,by omega, ?_,by omega⟩
  rw [ES,zS,hm2,Ii,Ij,A9,ET]
  refine Le.of ?_ ?_<;>simp [go_sem,simprocAttr,hb,ak,rq,rJ,iG,jM,ru,pV,rI]
 ·have ak:decide ((j:Int)+1<(o.length:Int))=false:=decide_eq_false (by omega)
  have hm2:min (j+1) (o.length - 1)=j:=by omega
  have ET:Dy left c o.length (j+1)=Dy left c o.length j:=by unfold Dy;rw [hm2,rH]
  rw [if_neg hj2] at zS
  generalize lJ A o left c j=A1 at rJ ES
  generalize lK B o right c j=B1 at iG zS
  repeat' (first|fail|((first|((with_reducible (first|apply oA|apply oB));exact rfl;intro K hK)|(refine hK _ ?_;clear hK K)|((with_reducible (first|apply oG|apply oH));iterate 3 exact rfl)|((with_reducible apply oI);(iterate 2 exact rfl);intro K hK)|(with_reducible (first|apply wI|apply wJ|apply wK)));try simp only [go_sem,simprocAttr,hb,ak,rq,rJ,iG])|fail|(with_reducible (first|apply oC|apply oJ|exact oK|apply wA|apply wB|apply wC hX hC|apply wD hX hC|apply wE hX hC af|apply wF hX hC af|apply wG|apply wH|apply And.intro))|((with_reducible refine oD ?_ ?_);first|fail|kernel_rfl)|((with_reducible (first|apply oE|apply oF));(iterate 3 exact rfl);all_goals (intro h;first|(exact absurd h (by decide))|((try simp only [go_sem,simprocAttr,hb,ak,rq,rJ,iG] at h);(try with_reducible intro K hK);simp only [go_sem,simprocAttr,hb,ak,rq,rJ,iG])))|((first|((with_reducible apply wL);exact rfl)|((with_reducible apply wM);exact rfl));all_goals (try ((with_reducible intro h);first|(exact absurd h (by decide))|(try simp only [go_sem,simprocAttr,hb,ak,rq,rJ,iG] at h))))|omega|((first|fail);try simp only [go_sem,simprocAttr,hb,ak,rq,rJ,iG])|(intro h))
  refine ⟨j+1,by omega, ?_,by omega⟩
  rw [ES,zS,hm2,ET,hlf]
  refine Le.of ?_ ?_<;>simp [go_sem,simprocAttr,hb,ak,rq,rJ,iG,rI]
end Go.Ab
end
section
namespace Go.Ab
open Go.Proofs
attribute [local congr] ACall.congr
set_option maxRecDepth 10000
set_option maxHeartbeats 8000000
def kN (A fs:List Int) (x:Int) (j:Nat):List Int:=jw A fs (fun _=>x) j
theorem oa {A fs:List Int} {x:Int} {j:Nat} :(kN A fs x j).length=A.length:=fP
theorem iN (l items:List Int) (a b:Nat) (h0:0<(l.take a++items++l.drop b).length) (hr:l.length≤400000) (hi:items.length≤100000):Spec Tryz.prog 54 (Args [.d (.sl 1 [[.sl 1 (List.take a (l.map rI))], [.sl 1 (items.map rI)], [.sl 1 (List.drop b (l.map rI))]])]) [] (.d (sI (l.take a++items++l.drop b))) []:=by
 have hf: [l.take a,items,l.drop b].flatten=l.take a++items++l.drop b:=by simp
 have:=dH [l.take a,items,l.drop b] (by simp) (by rw [hf];exact h0) (by rw [hf];simp;omega)
 rw [hf] at this
 simpa only [vL,List.map_cons,List.map_nil,sI,List.map_take,List.map_drop] using this
theorem uC (x:Int) (o W G A B lo hi:List Int) (a b:Nat) (hab:a<b) (Oe:b<G.length) (Of:b≤W.length) (hG:G.length≤100000) (hW:W.length≤100000) (hf:∀f∈(G.take b).drop (a+1),0≤f∧f<hi.length)
 (ho:o.length≤100000) (hO:∀i∈o,0≤i∧i<A.length) (hB:B.length=A.length) (hlo:lo.length≤100000) (hhi:hi.length≤100000):
 Spec Tryz.prog 56 (Args [.ptr 10000 0,eN x, .d (sI o),eN a,eN b]) (Fl (sI W) (sI G) A B lo hi) (.tup [])
  (Fm (sI (if o= [] then W else W.take a++o++W.drop b)) (sI (G.take (a+1)++eX lo.length (o.length - 1)++G.drop b)) (lJ A o (G.getD a 0) lo.length o.length) (lK B o (G.getD b 0) lo.length o.length) (lo++List.replicate (o.length - 1) x) (kN hi ((G.take b).drop (a+1)) x ((G.take b).drop (a+1)).length++List.replicate (o.length - 1) 0)):=by
 have tu:List.drop (a+1) (List.take b (List.map rI G))=((G.take b).drop (a+1)).map rI:=by rw [List.map_drop,List.map_take]
 have hfl:((G.take b).drop (a+1)).length≤100000:=by simp;omega
 generalize (G.take b).drop (a+1)=fs at tu hf hfl ⊢
 have rK:List.take G.length (List.map rI G)=List.map rI G:=List.take_of_length_le (by simp)
 have rL:List.take W.length (List.map rI W)=List.map rI W:=List.take_of_length_le (by simp)
 have hmn:min ((a:Int)+1) (b:Int)=((a+1:Nat):Int):=by omega
 have Cf:=s6 x (G.getD a 0) (G.getD b 0) o (sI W) (sI G) A B lo (kN hi fs x fs.length) ho hO hB hlo (by rw [oa];exact hhi)
 have KS:=iN G (eX lo.length (o.length - 1)) (a+1) b (by simp;omega) (by omega) (by rw [jx];omega)
 have LR:=fun (h:o≠ [])=>iN W o a b (by have:=List.length_pos_iff.2 h;simp;omega) (by omega) (by omega)
 generalize hg:eX lo.length (o.length - 1)=gs at Cf KS
 unfold Fl Fm at Cf ⊢
 (refine Spec.er (C:=T.cfg [] []) (rs:= []) [(10005,300),(10006,301)] (T.aq _ _) Tryz.func56 rfl rfl Tryz.ntmps56 Tryz.results56 (by simp [AObj.isNest]) (by simp [AObj.isNest]) (by first|(simp [look];done)|(simp [asN];done)|(intro l hl;simp only [asN];repeat (rw [if_neg (fun e=>by subst e;simp [look] at hl)]))) (by first|(simp [look];done)|(simp [asN];done)|(intro l hl;simp only [asN];repeat (rw [if_neg (fun e=>by subst e;simp [look] at hl)]))) (by kernel_rfl) ?_;intro X hX hP hC aN aO vals hA;refine ⟨_,by simp,hA, ?_⟩;have af:X.P.follows .mixedOrders=true:=(by rw [hP];exact T.mixed);clear aN aO)
 repeat' (first|fail|((first|((with_reducible (first|apply oA|apply oB));exact rfl;intro K hK)|(refine hK _ ?_;clear hK K)|((with_reducible (first|apply oG|apply oH));iterate 3 exact rfl)|((with_reducible apply oI);(iterate 2 exact rfl);intro K hK)|(with_reducible (first|apply wI|apply wJ|apply wK)));try simp only [go_sem,simprocAttr,hmn,tu])|fail|(with_reducible (first|apply oC|apply oJ|exact oK|apply wA|apply wB|apply wC hX hC|apply wD hX hC|apply wE hX hC af|apply wF hX hC af|apply wG|apply wH|apply And.intro))|((with_reducible refine oD ?_ ?_);first|fail|kernel_rfl)|((with_reducible (first|apply oE|apply oF));(iterate 3 exact rfl);all_goals (intro h;first|(exact absurd h (by decide))|((try simp only [go_sem,simprocAttr,hmn,tu] at h);(try with_reducible intro K hK);simp only [go_sem,simprocAttr,hmn,tu])))|((first|((with_reducible apply wL);exact rfl)|((with_reducible apply wM);exact rfl));all_goals (try ((with_reducible intro h);first|(exact absurd h (by decide))|(try simp only [go_sem,simprocAttr,hmn,tu] at h))))|omega|((first|fail);try simp only [go_sem,simprocAttr,hmn,tu])|(intro h))
 refine an (fun j:Nat=>j≤fs.length) (fun j=>⟨[(0, .ptr 10000 0),(1,eN x),(2, .d (sI o)),(3,eN a),(4,eN b),(24, .d (sI fs)),(25,eN fs.length),(26,eN j)], [(10000, .box [.d (sI W), .d (sI G), .ref 10001, .ref 10002, .ref 10003, .ref 10004]),(10001, .own 3 1 (A.map rI)),(10002, .own 3 1 (B.map rI)),(10003, .tip 3 1 (lo.map rI)),(10004, .own 3 1 ((kN hi fs x j).map rI))]⟩) (fun j=>fs.length - j) 0 (by omega) ?_ ?_
 ·refine Le.of ?_ ?_<;>simp [go_sem,simprocAttr,kN,jw]
 rintro j hj
 rcases Nat.lt_or_ge j fs.length with hjl|IJ
 ·have hb:decide ((j:Int)<(fs.length:Int))=true:=decide_eq_true (by omega)
  have hin:=hf _ (bf (d:=0) hjl)
  have ru:=oa (A:=hi) (fs:=fs) (x:=x) (j:=j)
  have IP:kN hi fs x (j+1)=(kN hi fs x j).set (fs.getD j 0).toNat x:=rfl
  generalize rq:fs.getD j 0=v at hin IP
  obtain ⟨i,rfl⟩:∃i:Nat,v=i:=⟨v.toNat,by omega⟩
  rw [Int.toNat_natCast] at IP
  generalize kN hi fs x j=H1 at ru IP
  repeat' (first|fail|((first|((with_reducible (first|apply oA|apply oB));exact rfl;intro K hK)|(refine hK _ ?_;clear hK K)|((with_reducible (first|apply oG|apply oH));iterate 3 exact rfl)|((with_reducible apply oI);(iterate 2 exact rfl);intro K hK)|(with_reducible (first|apply wI|apply wJ|apply wK)));try simp only [go_sem,simprocAttr,hb,rq,ru])|fail|(with_reducible (first|apply oC|apply oJ|exact oK|apply wA|apply wB|apply wC hX hC|apply wD hX hC|apply wE hX hC af|apply wF hX hC af|apply wG|apply wH|apply And.intro))|((with_reducible refine oD ?_ ?_);first|fail|kernel_rfl)|((with_reducible (first|apply oE|apply oF));(iterate 3 exact rfl);all_goals (intro h;first|(exact absurd h (by decide))|((try simp only [go_sem,simprocAttr,hb,rq,ru] at h);(try with_reducible intro K hK);simp only [go_sem,simprocAttr,hb,rq,ru])))|((first|((with_reducible apply wL);exact rfl)|((with_reducible apply wM);exact rfl));all_goals (try ((with_reducible intro h);first|(exact absurd h (by decide))|(try simp only [go_sem,simprocAttr,hb,rq,ru] at h))))|omega|((first|fail);try simp only [go_sem,simprocAttr,hb,rq,ru])|(intro h))
  refine ⟨j+1,by omega, ?_,by omega⟩
  rw [IP]
  refine Le.of ?_ ?_<;>simp [go_sem,simprocAttr,hb,rq,ru,rI]
 have hb:decide ((j:Int)<(fs.length:Int))=false:=decide_eq_false (by omega)
 obtain rfl:j=fs.length:=by omega
 have o9:((a:Int)+1).toNat=a+1:=by omega
 by_cases hne:o= []
 ·have ak:decide ((o.length:Int)=0)=true:=decide_eq_true (by rw [hne];rfl)
  repeat' (first|fail|((first|((with_reducible (first|apply oA|apply oB));exact rfl;intro K hK)|(refine hK _ ?_;clear hK K)|((with_reducible (first|apply oG|apply oH));iterate 3 exact rfl)|((with_reducible apply oI);(iterate 2 exact rfl);intro K hK)|(with_reducible (first|apply wI|apply wJ|apply wK)));try simp only [go_sem,simprocAttr,hb,ak,if_pos hne,o9,rK,rL])|fail|(with_reducible (first|apply oC|apply oJ|exact oK|apply wA|apply wB|apply wC hX hC|apply wD hX hC|apply wE hX hC af|apply wF hX hC af|apply wG|apply wH|apply And.intro))|((with_reducible refine oD ?_ ?_);first|fail|kernel_rfl)|((with_reducible (first|apply oE|apply oF));(iterate 3 exact rfl);all_goals (intro h;first|(exact absurd h (by decide))|((try simp only [go_sem,simprocAttr,hb,ak,if_pos hne,o9,rK,rL] at h);(try with_reducible intro K hK);simp only [go_sem,simprocAttr,hb,ak,if_pos hne,o9,rK,rL])))|((first|((with_reducible apply wL);exact rfl)|((with_reducible apply wM);exact rfl));all_goals (try ((with_reducible intro h);first|(exact absurd h (by decide))|(try simp only [go_sem,simprocAttr,hb,ak,if_pos hne,o9,rK,rL] at h))))|omega|((first|first|(refine aB hX hC hP [(10000,10000),(10001,10001),(10002,10002),(10003,10003),(10004,10004),(10005,300),(10006,301)] (Cf) rfl rfl rfl ?_ ?_ ?_ ?_ ?_ ?_ ?_ ?_ ?_ ?_ ?_ ?_ ?_ ?_;(focus (simp only [go_sem,simprocAttr,hb,ak,if_pos hne,o9,rK,rL];done));(iterate 12 (focus (simp [go_sem,simprocAttr,hb,ak,if_pos hne,o9,rK,rL];done)));simp only [go_sem,simprocAttr,hb,ak,if_pos hne,o9,rK,rL,List.map_cons,List.map_nil])|(refine bJ hX hC hP (KS) rfl rfl rfl ?_ ?_ rfl ?_;iterate 2 (focus (simp only [go_sem,simprocAttr,hb,ak,if_pos hne,o9,rK,rL];done)))|(refine bJ hX hC hP (LR hne) rfl rfl rfl ?_ ?_ rfl ?_;iterate 2 (focus (simp only [go_sem,simprocAttr,hb,ak,if_pos hne,o9,rK,rL];done))));try simp only [go_sem,simprocAttr,hb,ak,if_pos hne,o9,rK,rL])|(intro h))
  all_goals (first|rfl|(simp only [go_sem,simprocAttr,hb,ak,if_pos hne,o9,rK,rL];done))
 ·have ak:decide ((o.length:Int)=0)=false:=decide_eq_false (by have:=List.length_pos_iff.2 hne;omega)
  repeat' (first|fail|((first|((with_reducible (first|apply oA|apply oB));exact rfl;intro K hK)|(refine hK _ ?_;clear hK K)|((with_reducible (first|apply oG|apply oH));iterate 3 exact rfl)|((with_reducible apply oI);(iterate 2 exact rfl);intro K hK)|(with_reducible (first|apply wI|apply wJ|apply wK)));try simp only [go_sem,simprocAttr,hb,ak,if_neg hne,o9,rK,rL])|fail|(with_reducible (first|apply oC|apply oJ|exact oK|apply wA|apply wB|apply wC hX hC|apply wD hX hC|apply wE hX hC af|apply wF hX hC af|apply wG|apply wH|apply And.intro))|((with_reducible refine oD ?_ ?_);first|fail|kernel_rfl)|((with_reducible (first|apply oE|apply oF));(iterate 3 exact rfl);all_goals (intro h;first|(exact absurd h (by decide))|((try simp only [go_sem,simprocAttr,hb,ak,if_neg hne,o9,rK,rL] at h);(try with_reducible intro K hK);simp only [go_sem,simprocAttr,hb,ak,if_neg hne,o9,rK,rL])))|((first|((with_reducible apply wL);exact rfl)|((with_reducible apply wM);exact rfl));all_goals (try ((with_reducible intro h);first|(exact absurd h (by decide))|(try simp only [go_sem,simprocAttr,hb,ak,if_neg hne,o9,rK,rL] at h))))|omega|((first|first|(refine aB hX hC hP [(10000,10000),(10001,10001),(10002,10002),(10003,10003),(10004,10004),(10005,300),(10006,301)] (Cf) rfl rfl rfl ?_ ?_ ?_ ?_ ?_ ?_ ?_ ?_ ?_ ?_ ?_ ?_ ?_ ?_;(focus (simp only [go_sem,simprocAttr,hb,ak,if_neg hne,o9,rK,rL];done));(iterate 12 (focus (simp [go_sem,simprocAttr,hb,ak,if_neg hne,o9,rK,rL];done)));simp only [go_sem,simprocAttr,hb,ak,if_neg hne,o9,rK,rL,List.map_cons,List.map_nil])|(refine bJ hX hC hP (KS) rfl rfl rfl ?_ ?_ rfl ?_;iterate 2 (focus (simp only [go_sem,simprocAttr,hb,ak,if_neg hne,o9,rK,rL];done)))|(refine bJ hX hC hP (LR hne) rfl rfl rfl ?_ ?_ rfl ?_;iterate 2 (focus (simp only [go_sem,simprocAttr,hb,ak,if_neg hne,o9,rK,rL];done))));try simp only [go_sem,simprocAttr,hb,ak,if_neg hne,o9,rK,rL])|(intro h))
  all_goals (first|rfl|(simp only [go_sem,simprocAttr,hb,ak,if_neg hne,o9,rK,rL];done))
end Go.Ab
end
