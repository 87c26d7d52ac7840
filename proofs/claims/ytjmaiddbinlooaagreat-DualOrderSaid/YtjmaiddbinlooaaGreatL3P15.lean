/- A part of the proof. -/
import Derived.Test.YtjmaiddbinlooaaGreatL3P14
set_option linter.unusedSimpArgs false
set_option linter.unusedVariables false
section
namespace Go.Ab
open Go.Proofs
attribute [local congr] ACall.congr
set_option maxRecDepth 10000
set_option maxHeartbeats 8000000
def mF (m:Nat) (fl:List Int):List Int:=(List.range m).map fun i:Nat=>if (i:Int)∈fl then (1:Int) else 0
theorem wu {m:Nat} {fl:List Int} :(mF m fl).length=m:=by simp [mF]
theorem zY {m:Nat} :mF m []=List.replicate m 0:=by
 refine List.ext_getElem (by simp [mF]) fun i h1 h2=> ?_
 simp [mF]
theorem yE {m:Nat} {fl:List Int} {i:Nat} (h:i<m):(mF m fl).getD i 0=if (i:Int)∈fl then 1 else 0:=by
 simp [mF,List.getD_eq_getElem?_getD,List.getElem?_range h]
theorem B9 {m:Nat} {fl:List Int} {i:Nat} (h:i<m):(mF m fl).set i 1=mF m (fl++ [(i:Int)]):=by
 refine List.ext_getElem (by simp [mF]) fun j h1 h2=> ?_
 rw [List.getElem_set]
 simp only [mF,List.getElem_map,List.getElem_range,List.mem_append,List.mem_singleton]
 by_cases e:i=j
 ·subst e;simp
 ·rw [if_neg e]
  have:¬(j:Int)=(i:Int):=by omega
  simp [this]
theorem Ca {outs:List (List Int)} {x k:Nat} (hx:x<outs.length):((outs.take x).flatten++(outs.getD x []).take k).Sublist outs.flatten:=by
 have e:outs=outs.take x++outs.getD x []::outs.drop (x+1):=by
  conv=>lhs;rw [← List.take_append_drop x outs]
  congr 1
  rw [List.drop_eq_getElem_cons hx,List.getD_eq_getElem?_getD,List.getElem?_eq_getElem hx]
  rfl
 conv=>rhs;rw [e]
 rw [List.flatten_append,List.flatten_cons]
 exact List.Sublist.append (List.Sublist.refl _) ((List.take_sublist _ _).trans (List.sublist_append_left _ _))
theorem xQ {l:List Int} {k:Nat} (h:k<l.length):l.take (k+1)=l.take k++ [l.getD k 0]:=by
 rw [List.take_add_one,List.getD_eq_getElem?_getD,List.getElem?_eq_getElem h];rfl
theorem nL {g:Gr} {x i:Int} :i∈bt g x↔(0≤i∧i<g.es.length)∧(g.es.getD i.toNat (0,0)).1=x:=by
 constructor
 ·exact gV
 ·rintro ⟨⟨h1,h2⟩,h3⟩
  simp only [bt,aW,List.mem_map,List.mem_filter,List.mem_range,decide_eq_true_eq]
  exact ⟨i.toNat,⟨by omega,h3⟩,by simp;omega⟩
theorem Cb (g:Gr) (hl:g.es.length≤9223372036854775807) (p:Pl) (hp:pg p) (res:Bool) (hr:res=true↔(cg g).1=0∧bF g p):Spec Tryz.prog 117 (Args [eG g,ePl p]) [] (eB res) []:=by
 have ho:p.ord.length≤9223372036854775807:=by have:=hp.ord;omega
 have F1:=hp.outs
 by_cases hc:(cg g).1=0
 rotate_left
 ·have hres:res=false:=by
   rw [← Bool.not_eq_true,hr]
   rintro ⟨h,_⟩
   exact hc h
  subst hres
  have aj:decide ((cg g).1=0)=false:=decide_eq_false hc
  (refine Spec.intro (C:=T.cfg [] []) (rs:= [.t 4]) (T.aq _ _) Tryz.func117 rfl rfl Tryz.ntmps117 Tryz.results117 (by simp [AObj.isNest]) (by simp [AObj.isNest]) (by kernel_rfl) ?_;intro X hX hP hC aM aN vals hA;refine ⟨_,by simp,hA, ?_⟩;have af:X.P.follows .mixedOrders=true:=(by rw [hP];exact T.mixed);clear aM aN)
  repeat' (first|fail|((first|((with_reducible (first|apply oA|apply oB));exact rfl;intro K hK)|(refine hK _ ?_;clear hK K)|((with_reducible (first|apply oG|apply oH));iterate 3 exact rfl)|((with_reducible apply oI);(iterate 2 exact rfl);intro K hK)|(with_reducible (first|apply wI|apply wJ|apply wK)));try simp only [go_sem,simprocAttr,aj])|fail|(with_reducible (first|apply oC|apply oJ|exact oK|apply wA|apply wB|apply wC hX hC|apply wD hX hC|apply wE hX hC af|apply wF hX hC af|apply wG|apply wH|apply And.intro))|((with_reducible refine oD ?_ ?_);first|fail|kernel_rfl)|((with_reducible (first|apply oE|apply oF));(iterate 3 exact rfl);all_goals (intro h;first|(exact absurd h (by decide))|((try simp only [go_sem,simprocAttr,aj] at h);(try with_reducible intro K hK);simp only [go_sem,simprocAttr,aj])))|((first|((with_reducible apply wL);exact rfl)|((with_reducible apply wM);exact rfl));all_goals (try ((with_reducible intro h);first|(exact absurd h (by decide))|(try simp only [go_sem,simprocAttr,aj] at h))))|omega|((first|first|refine aa hX hC hP (aP g hl) rfl rfl rfl (by simp only [go_sem,simprocAttr,aj]) rfl ?_);try simp only [go_sem,simprocAttr,aj])|(intro h))
 have aj:decide ((cg g).1=0)=true:=decide_eq_true hc
 have hm:=aG hc
 have hn:=aY hm
 have hr:res=true↔bF g p:=by rw [hr];exact ⟨fun h=>h.2,fun h=>⟨hc,h⟩⟩
 rw [← yC hm] at hr
 by_cases he:fA p.ord g.n=true∧p.outs.length=g.n.toNat
 rotate_left
 ·have hres:res=false:=by
   rw [← Bool.not_eq_true,hr]
   rintro ⟨h2,h3,_⟩
   exact he ⟨h2,h3⟩
  subst hres
  cases h2:fA p.ord g.n with
  |false=>
   (refine Spec.intro (C:=T.cfg [] []) (rs:= [.t 4]) (T.aq _ _) Tryz.func117 rfl rfl Tryz.ntmps117 Tryz.results117 (by simp [AObj.isNest]) (by simp [AObj.isNest]) (by kernel_rfl) ?_;intro X hX hP hC aM aN vals hA;refine ⟨_,by simp,hA, ?_⟩;have af:X.P.follows .mixedOrders=true:=(by rw [hP];exact T.mixed);clear aM aN)
   repeat' (first|fail|((first|((with_reducible (first|apply oA|apply oB));exact rfl;intro K hK)|(refine hK _ ?_;clear hK K)|((with_reducible (first|apply oG|apply oH));iterate 3 exact rfl)|((with_reducible apply oI);(iterate 2 exact rfl);intro K hK)|(with_reducible (first|apply wI|apply wJ|apply wK)));try simp only [go_sem,simprocAttr,aj,h2])|fail|(with_reducible (first|apply oC|apply oJ|exact oK|apply wA|apply wB|apply wC hX hC|apply wD hX hC|apply wE hX hC af|apply wF hX hC af|apply wG|apply wH|apply And.intro))|((with_reducible refine oD ?_ ?_);first|fail|kernel_rfl)|((with_reducible (first|apply oE|apply oF));(iterate 3 exact rfl);all_goals (intro h;first|(exact absurd h (by decide))|((try simp only [go_sem,simprocAttr,aj,h2] at h);(try with_reducible intro K hK);simp only [go_sem,simprocAttr,aj,h2])))|((first|((with_reducible apply wL);exact rfl)|((with_reducible apply wM);exact rfl));all_goals (try ((with_reducible intro h);first|(exact absurd h (by decide))|(try simp only [go_sem,simprocAttr,aj,h2] at h))))|omega|((first|first|refine aa hX hC hP (aP g hl) rfl rfl rfl (by simp only [go_sem,simprocAttr,aj,h2]) rfl ?_|refine aa hX hC hP (b9 p.ord g.n ho) rfl rfl rfl (by simp only [go_sem,simprocAttr,aj,h2]) rfl ?_);try simp only [go_sem,simprocAttr,aj,h2])|(intro h))
  |true=>
   have ak:decide ((p.outs.length:Int)=g.n)=false:=decide_eq_false fun h3=>he ⟨h2,by omega⟩
   (refine Spec.intro (C:=T.cfg [] []) (rs:= [.t 4]) (T.aq _ _) Tryz.func117 rfl rfl Tryz.ntmps117 Tryz.results117 (by simp [AObj.isNest]) (by simp [AObj.isNest]) (by kernel_rfl) ?_;intro X hX hP hC aM aN vals hA;refine ⟨_,by simp,hA, ?_⟩;have af:X.P.follows .mixedOrders=true:=(by rw [hP];exact T.mixed);clear aM aN)
   repeat' (first|fail|((first|((with_reducible (first|apply oA|apply oB));exact rfl;intro K hK)|(refine hK _ ?_;clear hK K)|((with_reducible (first|apply oG|apply oH));iterate 3 exact rfl)|((with_reducible apply oI);(iterate 2 exact rfl);intro K hK)|(with_reducible (first|apply wI|apply wJ|apply wK)));try simp only [go_sem,simprocAttr,aj,h2,ak])|fail|(with_reducible (first|apply oC|apply oJ|exact oK|apply wA|apply wB|apply wC hX hC|apply wD hX hC|apply wE hX hC af|apply wF hX hC af|apply wG|apply wH|apply And.intro))|((with_reducible refine oD ?_ ?_);first|fail|kernel_rfl)|((with_reducible (first|apply oE|apply oF));(iterate 3 exact rfl);all_goals (intro h;first|(exact absurd h (by decide))|((try simp only [go_sem,simprocAttr,aj,h2,ak] at h);(try with_reducible intro K hK);simp only [go_sem,simprocAttr,aj,h2,ak])))|((first|((with_reducible apply wL);exact rfl)|((with_reducible apply wM);exact rfl));all_goals (try ((with_reducible intro h);first|(exact absurd h (by decide))|(try simp only [go_sem,simprocAttr,aj,h2,ak] at h))))|omega|((first|first|refine aa hX hC hP (aP g hl) rfl rfl rfl (by simp only [go_sem,simprocAttr,aj,h2,ak]) rfl ?_|refine aa hX hC hP (b9 p.ord g.n ho) rfl rfl rfl (by simp only [go_sem,simprocAttr,aj,h2,ak]) rfl ?_);try simp only [go_sem,simprocAttr,aj,h2,ak])|(intro h))
 obtain ⟨mV,uV⟩:=he
 have ak:decide ((p.outs.length:Int)=g.n)=true:=decide_eq_true (by omega)
 (refine Spec.intro (C:=T.cfg [] []) (rs:= [.t 4]) (T.aq _ _) Tryz.func117 rfl rfl Tryz.ntmps117 Tryz.results117 (by simp [AObj.isNest]) (by simp [AObj.isNest]) (by kernel_rfl) ?_;intro X hX hP hC aM aN vals hA;refine ⟨_,by simp,hA, ?_⟩;have af:X.P.follows .mixedOrders=true:=(by rw [hP];exact T.mixed);clear aM aN)
 repeat' (first|fail|((first|((with_reducible (first|apply oA|apply oB));exact rfl;intro K hK)|(refine hK _ ?_;clear hK K)|((with_reducible (first|apply oG|apply oH));iterate 3 exact rfl)|((with_reducible apply oI);(iterate 2 exact rfl);intro K hK)|(with_reducible (first|apply wI|apply wJ|apply wK)));try simp only [go_sem,simprocAttr,aj,mV,ak])|fail|(with_reducible (first|apply oC|apply oJ|exact oK|apply wA|apply wB|apply wC hX hC|apply wD hX hC|apply wE hX hC af|apply wF hX hC af|apply wG|apply wH|apply And.intro))|((with_reducible refine oD ?_ ?_);first|fail|kernel_rfl)|((with_reducible (first|apply oE|apply oF));(iterate 3 exact rfl);all_goals (intro h;first|(exact absurd h (by decide))|((try simp only [go_sem,simprocAttr,aj,mV,ak] at h);(try with_reducible intro K hK);simp only [go_sem,simprocAttr,aj,mV,ak])))|((first|((with_reducible apply wL);exact rfl)|((with_reducible apply wM);exact rfl));all_goals (try ((with_reducible intro h);first|(exact absurd h (by decide))|(try simp only [go_sem,simprocAttr,aj,mV,ak] at h))))|omega|((first|first|refine aa hX hC hP (aP g hl) rfl rfl rfl (by simp only [go_sem,simprocAttr,aj,mV,ak]) rfl ?_|refine aa hX hC hP (b9 p.ord g.n ho) rfl rfl rfl (by simp only [go_sem,simprocAttr,aj,mV,ak]) rfl ?_);try simp only [go_sem,simprocAttr,aj,mV,ak])|(intro h))
 clear aj ak
 have DH:List.replicate g.es.length [D.sc (.int .i64 0)]=(mF g.es.length []).map rI:=by rw [zY,List.map_replicate];rfl
 rw [DH]
 clear DH
 refine an (fun x:Nat=>x≤p.outs.length∧(p.outs.take x).flatten.Nodup∧∀y:Nat,y<x→∀i∈p.outs.getD y [],i∈bt g y) (fun x=>⟨[(2, .ptr 2 0),(3, .ptr 3 0),(5, .ref 32),(6,eN x)], [(32, .own 3 1 ((mF g.es.length (p.outs.take x).flatten).map rI)),(3, .box [.d (sI p.ord), .d (.sl 1 (vI p.outs))]),(2, .box [eN g.n, .d (sE g.es)])]⟩) (fun x=>p.outs.length - x) 0 (by simp) ?_ ?_
 ·refine Le.of ?_ ?_<;>simp [go_sem,simprocAttr]
 rintro x ⟨hx,bT,uH⟩
 rcases Nat.lt_or_ge x p.outs.length with hxl|CR
 ·have hb:decide ((x:Int)<(p.outs.length:Int))=true:=decide_eq_true (by omega)
  have hv:=jW hxl
  have hle:=hp.each _ (aZ (d:= []) hxl)
  have hpre:=fun k=>Ca (k:=k) hxl
  have hnext:(p.outs.take (x+1)).flatten=(p.outs.take x).flatten++p.outs.getD x []:=by
   rw [List.take_add_one,List.flatten_append,List.getD_eq_getElem?_getD,List.getElem?_eq_getElem hxl];simp
  have iW:∀i∈p.outs.getD x [],i∉bt g x→res=false:=fun i hi hn=>by
   rw [← Bool.not_eq_true,hr]
   rintro ⟨_,_,h3,_⟩
   exact hn (h3 x hxl i hi)
  have uU:∀k,¬((p.outs.take x).flatten++(p.outs.getD x []).take k).Nodup→res=false:=fun k hn=>by
   rw [← Bool.not_eq_true,hr]
   rintro ⟨_,_,_,h4,_⟩
   exact hn (List.Nodup.sublist (hpre k) h4)
  have Bn:(∀i∈p.outs.getD x [],i∈bt g x)→∀y:Nat,y<x+1→∀i∈p.outs.getD y [],i∈bt g y:=fun h y hy=>by
   by_cases e:y=x
   ·subst e;exact h
   ·exact uH y (by omega)
  generalize p.outs.getD x []=l at hv hle hpre hnext iW uU Bn
  generalize (p.outs.take x).flatten=fl at bT hpre hnext uU
  clear hpre
  repeat' (first|fail|((first|((with_reducible (first|apply oA|apply oB));exact rfl;intro K hK)|(refine hK _ ?_;clear hK K)|((with_reducible (first|apply oG|apply oH));iterate 3 exact rfl)|((with_reducible apply oI);(iterate 2 exact rfl);intro K hK)|(with_reducible (first|apply wI|apply wJ|apply wK)));try simp only [go_sem,simprocAttr,hb,hv])|fail|(with_reducible (first|apply oC|apply oJ|exact oK|apply wA|apply wB|apply wC hX hC|apply wD hX hC|apply wE hX hC af|apply wF hX hC af|apply wG|apply wH|apply And.intro))|((with_reducible refine oD ?_ ?_);first|fail|kernel_rfl)|((with_reducible (first|apply oE|apply oF));(iterate 3 exact rfl);all_goals (intro h;first|(exact absurd h (by decide))|((try simp only [go_sem,simprocAttr,hb,hv] at h);(try with_reducible intro K hK);simp only [go_sem,simprocAttr,hb,hv])))|((first|((with_reducible apply wL);exact rfl)|((with_reducible apply wM);exact rfl));all_goals (try ((with_reducible intro h);first|(exact absurd h (by decide))|(try simp only [go_sem,simprocAttr,hb,hv] at h))))|omega|((first|first|refine aa hX hC hP (aP g hl) rfl rfl rfl (by simp only [go_sem,simprocAttr,hb,hv]) rfl ?_|refine aa hX hC hP (b9 p.ord g.n ho) rfl rfl rfl (by simp only [go_sem,simprocAttr,hb,hv]) rfl ?_);try simp only [go_sem,simprocAttr,hb,hv])|(intro h))
  clear hb
  refine an (fun k:Nat=>k≤l.length∧(fl++l.take k).Nodup∧∀i∈l.take k,i∈bt g x) (fun k=>⟨[(2, .ptr 2 0),(3, .ptr 3 0),(5, .ref 32),(6,eN x),(7,eN k)], [(32, .own 3 1 ((mF g.es.length (fl++l.take k)).map rI)),(3, .box [.d (sI p.ord), .d (.sl 1 (vI p.outs))]),(2, .box [eN g.n, .d (sE g.es)])]⟩) (fun k=>l.length - k) 0 (by simpa using bT) ?_ ?_
  ·refine Le.of ?_ ?_<;>simp [go_sem,simprocAttr]
  rintro k ⟨hk,zf,FQ⟩
  rcases Nat.lt_or_ge k l.length with cy|FG
  ·have dL:decide ((k:Int)<(l.length:Int))=true:=decide_eq_true (by omega)
   have vY:=xQ cy
   have him:=aZ (d:=0) cy
   have dQ:=wu (m:=g.es.length) (fl:=fl++l.take k)
   generalize hi:l.getD k 0=i at vY him
   by_cases h0:i<0
   ·have hres:=iW i him (fun h=>by have:=(nL.1 h).1;omega)
    subst hres
    have aj:decide (i<0)=true:=decide_eq_true h0
    repeat' (first|fail|((first|((with_reducible (first|apply oA|apply oB));exact rfl;intro K hK)|(refine hK _ ?_;clear hK K)|((with_reducible (first|apply oG|apply oH));iterate 3 exact rfl)|((with_reducible apply oI);(iterate 2 exact rfl);intro K hK)|(with_reducible (first|apply wI|apply wJ|apply wK)));try simp only [go_sem,simprocAttr,dL,hv,hi,aj])|fail|(with_reducible (first|apply oC|apply oJ|exact oK|apply wA|apply wB|apply wC hX hC|apply wD hX hC|apply wE hX hC af|apply wF hX hC af|apply wG|apply wH|apply And.intro))|((with_reducible refine oD ?_ ?_);first|fail|kernel_rfl)|((with_reducible (first|apply oE|apply oF));(iterate 3 exact rfl);all_goals (intro h;first|(exact absurd h (by decide))|((try simp only [go_sem,simprocAttr,dL,hv,hi,aj] at h);(try with_reducible intro K hK);simp only [go_sem,simprocAttr,dL,hv,hi,aj])))|((first|((with_reducible apply wL);exact rfl)|((with_reducible apply wM);exact rfl));all_goals (try ((with_reducible intro h);first|(exact absurd h (by decide))|(try simp only [go_sem,simprocAttr,dL,hv,hi,aj] at h))))|omega|((first|first|refine aa hX hC hP (aP g hl) rfl rfl rfl (by simp only [go_sem,simprocAttr,dL,hv,hi,aj]) rfl ?_|refine aa hX hC hP (b9 p.ord g.n ho) rfl rfl rfl (by simp only [go_sem,simprocAttr,dL,hv,hi,aj]) rfl ?_);try simp only [go_sem,simprocAttr,dL,hv,hi,aj])|(intro h))
   have aj:decide (i<0)=false:=decide_eq_false h0
   by_cases h1:(g.es.length:Int)≤i
   ·have hres:=iW i him (fun h=>by have:=(nL.1 h).1;omega)
    subst hres
    have ak:decide ((g.es.length:Int)≤i)=true:=decide_eq_true h1
    repeat' (first|fail|((first|((with_reducible (first|apply oA|apply oB));exact rfl;intro K hK)|(refine hK _ ?_;clear hK K)|((with_reducible (first|apply oG|apply oH));iterate 3 exact rfl)|((with_reducible apply oI);(iterate 2 exact rfl);intro K hK)|(with_reducible (first|apply wI|apply wJ|apply wK)));try simp only [go_sem,simprocAttr,dL,hv,hi,aj,ak,dQ])|fail|(with_reducible (first|apply oC|apply oJ|exact oK|apply wA|apply wB|apply wC hX hC|apply wD hX hC|apply wE hX hC af|apply wF hX hC af|apply wG|apply wH|apply And.intro))|((with_reducible refine oD ?_ ?_);first|fail|kernel_rfl)|((with_reducible (first|apply oE|apply oF));(iterate 3 exact rfl);all_goals (intro h;first|(exact absurd h (by decide))|((try simp only [go_sem,simprocAttr,dL,hv,hi,aj,ak,dQ] at h);(try with_reducible intro K hK);simp only [go_sem,simprocAttr,dL,hv,hi,aj,ak,dQ])))|((first|((with_reducible apply wL);exact rfl)|((with_reducible apply wM);exact rfl));all_goals (try ((with_reducible intro h);first|(exact absurd h (by decide))|(try simp only [go_sem,simprocAttr,dL,hv,hi,aj,ak,dQ] at h))))|omega|((first|first|refine aa hX hC hP (aP g hl) rfl rfl rfl (by simp only [go_sem,simprocAttr,dL,hv,hi,aj,ak,dQ]) rfl ?_|refine aa hX hC hP (b9 p.ord g.n ho) rfl rfl rfl (by simp only [go_sem,simprocAttr,dL,hv,hi,aj,ak,dQ]) rfl ?_);try simp only [go_sem,simprocAttr,dL,hv,hi,aj,ak,dQ])|(intro h))
   have ak:decide ((g.es.length:Int)≤i)=false:=decide_eq_false h1
   obtain ⟨e,rfl⟩:∃e:Nat,i=e:=⟨i.toNat,by omega⟩
   have hel:e<g.es.length:=by omega
   by_cases h2:(g.es.getD e (0,0)).1=x
   rotate_left
   ·have hres:=iW _ him (fun h=>h2 (by have:=(nL.1 h).2;rwa [Int.toNat_natCast] at this))
    subst hres
    have bq:decide ((g.es.getD e (0,0)).1=(x:Int))=false:=decide_eq_false h2
    repeat' (first|fail|((first|((with_reducible (first|apply oA|apply oB));exact rfl;intro K hK)|(refine hK _ ?_;clear hK K)|((with_reducible (first|apply oG|apply oH));iterate 3 exact rfl)|((with_reducible apply oI);(iterate 2 exact rfl);intro K hK)|(with_reducible (first|apply wI|apply wJ|apply wK)));try simp only [go_sem,simprocAttr,dL,hv,hi,aj,ak,bq,dQ])|fail|(with_reducible (first|apply oC|apply oJ|exact oK|apply wA|apply wB|apply wC hX hC|apply wD hX hC|apply wE hX hC af|apply wF hX hC af|apply wG|apply wH|apply And.intro))|((with_reducible refine oD ?_ ?_);first|fail|kernel_rfl)|((with_reducible (first|apply oE|apply oF));(iterate 3 exact rfl);all_goals (intro h;first|(exact absurd h (by decide))|((try simp only [go_sem,simprocAttr,dL,hv,hi,aj,ak,bq,dQ] at h);(try with_reducible intro K hK);simp only [go_sem,simprocAttr,dL,hv,hi,aj,ak,bq,dQ])))|((first|((with_reducible apply wL);exact rfl)|((with_reducible apply wM);exact rfl));all_goals (try ((with_reducible intro h);first|(exact absurd h (by decide))|(try simp only [go_sem,simprocAttr,dL,hv,hi,aj,ak,bq,dQ] at h))))|omega|((first|first|refine aa hX hC hP (aP g hl) rfl rfl rfl (by simp only [go_sem,simprocAttr,dL,hv,hi,aj,ak,bq,dQ]) rfl ?_|refine aa hX hC hP (b9 p.ord g.n ho) rfl rfl rfl (by simp only [go_sem,simprocAttr,dL,hv,hi,aj,ak,bq,dQ]) rfl ?_);try simp only [go_sem,simprocAttr,dL,hv,hi,aj,ak,bq,dQ])|(intro h))
   have bq:decide ((g.es.getD e (0,0)).1=(x:Int))=true:=decide_eq_true h2
   have kR:=yE (fl:=fl++l.take k) hel
   by_cases h3:(e:Int)∈fl++l.take k
   ·have hres:=uU (k+1) (fun h=>by
     rw [vY, ← List.append_assoc,List.nodup_append] at h
     exact h.2.2 _ h3 _ (List.mem_singleton.2 rfl) rfl)
    subst hres
    rw [if_pos h3] at kR
    repeat' (first|fail|((first|((with_reducible (first|apply oA|apply oB));exact rfl;intro K hK)|(refine hK _ ?_;clear hK K)|((with_reducible (first|apply oG|apply oH));iterate 3 exact rfl)|((with_reducible apply oI);(iterate 2 exact rfl);intro K hK)|(with_reducible (first|apply wI|apply wJ|apply wK)));try simp only [go_sem,simprocAttr,dL,hv,hi,aj,ak,bq,dQ,kR])|fail|(with_reducible (first|apply oC|apply oJ|exact oK|apply wA|apply wB|apply wC hX hC|apply wD hX hC|apply wE hX hC af|apply wF hX hC af|apply wG|apply wH|apply And.intro))|((with_reducible refine oD ?_ ?_);first|fail|kernel_rfl)|((with_reducible (first|apply oE|apply oF));(iterate 3 exact rfl);all_goals (intro h;first|(exact absurd h (by decide))|((try simp only [go_sem,simprocAttr,dL,hv,hi,aj,ak,bq,dQ,kR] at h);(try with_reducible intro K hK);simp only [go_sem,simprocAttr,dL,hv,hi,aj,ak,bq,dQ,kR])))|((first|((with_reducible apply wL);exact rfl)|((with_reducible apply wM);exact rfl));all_goals (try ((with_reducible intro h);first|(exact absurd h (by decide))|(try simp only [go_sem,simprocAttr,dL,hv,hi,aj,ak,bq,dQ,kR] at h))))|omega|((first|first|refine aa hX hC hP (aP g hl) rfl rfl rfl (by simp only [go_sem,simprocAttr,dL,hv,hi,aj,ak,bq,dQ,kR]) rfl ?_|refine aa hX hC hP (b9 p.ord g.n ho) rfl rfl rfl (by simp only [go_sem,simprocAttr,dL,hv,hi,aj,ak,bq,dQ,kR]) rfl ?_);try simp only [go_sem,simprocAttr,dL,hv,hi,aj,ak,bq,dQ,kR])|(intro h))
   ·rw [if_neg h3] at kR
    have ck:=B9 (fl:=fl++l.take k) hel
    rw [List.append_assoc, ← vY] at ck
    repeat' (first|fail|((first|((with_reducible (first|apply oA|apply oB));exact rfl;intro K hK)|(refine hK _ ?_;clear hK K)|((with_reducible (first|apply oG|apply oH));iterate 3 exact rfl)|((with_reducible apply oI);(iterate 2 exact rfl);intro K hK)|(with_reducible (first|apply wI|apply wJ|apply wK)));try simp only [go_sem,simprocAttr,dL,hv,hi,aj,ak,bq,dQ,kR])|fail|(with_reducible (first|apply oC|apply oJ|exact oK|apply wA|apply wB|apply wC hX hC|apply wD hX hC|apply wE hX hC af|apply wF hX hC af|apply wG|apply wH|apply And.intro))|((with_reducible refine oD ?_ ?_);first|fail|kernel_rfl)|((with_reducible (first|apply oE|apply oF));(iterate 3 exact rfl);all_goals (intro h;first|(exact absurd h (by decide))|((try simp only [go_sem,simprocAttr,dL,hv,hi,aj,ak,bq,dQ,kR] at h);(try with_reducible intro K hK);simp only [go_sem,simprocAttr,dL,hv,hi,aj,ak,bq,dQ,kR])))|((first|((with_reducible apply wL);exact rfl)|((with_reducible apply wM);exact rfl));all_goals (try ((with_reducible intro h);first|(exact absurd h (by decide))|(try simp only [go_sem,simprocAttr,dL,hv,hi,aj,ak,bq,dQ,kR] at h))))|omega|((first|first|refine aa hX hC hP (aP g hl) rfl rfl rfl (by simp only [go_sem,simprocAttr,dL,hv,hi,aj,ak,bq,dQ,kR]) rfl ?_|refine aa hX hC hP (b9 p.ord g.n ho) rfl rfl rfl (by simp only [go_sem,simprocAttr,dL,hv,hi,aj,ak,bq,dQ,kR]) rfl ?_);try simp only [go_sem,simprocAttr,dL,hv,hi,aj,ak,bq,dQ,kR])|(intro h))
    refine ⟨k+1,⟨by omega, ?_, ?_⟩, ?_,by omega⟩
    ·rw [vY, ← List.append_assoc,List.nodup_append]
     exact ⟨zf,by simp,fun a ha b hb h=>h3 (by rw [List.mem_singleton] at hb;rw [← hb, ← h];exact ha)⟩
    ·intro j hj
     rw [vY,List.mem_append,List.mem_singleton] at hj
     rcases hj with hj|rfl
     ·exact FQ j hj
     ·exact nL.2 ⟨⟨by omega,by omega⟩,by rw [Int.toNat_natCast];exact h2⟩
    ·rw [← ck]
     refine Le.of ?_ ?_<;>simp [go_sem,simprocAttr,dL,hv,hi,aj,ak,bq,dQ,kR,rI]
  ·have dL:decide ((k:Int)<(l.length:Int))=false:=decide_eq_false (by omega)
   obtain rfl:k=l.length:=by omega
   rw [List.take_length] at zf FQ
   repeat' (first|fail|((first|((with_reducible (first|apply oA|apply oB));exact rfl;intro K hK)|(refine hK _ ?_;clear hK K)|((with_reducible (first|apply oG|apply oH));iterate 3 exact rfl)|((with_reducible apply oI);(iterate 2 exact rfl);intro K hK)|(with_reducible (first|apply wI|apply wJ|apply wK)));try simp only [go_sem,simprocAttr,dL,hv])|fail|(with_reducible (first|apply oC|apply oJ|exact oK|apply wA|apply wB|apply wC hX hC|apply wD hX hC|apply wE hX hC af|apply wF hX hC af|apply wG|apply wH|apply And.intro))|((with_reducible refine oD ?_ ?_);first|fail|kernel_rfl)|((with_reducible (first|apply oE|apply oF));(iterate 3 exact rfl);all_goals (intro h;first|(exact absurd h (by decide))|((try simp only [go_sem,simprocAttr,dL,hv] at h);(try with_reducible intro K hK);simp only [go_sem,simprocAttr,dL,hv])))|((first|((with_reducible apply wL);exact rfl)|((with_reducible apply wM);exact rfl));all_goals (try ((with_reducible intro h);first|(exact absurd h (by decide))|(try simp only [go_sem,simprocAttr,dL,hv] at h))))|omega|((first|first|refine aa hX hC hP (aP g hl) rfl rfl rfl (by simp only [go_sem,simprocAttr,dL,hv]) rfl ?_|refine aa hX hC hP (b9 p.ord g.n ho) rfl rfl rfl (by simp only [go_sem,simprocAttr,dL,hv]) rfl ?_);try simp only [go_sem,simprocAttr,dL,hv])|(intro h))
   refine ⟨x+1,⟨by omega,by rw [hnext];exact zf,Bn FQ⟩, ?_,by omega⟩
   rw [hnext]
   refine Le.of ?_ ?_<;>simp [go_sem,simprocAttr,dL,hv]
 have hb:decide ((x:Int)<(p.outs.length:Int))=false:=decide_eq_false (by omega)
 obtain rfl:x=p.outs.length:=by omega
 rw [List.take_length] at bT
 rw [List.take_length]
 have dQ:=wu (m:=g.es.length) (fl:=p.outs.flatten)
 repeat' (first|fail|((first|((with_reducible (first|apply oA|apply oB));exact rfl;intro K hK)|(refine hK _ ?_;clear hK K)|((with_reducible (first|apply oG|apply oH));iterate 3 exact rfl)|((with_reducible apply oI);(iterate 2 exact rfl);intro K hK)|(with_reducible (first|apply wI|apply wJ|apply wK)));try simp only [go_sem,simprocAttr,hb])|fail|(with_reducible (first|apply oC|apply oJ|exact oK|apply wA|apply wB|apply wC hX hC|apply wD hX hC|apply wE hX hC af|apply wF hX hC af|apply wG|apply wH|apply And.intro))|((with_reducible refine oD ?_ ?_);first|fail|kernel_rfl)|((with_reducible (first|apply oE|apply oF));(iterate 3 exact rfl);all_goals (intro h;first|(exact absurd h (by decide))|((try simp only [go_sem,simprocAttr,hb] at h);(try with_reducible intro K hK);simp only [go_sem,simprocAttr,hb])))|((first|((with_reducible apply wL);exact rfl)|((with_reducible apply wM);exact rfl));all_goals (try ((with_reducible intro h);first|(exact absurd h (by decide))|(try simp only [go_sem,simprocAttr,hb] at h))))|omega|((first|first|refine aa hX hC hP (aP g hl) rfl rfl rfl (by simp only [go_sem,simprocAttr,hb]) rfl ?_|refine aa hX hC hP (b9 p.ord g.n ho) rfl rfl rfl (by simp only [go_sem,simprocAttr,hb]) rfl ?_);try simp only [go_sem,simprocAttr,hb])|(intro h))
 clear hb
 refine an (fun k:Nat=>k≤g.es.length∧∀i:Nat,i<k→(i:Int)∈p.outs.flatten) (fun k=>⟨[(5, .ref 32),(9,eN k)], [(32, .own 3 1 ((mF g.es.length p.outs.flatten).map rI))]⟩) (fun k=>g.es.length - k) 0 (by simp) ?_ ?_
 ·refine Le.of ?_ ?_<;>simp [go_sem,simprocAttr]
 rintro k ⟨hk,FQ⟩
 rcases Nat.lt_or_ge k g.es.length with cy|FG
 ·have dL:decide ((k:Int)<(g.es.length:Int))=true:=decide_eq_true (by omega)
  have kR:=yE (fl:=p.outs.flatten) cy
  by_cases h3:(k:Int)∈p.outs.flatten
  ·rw [if_pos h3] at kR
   repeat' (first|fail|((first|((with_reducible (first|apply oA|apply oB));exact rfl;intro K hK)|(refine hK _ ?_;clear hK K)|((with_reducible (first|apply oG|apply oH));iterate 3 exact rfl)|((with_reducible apply oI);(iterate 2 exact rfl);intro K hK)|(with_reducible (first|apply wI|apply wJ|apply wK)));try simp only [go_sem,simprocAttr,dL,dQ,kR])|fail|(with_reducible (first|apply oC|apply oJ|exact oK|apply wA|apply wB|apply wC hX hC|apply wD hX hC|apply wE hX hC af|apply wF hX hC af|apply wG|apply wH|apply And.intro))|((with_reducible refine oD ?_ ?_);first|fail|kernel_rfl)|((with_reducible (first|apply oE|apply oF));(iterate 3 exact rfl);all_goals (intro h;first|(exact absurd h (by decide))|((try simp only [go_sem,simprocAttr,dL,dQ,kR] at h);(try with_reducible intro K hK);simp only [go_sem,simprocAttr,dL,dQ,kR])))|((first|((with_reducible apply wL);exact rfl)|((with_reducible apply wM);exact rfl));all_goals (try ((with_reducible intro h);first|(exact absurd h (by decide))|(try simp only [go_sem,simprocAttr,dL,dQ,kR] at h))))|omega|((first|first|refine aa hX hC hP (aP g hl) rfl rfl rfl (by simp only [go_sem,simprocAttr,dL,dQ,kR]) rfl ?_|refine aa hX hC hP (b9 p.ord g.n ho) rfl rfl rfl (by simp only [go_sem,simprocAttr,dL,dQ,kR]) rfl ?_);try simp only [go_sem,simprocAttr,dL,dQ,kR])|(intro h))
   refine ⟨k+1,⟨by omega,fun i hi=> ?_⟩, ?_,by omega⟩
   ·by_cases e:i=k
    ·subst e;exact h3
    ·exact FQ i (by omega)
   ·(refine Le.of ?_ ?_<;>simp [go_sem,simprocAttr,dL,dQ,kR])
  ·rw [if_neg h3] at kR
   have hres:res=false:=by
    rw [← Bool.not_eq_true,hr]
    rintro ⟨_,_,_,_,h5⟩
    exact h3 (h5 k cy)
   subst hres
   repeat' (first|fail|((first|((with_reducible (first|apply oA|apply oB));exact rfl;intro K hK)|(refine hK _ ?_;clear hK K)|((with_reducible (first|apply oG|apply oH));iterate 3 exact rfl)|((with_reducible apply oI);(iterate 2 exact rfl);intro K hK)|(with_reducible (first|apply wI|apply wJ|apply wK)));try simp only [go_sem,simprocAttr,dL,dQ,kR])|fail|(with_reducible (first|apply oC|apply oJ|exact oK|apply wA|apply wB|apply wC hX hC|apply wD hX hC|apply wE hX hC af|apply wF hX hC af|apply wG|apply wH|apply And.intro))|((with_reducible refine oD ?_ ?_);first|fail|kernel_rfl)|((with_reducible (first|apply oE|apply oF));(iterate 3 exact rfl);all_goals (intro h;first|(exact absurd h (by decide))|((try simp only [go_sem,simprocAttr,dL,dQ,kR] at h);(try with_reducible intro K hK);simp only [go_sem,simprocAttr,dL,dQ,kR])))|((first|((with_reducible apply wL);exact rfl)|((with_reducible apply wM);exact rfl));all_goals (try ((with_reducible intro h);first|(exact absurd h (by decide))|(try simp only [go_sem,simprocAttr,dL,dQ,kR] at h))))|omega|((first|first|refine aa hX hC hP (aP g hl) rfl rfl rfl (by simp only [go_sem,simprocAttr,dL,dQ,kR]) rfl ?_|refine aa hX hC hP (b9 p.ord g.n ho) rfl rfl rfl (by simp only [go_sem,simprocAttr,dL,dQ,kR]) rfl ?_);try simp only [go_sem,simprocAttr,dL,dQ,kR])|(intro h))
 ·have dL:decide ((k:Int)<(g.es.length:Int))=false:=decide_eq_false (by omega)
  obtain rfl:k=g.es.length:=by omega
  have hres:res=true:=hr.2 ⟨mV,uV,uH,bT,FQ⟩
  subst hres
  repeat' (first|fail|((first|((with_reducible (first|apply oA|apply oB));exact rfl;intro K hK)|(refine hK _ ?_;clear hK K)|((with_reducible (first|apply oG|apply oH));iterate 3 exact rfl)|((with_reducible apply oI);(iterate 2 exact rfl);intro K hK)|(with_reducible (first|apply wI|apply wJ|apply wK)));try simp only [go_sem,simprocAttr,dL,dQ])|fail|(with_reducible (first|apply oC|apply oJ|exact oK|apply wA|apply wB|apply wC hX hC|apply wD hX hC|apply wE hX hC af|apply wF hX hC af|apply wG|apply wH|apply And.intro))|((with_reducible refine oD ?_ ?_);first|fail|kernel_rfl)|((with_reducible (first|apply oE|apply oF));(iterate 3 exact rfl);all_goals (intro h;first|(exact absurd h (by decide))|((try simp only [go_sem,simprocAttr,dL,dQ] at h);(try with_reducible intro K hK);simp only [go_sem,simprocAttr,dL,dQ])))|((first|((with_reducible apply wL);exact rfl)|((with_reducible apply wM);exact rfl));all_goals (try ((with_reducible intro h);first|(exact absurd h (by decide))|(try simp only [go_sem,simprocAttr,dL,dQ] at h))))|omega|((first|first|refine aa hX hC hP (aP g hl) rfl rfl rfl (by simp only [go_sem,simprocAttr,dL,dQ]) rfl ?_|refine aa hX hC hP (b9 p.ord g.n ho) rfl rfl rfl (by simp only [go_sem,simprocAttr,dL,dQ]) rfl ?_);try simp only [go_sem,simprocAttr,dL,dQ])|(intro h))
end Go.Ab
end
section
namespace Go.Ab
open Go.Proofs
attribute [local congr] ACall.congr
set_option maxRecDepth 10000
set_option maxHeartbeats 8000000
def bJ (b:Bool) (g:Gr) (p:Pl):(List (List It) × List It) × Int × Int:=
 if b=false then (([], []),(1,0)) else
 match iG g p g.n.toNat with
 |some i=>(([], []),(3,(i:Int)))
 |none=>((dV g p g.n.toNat,(fK g p g.n.toNat).row),(0,0))
theorem Cc {n:Nat} :List.replicate n [D.sl 3 []]=vT (List.replicate n []):=by simp [vT,sT]
theorem Cd {ls:List (List It)} {k:Nat} {l:List It} :(vT ls).set k [sT l]=vT (ls.set k l):=by simp [vT,List.map_set]
theorem td {g:Gr} {p:Pl} {k:Nat} :dV g p (k+1)=(dV g p k).set (au p k).toNat (eZ g p k):=rfl
theorem wv (g:Gr) (hl:g.es.length≤9223372036854775807) (p:Pl) (hp:pg p) (b:Bool) (hr:b=true↔(cg g).1=0∧bF g p):
 Spec Tryz.prog 88 (Args [eG g,ePl p]) [] (.tup [.d (.sl 1 (vT (bJ b g p).1.1)), .d (sT (bJ b g p).1.2),eN (bJ b g p).2.1,eN (bJ b g p).2.2]) []:=by
 have hO:=Cb g hl p hp b hr
 cases b with
 |false=>
  have hR:bJ false g p=(([], []),(1,0)):=rfl
  rw [hR]
  (refine Spec.intro (C:=T.cfg [] []) (rs:= [.t 4, .t 5, .t 6, .t 7]) (T.aq _ _) Tryz.func88 rfl rfl Tryz.ntmps88 Tryz.results88 (by simp [AObj.isNest]) (by simp [AObj.isNest]) (by kernel_rfl) ?_;intro X hX hP hC aM aN vals hA;refine ⟨_,by simp,hA, ?_⟩;have af:X.P.follows .mixedOrders=true:=(by rw [hP];exact T.mixed);clear aM aN)
  repeat' (first|fail|((first|((with_reducible (first|apply oA|apply oB));exact rfl;intro K hK)|(refine hK _ ?_;clear hK K)|((with_reducible (first|apply oG|apply oH));iterate 3 exact rfl)|((with_reducible apply oI);(iterate 2 exact rfl);intro K hK)|(with_reducible (first|apply wI|apply wJ|apply wK)));try simp only [go_sem,simprocAttr,vT,List.map_nil])|fail|(with_reducible (first|apply oC|apply oJ|exact oK|apply wA|apply wB|apply wC hX hC|apply wD hX hC|apply wE hX hC af|apply wF hX hC af|apply wG|apply wH|apply And.intro))|((with_reducible refine oD ?_ ?_);first|fail|kernel_rfl)|((with_reducible (first|apply oE|apply oF));(iterate 3 exact rfl);all_goals (intro h;first|(exact absurd h (by decide))|((try simp only [go_sem,simprocAttr,vT,List.map_nil] at h);(try with_reducible intro K hK);simp only [go_sem,simprocAttr,vT,List.map_nil])))|((first|((with_reducible apply wL);exact rfl)|((with_reducible apply wM);exact rfl));all_goals (try ((with_reducible intro h);first|(exact absurd h (by decide))|(try simp only [go_sem,simprocAttr,vT,List.map_nil] at h))))|omega|((first|first|refine aa hX hC hP (hO) rfl rfl rfl (by simp only [go_sem,simprocAttr,vT,List.map_nil]) rfl ?_);try simp only [go_sem,simprocAttr,vT,List.map_nil])|(intro h))
 |true=>
 obtain ⟨hc,zZ⟩:=hr.1 rfl
 have hm:=aG hc
 have hn:=aY hm
 have hle:=bY zZ
 have hR:bJ true g p=match iG g p g.n.toNat with
  |some i=>(([], []),(3,(i:Int)))
  |none=>((dV g p g.n.toNat,(fK g p g.n.toNat).row),(0,0)):=rfl
 generalize bJ true g p=R at hR
 (refine Spec.intro (C:=T.cfg [] []) (rs:= [.t 4, .t 5, .t 6, .t 7]) (T.aq _ _) Tryz.func88 rfl rfl Tryz.ntmps88 Tryz.results88 (by simp [AObj.isNest]) (by simp [AObj.isNest]) (by kernel_rfl) ?_;intro X hX hP hC aM aN vals hA;refine ⟨_,by simp,hA, ?_⟩;have af:X.P.follows .mixedOrders=true:=(by rw [hP];exact T.mixed);clear aM aN)
 repeat' (first|fail|((first|((with_reducible (first|apply oA|apply oB));exact rfl;intro K hK)|(refine hK _ ?_;clear hK K)|((with_reducible (first|apply oG|apply oH));iterate 3 exact rfl)|((with_reducible apply oI);(iterate 2 exact rfl);intro K hK)|(with_reducible (first|apply wI|apply wJ|apply wK)));try simp only [go_sem,simprocAttr])|(show dB _ (.seq (.region 4 _ _) _) _ _;(refine nk 20 2 3 rfl rfl rfl ?_;simp only [LA.app,ASt.put,ASt.kill,putM,rml,List.set_cons_zero,List.set_cons_succ,go_sem,simprocAttr]);(refine nk 20 3 1 rfl rfl rfl ?_;simp only [LA.app,ASt.put,ASt.kill,putM,rml,List.set_cons_zero,List.set_cons_succ,go_sem,simprocAttr]))|(with_reducible (first|apply oC|apply oJ|exact oK|apply wA|apply wB|apply wC hX hC|apply wD hX hC|apply wE hX hC af|apply wF hX hC af|apply wG|apply wH|apply And.intro))|((with_reducible refine oD ?_ ?_);first|fail|kernel_rfl)|((with_reducible (first|apply oE|apply oF));(iterate 3 exact rfl);all_goals (intro h;first|(exact absurd h (by decide))|((try simp only [go_sem,simprocAttr] at h);(try with_reducible intro K hK);simp only [go_sem,simprocAttr])))|((first|((with_reducible apply wL);exact rfl)|((with_reducible apply wM);exact rfl));all_goals (try ((with_reducible intro h);first|(exact absurd h (by decide))|(try simp only [go_sem,simprocAttr] at h))))|omega|((first|first|refine aa hX hC hP (hO) rfl rfl rfl (by simp only [go_sem,simprocAttr]) rfl ?_);try simp only [go_sem,simprocAttr])|(intro h))
 rw [Cc]
 refine an (fun k:Nat=>k≤g.n.toNat∧∀j,j<k→xP g p j=true) (fun k=>⟨[(2, .ptr 2 0),(3, .ptr 3 0),(8, .ptr 20 0),(9, .ref 23),(10,eN k)], [(23, .own 80 1 (vT (dV g p k))),(20, .box (ew g (fK g p k))),(3, .box [.d (sI p.ord), .d (.sl 1 (vI p.outs))]),(2, .box [eN g.n, .d (sE g.es)])]⟩) (fun k=>g.n.toNat - k) 0 (by simp) ?_ ?_
 ·refine Le.of ?_ ?_<;>simp [go_sem,simprocAttr,ew,fK,dV]
 rintro k ⟨hk,hok⟩
 obtain ⟨hi,_,hrl⟩:=dy hm zZ hk hok
 have hel:=kP (g:=g) (p:=p) (k:=k)
 rcases Nat.lt_or_ge k g.n.toNat with hlt|hge
 ·have hb:decide ((k:Int)<(p.ord.length:Int))=true:=decide_eq_true (by omega)
  have CS:=aF zZ hlt
  have eA:=td (g:=g) (p:=p) (k:=k)
  have z1:fK g p (k+1)=(aA g (fK g p k) (au p k) (bE p (au p k))).2:=rfl
  have uH:eZ g p k=(aA g (fK g p k) (au p k) (bE p (au p k))).1.1:=rfl
  have hpk:=wk zZ hlt
  have Ce:=wm (g:=g) (p:=p) (k:=k)
  have hsk:xP g p k=false→R=(([], []),(3,(k:Int))):=fun h=>by
   rw [hR,mE.2 ⟨hlt,h,hok⟩]
  have hmul:k*(g.es.length+1)≤64*129:=Nat.mul_le_mul (by omega) (by omega)
  have kf:=jZ zZ CS.1 CS.2
  have fZ:p.ord.getD k 0=au p k:=rfl
  have Cf:(fK g p k).pl.length≤64:=by
   rcases Ek hi.togH with h|h
   ·omega
   ·rw [h];simp
  obtain ⟨x,hx⟩:∃x:Nat,au p k=x:=⟨(au p k).toNat,by omega⟩
  rw [hx] at fZ z1 uH hpk Ce CS kf eA
  have hxl:x<p.outs.length:=by have:=zZ.1;omega
  have hv:=jW hxl
  have hla:bE p (x:Int)=p.outs.getD x []:=by unfold bE;rw [Int.toNat_natCast]
  rw [hla] at z1 uH hpk Ce kf
  rw [Int.toNat_natCast] at eA
  have kg:=v8 g (by omega) (fK g p k) (x:Int) (p.outs.getD x []) (by omega) (by omega) (by omega)
  have ck:=Cd (ls:=dV g p k) (k:=x) (l:=eZ g p k)
  generalize p.outs.getD x []=o at hv z1 uH hpk Ce kg
  rw [← eA] at ck
  generalize fK g p k=f at z1 uH hpk Ce kg hi hrl Cf
  cases uI:xP g p k with
  |false=>
   rw [Ce uI] at kg
   have Fk:=hsk uI
   subst Fk
   repeat' (first|fail|((first|((with_reducible (first|apply oA|apply oB));exact rfl;intro K hK)|(refine hK _ ?_;clear hK K)|((with_reducible (first|apply oG|apply oH));iterate 3 exact rfl)|((with_reducible apply oI);(iterate 2 exact rfl);intro K hK)|(with_reducible (first|apply wI|apply wJ|apply wK)));try simp only [go_sem,simprocAttr,hb,fZ,hv,ew,vT,List.map_nil])|fail|(with_reducible (first|apply oC|apply oJ|exact oK|apply wA|apply wB|apply wC hX hC|apply wD hX hC|apply wE hX hC af|apply wF hX hC af|apply wG|apply wH|apply And.intro))|((with_reducible refine oD ?_ ?_);first|fail|kernel_rfl)|((with_reducible (first|apply oE|apply oF));(iterate 3 exact rfl);all_goals (intro h;first|(exact absurd h (by decide))|((try simp only [go_sem,simprocAttr,hb,fZ,hv,ew,vT,List.map_nil] at h);(try with_reducible intro K hK);simp only [go_sem,simprocAttr,hb,fZ,hv,ew,vT,List.map_nil])))|((first|((with_reducible apply wL);exact rfl)|((with_reducible apply wM);exact rfl));all_goals (try ((with_reducible intro h);first|(exact absurd h (by decide))|(try simp only [go_sem,simprocAttr,hb,fZ,hv,ew,vT,List.map_nil] at h))))|omega|((first|first|(refine az hX hC hP [(10000,20)] (kg) rfl rfl rfl ?_ ?_ ?_ ?_ ?_ ?_ ?_ ?_ ?_ ?_ ?_ ?_ ?_ ?_;(focus (simp only [go_sem,simprocAttr,hb,fZ,hv,ew,vT,List.map_nil];done));(iterate 12 (focus (simp [go_sem,simprocAttr,hb,fZ,hv,ew,vT,List.map_nil];done)));simp only [go_sem,simprocAttr,hb,fZ,hv,ew,vT,List.map_nil,List.map_cons,List.map_nil]));try simp only [go_sem,simprocAttr,hb,fZ,hv,ew,vT,List.map_nil])|(intro h))
  |true=>
   rw [hpk uI] at kg
   have dW:(aA g f (x:Int) o).1.2=0:=rfl
   rw [uH] at ck
   generalize aA g f (x:Int) o=su at z1 uH kg dW ck
   have IM:x<(dV g p k).length:=by omega
   generalize NV:dV g p k=E at ck IM hel
   have hvl:(vT E).length=E.length:=vT_length
   have tf:=fun d=>nw IM d
   repeat' (first|fail|((first|((with_reducible (first|apply oA|apply oB));exact rfl;intro K hK)|(refine hK _ ?_;clear hK K)|((with_reducible (first|apply oG|apply oH));iterate 3 exact rfl)|((with_reducible apply oI);(iterate 2 exact rfl);intro K hK)|(with_reducible (first|apply wI|apply wJ|apply wK)));try simp only [go_sem,simprocAttr,hb,fZ,hv,ew,dW,ck,tf,List.drop_succ_cons,List.drop_zero])|fail|(with_reducible (first|apply oC|apply oJ|exact oK|apply wA|apply wB|apply wC hX hC|apply wD hX hC|apply wE hX hC af|apply wF hX hC af|apply wG|apply wH|apply And.intro))|((with_reducible refine oD ?_ ?_);first|fail|kernel_rfl)|((with_reducible (first|apply oE|apply oF));(iterate 3 exact rfl);all_goals (intro h;first|(exact absurd h (by decide))|((try simp only [go_sem,simprocAttr,hb,fZ,hv,ew,dW,ck,tf,List.drop_succ_cons,List.drop_zero] at h);(try with_reducible intro K hK);simp only [go_sem,simprocAttr,hb,fZ,hv,ew,dW,ck,tf,List.drop_succ_cons,List.drop_zero])))|((first|((with_reducible apply wL);exact rfl)|((with_reducible apply wM);exact rfl));all_goals (try ((with_reducible intro h);first|(exact absurd h (by decide))|(try simp only [go_sem,simprocAttr,hb,fZ,hv,ew,dW,ck,tf,List.drop_succ_cons,List.drop_zero] at h))))|omega|((first|first|(refine az hX hC hP [(10000,20)] (kg) rfl rfl rfl ?_ ?_ ?_ ?_ ?_ ?_ ?_ ?_ ?_ ?_ ?_ ?_ ?_ ?_;(focus (simp only [go_sem,simprocAttr,hb,fZ,hv,ew,dW,ck,tf,List.drop_succ_cons,List.drop_zero];done));(iterate 12 (focus (simp [go_sem,simprocAttr,hb,fZ,hv,ew,dW,ck,tf,List.drop_succ_cons,List.drop_zero];done)));simp only [go_sem,simprocAttr,hb,fZ,hv,ew,dW,ck,tf,List.drop_succ_cons,List.drop_zero,List.map_cons,List.map_nil]));try simp only [go_sem,simprocAttr,hb,fZ,hv,ew,dW,ck,tf,List.drop_succ_cons,List.drop_zero])|(intro h))
   refine ⟨k+1,⟨by omega,fun j hj=> ?_⟩, ?_,by omega⟩
   ·by_cases e:j=k
    ·subst e;exact uI
    ·exact hok j (by omega)
   ·rw [z1]
    have Cg:(vT E).set x [D.sl 3 (List.map rT su.1.1)]=vT (dV g p (k+1)):=ck
    refine Le.of ?_ ?_<;>simp [go_sem,simprocAttr,hb,fZ,hv,ew,dW,ck,tf,List.drop_succ_cons,List.drop_zero,Cg]
 have hb:decide ((k:Int)<(p.ord.length:Int))=false:=decide_eq_false (by omega)
 obtain rfl:k=g.n.toNat:=by omega
 rw [eM.2 hok] at hR
 subst hR
 repeat' (first|fail|((first|((with_reducible (first|apply oA|apply oB));exact rfl;intro K hK)|(refine hK _ ?_;clear hK K)|((with_reducible (first|apply oG|apply oH));iterate 3 exact rfl)|((with_reducible apply oI);(iterate 2 exact rfl);intro K hK)|(with_reducible (first|apply wI|apply wJ|apply wK)));try simp only [go_sem,simprocAttr,hb,ew])|fail|(with_reducible (first|apply oC|apply oJ|exact oK|apply wA|apply wB|apply wC hX hC|apply wD hX hC|apply wE hX hC af|apply wF hX hC af|apply wG|apply wH|apply And.intro))|((with_reducible refine oD ?_ ?_);first|fail|kernel_rfl)|((with_reducible (first|apply oE|apply oF));(iterate 3 exact rfl);all_goals (intro h;first|(exact absurd h (by decide))|((try simp only [go_sem,simprocAttr,hb,ew] at h);(try with_reducible intro K hK);simp only [go_sem,simprocAttr,hb,ew])))|((first|((with_reducible apply wL);exact rfl)|((with_reducible apply wM);exact rfl));all_goals (try ((with_reducible intro h);first|(exact absurd h (by decide))|(try simp only [go_sem,simprocAttr,hb,ew] at h))))|omega|((first|fail);try simp only [go_sem,simprocAttr,hb,ew])|(intro h))
end Go.Ab
end
section
namespace Go.Ab
open Go.Proofs
attribute [local congr] ACall.congr
set_option maxRecDepth 10000
set_option maxHeartbeats 8000000
theorem lQ (g:Gr) (hl:g.es.length≤1000) (p:Pl) (hp:pg p) (b:Bool) (hr:b=true↔(cg g).1=0∧bF g p):
 Spec Tryz.prog 46 (Args [eG g,ePl p]) [] (.tup [.d (.sl 1 (vT (bJ b g p).1.1)), .d (sT (bJ b g p).1.2),eF ((bJ b g p).2.1,(bJ b g p).2.2, [])]) []:=by
 by_cases hc:(cg g).1=0
 rotate_left
 ·obtain rfl:b=false:=by
   rw [← Bool.not_eq_true,hr]
   exact fun h=>hc h.1
  have hR:bJ false g p=(([], []),(1,0)):=rfl
  rw [hR]
  (refine Spec.intro (C:=T.cfg [] []) (rs:= [.t 4, .t 5, .c 6 82]) (T.aq _ _) Tryz.func46 rfl rfl Tryz.ntmps46 Tryz.results46 (by simp [AObj.isNest]) (by simp [AObj.isNest]) (by kernel_rfl) ?_;intro X hX hP hC aM aN vals hA;refine ⟨_,by simp,hA, ?_⟩;have af:X.P.follows .mixedOrders=true:=(by rw [hP];exact T.mixed);clear aM aN)
  repeat' (first|fail|((first|((with_reducible (first|apply oA|apply oB));exact rfl;intro K hK)|(refine hK _ ?_;clear hK K)|((with_reducible (first|apply oG|apply oH));iterate 3 exact rfl)|((with_reducible apply oI);(iterate 2 exact rfl);intro K hK)|(with_reducible (first|apply wI|apply wJ|apply wK)));try simp only [go_sem,simprocAttr,vT,List.map_nil])|fail|(with_reducible (first|apply oC|apply oJ|exact oK|apply wA|apply wB|apply wC hX hC|apply wD hX hC|apply wE hX hC af|apply wF hX hC af|apply wG|apply wH|apply And.intro))|((with_reducible refine oD ?_ ?_);first|fail|kernel_rfl)|((with_reducible (first|apply oE|apply oF));(iterate 3 exact rfl);all_goals (intro h;first|(exact absurd h (by decide))|((try simp only [go_sem,simprocAttr,vT,List.map_nil] at h);(try with_reducible intro K hK);simp only [go_sem,simprocAttr,vT,List.map_nil])))|((first|((with_reducible apply wL);exact rfl)|((with_reducible apply wM);exact rfl));all_goals (try ((with_reducible intro h);first|(exact absurd h (by decide))|(try simp only [go_sem,simprocAttr,vT,List.map_nil] at h))))|omega|((first|first|refine aa hX hC hP (zM g hl hc) rfl rfl rfl (by simp only [go_sem,simprocAttr,vT,List.map_nil]) rfl ?_);try simp only [go_sem,simprocAttr,vT,List.map_nil])|(intro h))
 have hm:=aG hc
 have hn:=aY hm
 have hr:b=true↔bF g p:=by rw [hr];exact ⟨fun h=>h.2,fun h=>⟨hc,h⟩⟩
 have hO:=B8 g hm p hp b hr
 cases b with
 |false=>
  have hR:bJ false g p=(([], []),(1,0)):=rfl
  rw [hR]
  (refine Spec.intro (C:=T.cfg [] []) (rs:= [.t 4, .t 5, .c 6 82]) (T.aq _ _) Tryz.func46 rfl rfl Tryz.ntmps46 Tryz.results46 (by simp [AObj.isNest]) (by simp [AObj.isNest]) (by kernel_rfl) ?_;intro X hX hP hC aM aN vals hA;refine ⟨_,by simp,hA, ?_⟩;have af:X.P.follows .mixedOrders=true:=(by rw [hP];exact T.mixed);clear aM aN)
  repeat' (first|fail|((first|((with_reducible (first|apply oA|apply oB));exact rfl;intro K hK)|(refine hK _ ?_;clear hK K)|((with_reducible (first|apply oG|apply oH));iterate 3 exact rfl)|((with_reducible apply oI);(iterate 2 exact rfl);intro K hK)|(with_reducible (first|apply wI|apply wJ|apply wK)));try simp only [go_sem,simprocAttr,vT,List.map_nil])|fail|(with_reducible (first|apply oC|apply oJ|exact oK|apply wA|apply wB|apply wC hX hC|apply wD hX hC|apply wE hX hC af|apply wF hX hC af|apply wG|apply wH|apply And.intro))|((with_reducible refine oD ?_ ?_);first|fail|kernel_rfl)|((with_reducible (first|apply oE|apply oF));(iterate 3 exact rfl);all_goals (intro h;first|(exact absurd h (by decide))|((try simp only [go_sem,simprocAttr,vT,List.map_nil] at h);(try with_reducible intro K hK);simp only [go_sem,simprocAttr,vT,List.map_nil])))|((first|((with_reducible apply wL);exact rfl)|((with_reducible apply wM);exact rfl));all_goals (try ((with_reducible intro h);first|(exact absurd h (by decide))|(try simp only [go_sem,simprocAttr,vT,List.map_nil] at h))))|omega|((first|first|(refine qM hX hC hP [(10000,13)] (s7 g hl hc hm) rfl rfl rfl ?_ ?_ ?_ ?_ ?_ ?_ ?_ ?_ ?_ ?_ ?_ ?_ ?_ ?_;(focus (simp only [go_sem,simprocAttr,vT,List.map_nil];done));(iterate 12 (focus (simp [go_sem,simprocAttr,vT,List.map_nil];done)));simp only [go_sem,simprocAttr,vT,List.map_nil,List.map_cons,List.map_nil])|refine aa hX hC hP (fu g hm) rfl rfl rfl (by simp only [go_sem,simprocAttr,vT,List.map_nil]) rfl ?_|refine aa hX hC hP (hO) rfl rfl rfl (by simp only [go_sem,simprocAttr,vT,List.map_nil]) rfl ?_);try simp only [go_sem,simprocAttr,vT,List.map_nil])|(intro h))
 |true=>
 have zZ:=hr.1 rfl
 have hle:=bY zZ
 have hR:bJ true g p=match iG g p g.n.toNat with
  |some i=>(([], []),(3,(i:Int)))
  |none=>((dV g p g.n.toNat,(fK g p g.n.toNat).row),(0,0)):=rfl
 generalize bJ true g p=R at hR
 (refine Spec.intro (C:=T.cfg [] []) (rs:= [.t 4, .t 5, .c 6 82]) (T.aq _ _) Tryz.func46 rfl rfl Tryz.ntmps46 Tryz.results46 (by simp [AObj.isNest]) (by simp [AObj.isNest]) (by kernel_rfl) ?_;intro X hX hP hC aM aN vals hA;refine ⟨_,by simp,hA, ?_⟩;have af:X.P.follows .mixedOrders=true:=(by rw [hP];exact T.mixed);clear aM aN)
 repeat' (first|fail|((first|((with_reducible (first|apply oA|apply oB));exact rfl;intro K hK)|(refine hK _ ?_;clear hK K)|((with_reducible (first|apply oG|apply oH));iterate 3 exact rfl)|((with_reducible apply oI);(iterate 2 exact rfl);intro K hK)|(with_reducible (first|apply wI|apply wJ|apply wK)));try simp only [go_sem,simprocAttr])|(show dB _ (.seq (.region 5 _ _) _) _ _;(refine nk 13 0 3 rfl rfl rfl ?_;simp only [LA.app,ASt.put,ASt.kill,putM,rml,List.set_cons_zero,List.set_cons_succ,go_sem,simprocAttr]);(refine vM hX 13 2 100 (.tip 3 1 []) rfl rfl rfl (by simp only [go_sem,simprocAttr]) (by decide) (by simp [go_sem,simprocAttr]) ⟨3,1,by decide, .inr rfl⟩ ?_;simp only [LA.app,ASt.put,ASt.kill,subT,rmk,putM,rml,kl,AV.sub,AV.subs,AObj.sub,List.set_cons_zero,List.set_cons_succ,go_sem,simprocAttr]))|(with_reducible (first|apply oC|apply oJ|exact oK|apply wA|apply wB|apply wC hX hC|apply wD hX hC|apply wE hX hC af|apply wF hX hC af|apply wG|apply wH|apply And.intro))|((with_reducible refine oD ?_ ?_);first|fail|kernel_rfl)|((with_reducible (first|apply oE|apply oF));(iterate 3 exact rfl);all_goals (intro h;first|(exact absurd h (by decide))|((try simp only [go_sem,simprocAttr] at h);(try with_reducible intro K hK);simp only [go_sem,simprocAttr])))|((first|((with_reducible apply wL);exact rfl)|((with_reducible apply wM);exact rfl));all_goals (try ((with_reducible intro h);first|(exact absurd h (by decide))|(try simp only [go_sem,simprocAttr] at h))))|omega|((first|first|(refine qM hX hC hP [(10000,13)] (s7 g hl hc hm) rfl rfl rfl ?_ ?_ ?_ ?_ ?_ ?_ ?_ ?_ ?_ ?_ ?_ ?_ ?_ ?_;(focus (simp only [go_sem,simprocAttr];done));(iterate 12 (focus (simp [go_sem,simprocAttr];done)));simp only [go_sem,simprocAttr,List.map_cons,List.map_nil])|refine aa hX hC hP (fu g hm) rfl rfl rfl (by simp only [go_sem,simprocAttr]) rfl ?_|refine aa hX hC hP (hO) rfl rfl rfl (by simp only [go_sem,simprocAttr]) rfl ?_);try simp only [go_sem,simprocAttr])|(intro h))
 rw [Cc]
 refine an (fun k:Nat=>k≤g.n.toNat∧∀j,j<k→xP g p j=true) (fun k=>⟨[(3, .ptr 3 0),(4, .ref 28),(6, .ptr 6 0),(7, .ptr 13 0),(30, .d (sI p.ord)),(31,eN p.ord.length),(32,eN k)], [(28, .own 80 1 (vT (dV g p k))),(13, .box [.d (sT (fK g p k).row), .d (vw g), .ref 100]),(100, .tip 3 1 ((fK g p k).pl.map rI)),(6, .box [eN 0,eN 0, .nil 3]),(3, .box [.d (sI p.ord), .d (.sl 1 (vI p.outs))])]⟩) (fun k=>g.n.toNat - k) 0 (by simp) ?_ ?_
 ·refine Le.of ?_ ?_<;>simp [go_sem,simprocAttr,ew,fK,dV]
 rintro k ⟨hk,hok⟩
 obtain ⟨hi,_,hrl⟩:=dy hm zZ hk hok
 have hel:=kP (g:=g) (p:=p) (k:=k)
 have hmul:k*(g.es.length+1)≤64*129:=Nat.mul_le_mul (by omega) (by omega)
 rcases Nat.lt_or_ge k g.n.toNat with hlt|hge
 ·have hb:decide ((k:Int)<(p.ord.length:Int))=true:=decide_eq_true (by omega)
  have CS:=aF zZ hlt
  have eA:=td (g:=g) (p:=p) (k:=k)
  have z1:fK g p (k+1)=(aA g (fK g p k) (au p k) (bE p (au p k))).2:=rfl
  have uH:eZ g p k=(aA g (fK g p k) (au p k) (bE p (au p k))).1.1:=rfl
  have hpk:=wk zZ hlt
  have Ce:=wm (g:=g) (p:=p) (k:=k)
  have hsk:xP g p k=false→R=(([], []),(3,(k:Int))):=fun h=>by
   rw [hR,mE.2 ⟨hlt,h,hok⟩]
  have kf:=jZ zZ CS.1 CS.2
  have fZ:p.ord.getD k 0=au p k:=rfl
  have Cf:(fK g p k).pl.length≤64:=by
   rcases Ek hi.togH with h|h
   ·omega
   ·rw [h];simp
  obtain ⟨x,hx⟩:∃x:Nat,au p k=x:=⟨(au p k).toNat,by omega⟩
  rw [hx] at fZ z1 uH hpk Ce CS kf eA
  have hxl:x<p.outs.length:=by have:=zZ.1;omega
  have hv:=jW hxl
  have hla:bE p (x:Int)=p.outs.getD x []:=by unfold bE;rw [Int.toNat_natCast]
  rw [hla] at z1 uH hpk Ce kf
  rw [Int.toNat_natCast] at eA
  have kg:=wq g hm (fK g p k) hi (x:Int) (p.outs.getD x []) (by omega) (by omega) (by omega)
  have ck:=Cd (ls:=dV g p k) (k:=x) (l:=eZ g p k)
  generalize p.outs.getD x []=o at hv z1 uH hpk Ce kg
  rw [← eA] at ck
  generalize fK g p k=f at z1 uH hpk Ce kg hi hrl Cf
  have IM:x<(dV g p k).length:=by omega
  have hvl:(vT (dV g p k)).length=(dV g p k).length:=vT_length
  cases uI:xP g p k with
  |false=>
   rw [Ce uI] at kg
   simp only at kg
   have Fk:=hsk uI
   subst Fk
   repeat' (first|fail|((first|((with_reducible (first|apply oA|apply oB));exact rfl;intro K hK)|(refine hK _ ?_;clear hK K)|((with_reducible (first|apply oG|apply oH));iterate 3 exact rfl)|((with_reducible apply oI);(iterate 2 exact rfl);intro K hK)|(with_reducible (first|apply wI|apply wJ|apply wK)));try simp only [go_sem,simprocAttr,hb,fZ,hv,iy,rz,List.map_nil])|fail|(with_reducible (first|apply oC|apply oJ|exact oK|apply wA|apply wB|apply wC hX hC|apply wD hX hC|apply wE hX hC af|apply wF hX hC af|apply wG|apply wH|apply And.intro))|((with_reducible refine oD ?_ ?_);first|fail|kernel_rfl)|((with_reducible (first|apply oE|apply oF));(iterate 3 exact rfl);all_goals (intro h;first|(exact absurd h (by decide))|((try simp only [go_sem,simprocAttr,hb,fZ,hv,iy,rz,List.map_nil] at h);(try with_reducible intro K hK);simp only [go_sem,simprocAttr,hb,fZ,hv,iy,rz,List.map_nil])))|((first|((with_reducible apply wL);exact rfl)|((with_reducible apply wM);exact rfl));all_goals (try ((with_reducible intro h);first|(exact absurd h (by decide))|(try simp only [go_sem,simprocAttr,hb,fZ,hv,iy,rz,List.map_nil] at h))))|omega|((first|first|(refine az hX hC hP [(10000,13),(10001,100),(10002,101)] (kg) rfl rfl rfl ?_ ?_ ?_ ?_ ?_ ?_ ?_ ?_ ?_ ?_ ?_ ?_ ?_ ?_;(focus (simp only [go_sem,simprocAttr,hb,fZ,hv,iy,rz,List.map_nil];done));(iterate 12 (focus (simp [go_sem,simprocAttr,hb,fZ,hv,iy,rz,List.map_nil];done)));simp only [go_sem,simprocAttr,hb,fZ,hv,iy,rz,List.map_nil,List.map_cons,List.map_nil]));try simp only [go_sem,simprocAttr,hb,fZ,hv,iy,rz,List.map_nil])|(intro h))
   all_goals rfl
  |true=>
   rw [hpk uI] at kg
   have dW:(aA g f (x:Int) o).1.2=0:=rfl
   rw [uH] at ck
   generalize aA g f (x:Int) o=su at z1 uH kg dW ck
   generalize NV:dV g p k=E at ck IM hel hvl
   have tf:=fun d=>nw IM d
   repeat' (first|fail|((first|((with_reducible (first|apply oA|apply oB));exact rfl;intro K hK)|(refine hK _ ?_;clear hK K)|((with_reducible (first|apply oG|apply oH));iterate 3 exact rfl)|((with_reducible apply oI);(iterate 2 exact rfl);intro K hK)|(with_reducible (first|apply wI|apply wJ|apply wK)));try simp only [go_sem,simprocAttr,hb,fZ,hv,iy,rz,dW,ck,tf,List.drop_succ_cons,List.drop_zero])|(show dB _ (.region 11 _ _) _ _;(refine iE hX 13 2 101 100 rfl rfl rfl (by first|exact .inl rfl|exact .inr rfl) (by decide) (by decide) ?_;simp only [LA.app,ASt.put,ASt.kill,subT,rmk,putM,rml,kl,AV.sub,AV.subs,AObj.sub,List.set_cons_zero,List.set_cons_succ,go_sem,simprocAttr,hb,fZ,hv,iy,rz,dW,ck,tf,List.drop_succ_cons,List.drop_zero]))|(with_reducible (first|apply oC|apply oJ|exact oK|apply wA|apply wB|apply wC hX hC|apply wD hX hC|apply wE hX hC af|apply wF hX hC af|apply wG|apply wH|apply And.intro))|((with_reducible refine oD ?_ ?_);first|fail|kernel_rfl)|((with_reducible (first|apply oE|apply oF));(iterate 3 exact rfl);all_goals (intro h;first|(exact absurd h (by decide))|((try simp only [go_sem,simprocAttr,hb,fZ,hv,iy,rz,dW,ck,tf,List.drop_succ_cons,List.drop_zero] at h);(try with_reducible intro K hK);simp only [go_sem,simprocAttr,hb,fZ,hv,iy,rz,dW,ck,tf,List.drop_succ_cons,List.drop_zero])))|((first|((with_reducible apply wL);exact rfl)|((with_reducible apply wM);exact rfl));all_goals (try ((with_reducible intro h);first|(exact absurd h (by decide))|(try simp only [go_sem,simprocAttr,hb,fZ,hv,iy,rz,dW,ck,tf,List.drop_succ_cons,List.drop_zero] at h))))|omega|((first|first|(refine az hX hC hP [(10000,13),(10001,100),(10002,101)] (kg) rfl rfl rfl ?_ ?_ ?_ ?_ ?_ ?_ ?_ ?_ ?_ ?_ ?_ ?_ ?_ ?_;(focus (simp only [go_sem,simprocAttr,hb,fZ,hv,iy,rz,dW,ck,tf,List.drop_succ_cons,List.drop_zero];done));(iterate 12 (focus (simp [go_sem,simprocAttr,hb,fZ,hv,iy,rz,dW,ck,tf,List.drop_succ_cons,List.drop_zero];done)));simp only [go_sem,simprocAttr,hb,fZ,hv,iy,rz,dW,ck,tf,List.drop_succ_cons,List.drop_zero,List.map_cons,List.map_nil]));try simp only [go_sem,simprocAttr,hb,fZ,hv,iy,rz,dW,ck,tf,List.drop_succ_cons,List.drop_zero])|(intro h))
   refine ⟨k+1,⟨by omega,fun j hj=> ?_⟩, ?_,by omega⟩
   ·by_cases e:j=k
    ·subst e;exact uI
    ·exact hok j (by omega)
   ·rw [z1]
    have Cg:(vT E).set x [D.sl 3 (List.map rT su.1.1)]=vT (dV g p (k+1)):=ck
    refine Le.of ?_ ?_<;>simp [go_sem,simprocAttr,hb,fZ,hv,iy,rz,dW,ck,tf,List.drop_succ_cons,List.drop_zero,Cg]
 have hb:decide ((k:Int)<(p.ord.length:Int))=false:=decide_eq_false (by omega)
 obtain rfl:k=g.n.toNat:=by omega
 rw [eM.2 hok] at hR
 subst hR
 repeat' (first|fail|((first|((with_reducible (first|apply oA|apply oB));exact rfl;intro K hK)|(refine hK _ ?_;clear hK K)|((with_reducible (first|apply oG|apply oH));iterate 3 exact rfl)|((with_reducible apply oI);(iterate 2 exact rfl);intro K hK)|(with_reducible (first|apply wI|apply wJ|apply wK)));try simp only [go_sem,simprocAttr,hb])|fail|(with_reducible (first|apply oC|apply oJ|exact oK|apply wA|apply wB|apply wC hX hC|apply wD hX hC|apply wE hX hC af|apply wF hX hC af|apply wG|apply wH|apply And.intro))|((with_reducible refine oD ?_ ?_);first|fail|kernel_rfl)|((with_reducible (first|apply oE|apply oF));(iterate 3 exact rfl);all_goals (intro h;first|(exact absurd h (by decide))|((try simp only [go_sem,simprocAttr,hb] at h);(try with_reducible intro K hK);simp only [go_sem,simprocAttr,hb])))|((first|((with_reducible apply wL);exact rfl)|((with_reducible apply wM);exact rfl));all_goals (try ((with_reducible intro h);first|(exact absurd h (by decide))|(try simp only [go_sem,simprocAttr,hb] at h))))|omega|((first|first|(refine o4 hX hC hP 60 (zK [vw g,sI (fK g p g.n.toNat).pl] (fK g p g.n.toNat).row (by omega)) rfl rfl rfl ?_ ?_ (by first|exact ⟨_,_,_,rfl,Eh⟩|exact ⟨_,_,_,rfl,Ei⟩|exact ⟨_,_,_,rfl,Ej⟩) rfl (by decide) ?_;(iterate 2 (focus (simp only [go_sem,simprocAttr,hb];done)));simp only [go_sem,simprocAttr,hb]));try simp only [go_sem,simprocAttr,hb])|(intro h))
end Go.Ab
end
section
namespace Go.Ab
open Go.Proofs
attribute [local congr] ACall.congr
set_option maxRecDepth 10000
set_option maxHeartbeats 8000000
def OS (n:Int) (es:List Edge) (ord:List Int) (O:List (List Int)):List (Nat × AObj):= [(10000, .box [eN n, .ref 10001, .ref 10002, .ref 10003]),(10001, .tip 58 2 (es.map rE)),(10002, .tip 3 1 (ord.map rI)),(10003, .own 25 1 (vI O))]
def OU (n:Int) (es:List Edge) (ord:List Int) (O:List (List Int)):List (Nat × AObj):= [(10000, .box [eN n, .ref 10004, .ref 10002, .ref 10003]),(10004, .tip 58 2 (es.map rE)),(10002, .tip 3 1 (ord.map rI)),(10003, .own 25 1 (vI O))]
def NW (x:Int) (items:List It):List Edge:=(loose items).map fun v=>(v,x)
end Go.Ab
end
section
namespace Go.Ab
open Go.Proofs
attribute [local congr] ACall.congr
set_option maxRecDepth 10000
set_option maxHeartbeats 16000000
def pz:Pl:=⟨[], []⟩
def NX (b:Bool) (g:Gr) (p:Pl):Gr × Pl × Int:=
 if (bJ b g p).2.1≠0 then (gz,pz,1) else if 64<(B7 g p).n∨128<(B7 g p).es.length then (gz,pz,10) else (B7 g p,Lq g p,0)
theorem tg {b:Bool} {g:Gr} {p:Pl} (hr:b=true↔(cg g).1=0∧bF g p) (h:(bJ b g p).2.1=0):cA g p∧bJ b g p=((dV g p g.n.toNat,kQ g p),(0,0)):=by
 cases b with
 |false=>simp [bJ] at h
 |true=>
  have hR:bJ true g p=match iG g p g.n.toNat with
   |some i=>(([], []),(3,(i:Int)))
   |none=>((dV g p g.n.toNat,(fK g p g.n.toNat).row),(0,0)):=rfl
  cases hs:iG g p g.n.toNat with
  |some i=>rw [hR,hs] at h;simp at h
  |none=>
   obtain ⟨h1,h2⟩:=hr.1 rfl
   exact ⟨⟨h1,h2,eM.1 hs⟩,by rw [hR,hs];rfl⟩
end Go.Ab
end
section
namespace Go.Ab
open Go.Proofs
attribute [local congr] ACall.congr
set_option maxRecDepth 10000
set_option maxHeartbeats 16000000
def NY (p:Pl) (x:Gr) (k:Nat):List (List Int):=(List.range k).map fun v=>if 0<(p.outs.getD v []).length then p.outs.getD v [] else bt x (v:Int)
theorem xR {g:Gr} {p:Pl} (hr:cA g p):∀t∈kQ g p,t.1<0:=by
 obtain ⟨hc,h,hok⟩:=hr
 have hm:=aG hc
 have hn:=aY hm
 obtain ⟨hi,gv,_⟩:=dy hm h (k:=g.n.toNat) (Nat.le_refl _) hok
 intro t ht
 refine Decidable.byContradiction fun h0=> ?_
 rcases hi.it t ht with ⟨h1,_⟩|⟨h1,h2,_,h4⟩
 ·omega
 ·have Ms:=(fR hm (k:=t.1.toNat) (by omega)).2
  rw [← h4] at Ms
  refine hi.head t ht h1 (jv hi.togH ?_ Ms)
  rw [gv,List.length_take,bY h];omega
end Go.Ab
end
section
namespace Go.Ab
open Go.Proofs
attribute [local congr] ACall.congr
set_option maxRecDepth 10000
set_option maxHeartbeats 8000000
def pJ (g:Gr) (p:Pl):Bool:=decide (200<g.es.length)||decide (100<p.ord.length)||decide (100<p.outs.length)||p.outs.any fun l=>decide (200<l.length)
theorem yF {g:Gr} {p:Pl} (h:pJ g p=false):g.es.length≤200∧p.ord.length≤100∧p.outs.length≤100∧∀l∈p.outs,l.length≤200:=by
 simp only [pJ,Bool.or_eq_false_iff,decide_eq_false_iff_not,List.any_eq_false,decide_eq_true_eq] at h
 obtain ⟨⟨⟨h1,h2⟩,h3⟩,h4⟩:=h
 exact ⟨by omega,by omega,by omega,fun l hl=>by have:=h4 l hl;omega⟩
theorem wz {g:Gr} {p:Pl} (h:pJ g p=false):pg p:=by
 obtain ⟨_,h1,h2,h3⟩:=yF h
 exact ⟨by omega,by omega,fun l hl=>by have:=h3 l hl;omega⟩
structure yG (p:Pl):Prop where
 ord:p.ord.length≤9223372036854775807
 outs:p.outs.length≤9223372036854775807
 each:∀l∈p.outs,l.length≤9223372036854775807
theorem uJ (g:Gr) (p:Pl) (hl:g.es.length≤9223372036854775807) (hp:yG p):Spec Tryz.prog 19 (Args [eG g,ePl p]) [] (eB (pJ g p)) []:=by
 have ho:=hp.ord
 have hu:=hp.outs
 (refine Spec.intro (C:=T.cfg [] []) (rs:= [.t 4]) (T.aq _ _) Tryz.func19 rfl rfl Tryz.ntmps19 Tryz.results19 (by simp [AObj.isNest]) (by simp [AObj.isNest]) (by kernel_rfl) ?_;intro X hX hP hC aM aN vals hA;refine ⟨_,by simp,hA, ?_⟩;have af:X.P.follows .mixedOrders=true:=(by rw [hP];exact T.mixed);clear aM aN)
 generalize hB:pJ g p=B
 by_cases h1:200<g.es.length
 ·have aj:decide (200<(g.es.length:Int))=true:=decide_eq_true (by omega)
  have:B=true:=by rw [← hB,pJ,decide_eq_true h1];rfl
  subst this
  repeat' (first|fail|((first|((with_reducible (first|apply oA|apply oB));exact rfl;intro K hK)|(refine hK _ ?_;clear hK K)|((with_reducible (first|apply oG|apply oH));iterate 3 exact rfl)|((with_reducible apply oI);(iterate 2 exact rfl);intro K hK)|(with_reducible (first|apply wI|apply wJ|apply wK)));try simp only [go_sem,simprocAttr,aj])|fail|(with_reducible (first|apply oC|apply oJ|exact oK|apply wA|apply wB|apply wC hX hC|apply wD hX hC|apply wE hX hC af|apply wF hX hC af|apply wG|apply wH|apply And.intro))|((with_reducible refine oD ?_ ?_);first|fail|kernel_rfl)|((with_reducible (first|apply oE|apply oF));(iterate 3 exact rfl);all_goals (intro h;first|(exact absurd h (by decide))|((try simp only [go_sem,simprocAttr,aj] at h);(try with_reducible intro K hK);simp only [go_sem,simprocAttr,aj])))|((first|((with_reducible apply wL);exact rfl)|((with_reducible apply wM);exact rfl));all_goals (try ((with_reducible intro h);first|(exact absurd h (by decide))|(try simp only [go_sem,simprocAttr,aj] at h))))|omega|((first|fail);try simp only [go_sem,simprocAttr,aj])|(intro h))
 have aj:decide (200<(g.es.length:Int))=false:=decide_eq_false (by omega)
 by_cases h2:100<p.ord.length
 ·have ak:decide (100<(p.ord.length:Int))=true:=decide_eq_true (by omega)
  have:B=true:=by rw [← hB,pJ,decide_eq_true h2];simp
  subst this
  repeat' (first|fail|((first|((with_reducible (first|apply oA|apply oB));exact rfl;intro K hK)|(refine hK _ ?_;clear hK K)|((with_reducible (first|apply oG|apply oH));iterate 3 exact rfl)|((with_reducible apply oI);(iterate 2 exact rfl);intro K hK)|(with_reducible (first|apply wI|apply wJ|apply wK)));try simp only [go_sem,simprocAttr,aj,ak])|fail|(with_reducible (first|apply oC|apply oJ|exact oK|apply wA|apply wB|apply wC hX hC|apply wD hX hC|apply wE hX hC af|apply wF hX hC af|apply wG|apply wH|apply And.intro))|((with_reducible refine oD ?_ ?_);first|fail|kernel_rfl)|((with_reducible (first|apply oE|apply oF));(iterate 3 exact rfl);all_goals (intro h;first|(exact absurd h (by decide))|((try simp only [go_sem,simprocAttr,aj,ak] at h);(try with_reducible intro K hK);simp only [go_sem,simprocAttr,aj,ak])))|((first|((with_reducible apply wL);exact rfl)|((with_reducible apply wM);exact rfl));all_goals (try ((with_reducible intro h);first|(exact absurd h (by decide))|(try simp only [go_sem,simprocAttr,aj,ak] at h))))|omega|((first|fail);try simp only [go_sem,simprocAttr,aj,ak])|(intro h))
 have ak:decide (100<(p.ord.length:Int))=false:=decide_eq_false (by omega)
 by_cases h3:100<p.outs.length
 ·have bq:decide (100<(p.outs.length:Int))=true:=decide_eq_true (by omega)
  have:B=true:=by rw [← hB,pJ,decide_eq_true h3];simp
  subst this
  repeat' (first|fail|((first|((with_reducible (first|apply oA|apply oB));exact rfl;intro K hK)|(refine hK _ ?_;clear hK K)|((with_reducible (first|apply oG|apply oH));iterate 3 exact rfl)|((with_reducible apply oI);(iterate 2 exact rfl);intro K hK)|(with_reducible (first|apply wI|apply wJ|apply wK)));try simp only [go_sem,simprocAttr,aj,ak,bq])|fail|(with_reducible (first|apply oC|apply oJ|exact oK|apply wA|apply wB|apply wC hX hC|apply wD hX hC|apply wE hX hC af|apply wF hX hC af|apply wG|apply wH|apply And.intro))|((with_reducible refine oD ?_ ?_);first|fail|kernel_rfl)|((with_reducible (first|apply oE|apply oF));(iterate 3 exact rfl);all_goals (intro h;first|(exact absurd h (by decide))|((try simp only [go_sem,simprocAttr,aj,ak,bq] at h);(try with_reducible intro K hK);simp only [go_sem,simprocAttr,aj,ak,bq])))|((first|((with_reducible apply wL);exact rfl)|((with_reducible apply wM);exact rfl));all_goals (try ((with_reducible intro h);first|(exact absurd h (by decide))|(try simp only [go_sem,simprocAttr,aj,ak,bq] at h))))|omega|((first|fail);try simp only [go_sem,simprocAttr,aj,ak,bq])|(intro h))
 have bq:decide (100<(p.outs.length:Int))=false:=decide_eq_false (by omega)
 have w8:B=p.outs.any fun l=>decide (200<l.length):=by rw [← hB,pJ,decide_eq_false h1,decide_eq_false h2,decide_eq_false h3];simp
 clear hB
 repeat' (first|fail|((first|((with_reducible (first|apply oA|apply oB));exact rfl;intro K hK)|(refine hK _ ?_;clear hK K)|((with_reducible (first|apply oG|apply oH));iterate 3 exact rfl)|((with_reducible apply oI);(iterate 2 exact rfl);intro K hK)|(with_reducible (first|apply wI|apply wJ|apply wK)));try simp only [go_sem,simprocAttr,aj,ak,bq])|fail|(with_reducible (first|apply oC|apply oJ|exact oK|apply wA|apply wB|apply wC hX hC|apply wD hX hC|apply wE hX hC af|apply wF hX hC af|apply wG|apply wH|apply And.intro))|((with_reducible refine oD ?_ ?_);first|fail|kernel_rfl)|((with_reducible (first|apply oE|apply oF));(iterate 3 exact rfl);all_goals (intro h;first|(exact absurd h (by decide))|((try simp only [go_sem,simprocAttr,aj,ak,bq] at h);(try with_reducible intro K hK);simp only [go_sem,simprocAttr,aj,ak,bq])))|((first|((with_reducible apply wL);exact rfl)|((with_reducible apply wM);exact rfl));all_goals (try ((with_reducible intro h);first|(exact absurd h (by decide))|(try simp only [go_sem,simprocAttr,aj,ak,bq] at h))))|omega|((first|fail);try simp only [go_sem,simprocAttr,aj,ak,bq])|(intro h))
 refine an (fun k:Nat=>k≤p.outs.length∧∀j,j<k→(p.outs.getD j []).length≤200) (fun k=>⟨[(24, .d (.sl 1 (vI p.outs))),(25,eN p.outs.length),(26,eN k)], []⟩) (fun k=>p.outs.length - k) 0 (by simp) ?_ ?_
 ·(refine Le.of ?_ ?_<;>simp [go_sem,simprocAttr])
 rintro k ⟨hk,hg⟩
 rcases Nat.lt_or_ge k p.outs.length with cy|FG
 ·have hb:decide ((k:Int)<(p.outs.length:Int))=true:=decide_eq_true (by omega)
  have hv:=jW cy
  have hm:=aZ (d:= []) cy
  have kf:=hp.each _ hm
  by_cases h4:200<(p.outs.getD k []).length
  ·have hb4:decide (200<((p.outs.getD k []).length:Int))=true:=decide_eq_true (by omega)
   have:B=true:=by rw [w8,List.any_eq_true];exact ⟨_,hm,decide_eq_true h4⟩
   subst this
   repeat' (first|fail|((first|((with_reducible (first|apply oA|apply oB));exact rfl;intro K hK)|(refine hK _ ?_;clear hK K)|((with_reducible (first|apply oG|apply oH));iterate 3 exact rfl)|((with_reducible apply oI);(iterate 2 exact rfl);intro K hK)|(with_reducible (first|apply wI|apply wJ|apply wK)));try simp only [go_sem,simprocAttr,hb,hv,hb4])|fail|(with_reducible (first|apply oC|apply oJ|exact oK|apply wA|apply wB|apply wC hX hC|apply wD hX hC|apply wE hX hC af|apply wF hX hC af|apply wG|apply wH|apply And.intro))|((with_reducible refine oD ?_ ?_);first|fail|kernel_rfl)|((with_reducible (first|apply oE|apply oF));(iterate 3 exact rfl);all_goals (intro h;first|(exact absurd h (by decide))|((try simp only [go_sem,simprocAttr,hb,hv,hb4] at h);(try with_reducible intro K hK);simp only [go_sem,simprocAttr,hb,hv,hb4])))|((first|((with_reducible apply wL);exact rfl)|((with_reducible apply wM);exact rfl));all_goals (try ((with_reducible intro h);first|(exact absurd h (by decide))|(try simp only [go_sem,simprocAttr,hb,hv,hb4] at h))))|omega|((first|fail);try simp only [go_sem,simprocAttr,hb,hv,hb4])|(intro h))
  ·have hb4:decide (200<((p.outs.getD k []).length:Int))=false:=decide_eq_false (by omega)
   repeat' (first|fail|((first|((with_reducible (first|apply oA|apply oB));exact rfl;intro K hK)|(refine hK _ ?_;clear hK K)|((with_reducible (first|apply oG|apply oH));iterate 3 exact rfl)|((with_reducible apply oI);(iterate 2 exact rfl);intro K hK)|(with_reducible (first|apply wI|apply wJ|apply wK)));try simp only [go_sem,simprocAttr,hb,hv,hb4])|fail|(with_reducible (first|apply oC|apply oJ|exact oK|apply wA|apply wB|apply wC hX hC|apply wD hX hC|apply wE hX hC af|apply wF hX hC af|apply wG|apply wH|apply And.intro))|((with_reducible refine oD ?_ ?_);first|fail|kernel_rfl)|((with_reducible (first|apply oE|apply oF));(iterate 3 exact rfl);all_goals (intro h;first|(exact absurd h (by decide))|((try simp only [go_sem,simprocAttr,hb,hv,hb4] at h);(try with_reducible intro K hK);simp only [go_sem,simprocAttr,hb,hv,hb4])))|((first|((with_reducible apply wL);exact rfl)|((with_reducible apply wM);exact rfl));all_goals (try ((with_reducible intro h);first|(exact absurd h (by decide))|(try simp only [go_sem,simprocAttr,hb,hv,hb4] at h))))|omega|((first|fail);try simp only [go_sem,simprocAttr,hb,hv,hb4])|(intro h))
   refine ⟨k+1,⟨by omega,fun j hj=> ?_⟩, ?_,by omega⟩
   ·by_cases e:j=k
    ·subst e;omega
    ·exact hg j (by omega)
   ·(refine Le.of ?_ ?_<;>simp [go_sem,simprocAttr,hb,hv,hb4])
 ·have hb:decide ((k:Int)<(p.outs.length:Int))=false:=decide_eq_false (by omega)
  have:B=false:=by
   rw [w8,List.any_eq_false]
   intro l hl
   obtain ⟨j,hj,rfl⟩:=List.mem_iff_getElem.1 hl
   have:=hg j (by omega)
   rw [List.getD_eq_getElem?_getD,List.getElem?_eq_getElem hj,Option.getD_some] at this
   simp;omega
  subst this
  repeat' (first|fail|((first|((with_reducible (first|apply oA|apply oB));exact rfl;intro K hK)|(refine hK _ ?_;clear hK K)|((with_reducible (first|apply oG|apply oH));iterate 3 exact rfl)|((with_reducible apply oI);(iterate 2 exact rfl);intro K hK)|(with_reducible (first|apply wI|apply wJ|apply wK)));try simp only [go_sem,simprocAttr,hb])|fail|(with_reducible (first|apply oC|apply oJ|exact oK|apply wA|apply wB|apply wC hX hC|apply wD hX hC|apply wE hX hC af|apply wF hX hC af|apply wG|apply wH|apply And.intro))|((with_reducible refine oD ?_ ?_);first|fail|kernel_rfl)|((with_reducible (first|apply oE|apply oF));(iterate 3 exact rfl);all_goals (intro h;first|(exact absurd h (by decide))|((try simp only [go_sem,simprocAttr,hb] at h);(try with_reducible intro K hK);simp only [go_sem,simprocAttr,hb])))|((first|((with_reducible apply wL);exact rfl)|((with_reducible apply wM);exact rfl));all_goals (try ((with_reducible intro h);first|(exact absurd h (by decide))|(try simp only [go_sem,simprocAttr,hb] at h))))|omega|((first|fail);try simp only [go_sem,simprocAttr,hb])|(intro h))
def kS (g:Gr):Bool:=decide ((cg g).1=0)&&decide ((bp (·.1) g).length=1)
theorem rO (g:Gr) (hl:g.es.length≤1000):Spec Tryz.prog 51 (Args [eG g]) [] (eB (kS g)) []:=by
 by_cases hc:(cg g).1=0
 ·have hm:=aG hc
  have aj:decide ((cg g).1=0)=true:=decide_eq_true hc
  have hI:kS g=decide (((bp (·.1) g).length:Int)=1):=by
   unfold kS;rw [aj,Bool.true_and,decide_eq_decide];omega
  rw [hI]
  generalize iL:bp (·.1) g=bl
  have hS:=mu g hm
  rw [iL] at hS
  (refine Spec.intro (C:=T.cfg [] []) (rs:= [.t 2]) (T.aq _ _) Tryz.func51 rfl rfl Tryz.ntmps51 Tryz.results51 (by simp [AObj.isNest]) (by simp [AObj.isNest]) (by kernel_rfl) ?_;intro X hX hP hC aM aN vals hA;refine ⟨_,by simp,hA, ?_⟩;have af:X.P.follows .mixedOrders=true:=(by rw [hP];exact T.mixed);clear aM aN)
  repeat' (first|fail|((first|((with_reducible (first|apply oA|apply oB));exact rfl;intro K hK)|(refine hK _ ?_;clear hK K)|((with_reducible (first|apply oG|apply oH));iterate 3 exact rfl)|((with_reducible apply oI);(iterate 2 exact rfl);intro K hK)|(with_reducible (first|apply wI|apply wJ|apply wK)));try simp only [go_sem,simprocAttr,aj])|fail|(with_reducible (first|apply oC|apply oJ|exact oK|apply wA|apply wB|apply wC hX hC|apply wD hX hC|apply wE hX hC af|apply wF hX hC af|apply wG|apply wH|apply And.intro))|((with_reducible refine oD ?_ ?_);first|fail|kernel_rfl)|((with_reducible (first|apply oE|apply oF));(iterate 3 exact rfl);all_goals (intro h;first|(exact absurd h (by decide))|((try simp only [go_sem,simprocAttr,aj] at h);(try with_reducible intro K hK);simp only [go_sem,simprocAttr,aj])))|((first|((with_reducible apply wL);exact rfl)|((with_reducible apply wM);exact rfl));all_goals (try ((with_reducible intro h);first|(exact absurd h (by decide))|(try simp only [go_sem,simprocAttr,aj] at h))))|omega|((first|first|refine aa hX hC hP (jQ g hl) rfl rfl rfl (by simp only [go_sem,simprocAttr,aj]) rfl ?_|refine aa hX hC hP (fu g hm) rfl rfl rfl (by simp only [go_sem,simprocAttr,aj]) rfl ?_|refine aa hX hC hP (hS) rfl rfl rfl (by simp only [go_sem,simprocAttr,aj]) rfl ?_);try simp only [go_sem,simprocAttr,aj])|(intro h))
 ·have aj:decide ((cg g).1=0)=false:=decide_eq_false hc
  have hI:kS g=false:=by unfold kS;rw [aj];rfl
  rw [hI]
  (refine Spec.intro (C:=T.cfg [] []) (rs:= [.t 2]) (T.aq _ _) Tryz.func51 rfl rfl Tryz.ntmps51 Tryz.results51 (by simp [AObj.isNest]) (by simp [AObj.isNest]) (by kernel_rfl) ?_;intro X hX hP hC aM aN vals hA;refine ⟨_,by simp,hA, ?_⟩;have af:X.P.follows .mixedOrders=true:=(by rw [hP];exact T.mixed);clear aM aN)
  repeat' (first|fail|((first|((with_reducible (first|apply oA|apply oB));exact rfl;intro K hK)|(refine hK _ ?_;clear hK K)|((with_reducible (first|apply oG|apply oH));iterate 3 exact rfl)|((with_reducible apply oI);(iterate 2 exact rfl);intro K hK)|(with_reducible (first|apply wI|apply wJ|apply wK)));try simp only [go_sem,simprocAttr,aj])|fail|(with_reducible (first|apply oC|apply oJ|exact oK|apply wA|apply wB|apply wC hX hC|apply wD hX hC|apply wE hX hC af|apply wF hX hC af|apply wG|apply wH|apply And.intro))|((with_reducible refine oD ?_ ?_);first|fail|kernel_rfl)|((with_reducible (first|apply oE|apply oF));(iterate 3 exact rfl);all_goals (intro h;first|(exact absurd h (by decide))|((try simp only [go_sem,simprocAttr,aj] at h);(try with_reducible intro K hK);simp only [go_sem,simprocAttr,aj])))|((first|((with_reducible apply wL);exact rfl)|((with_reducible apply wM);exact rfl));all_goals (try ((with_reducible intro h);first|(exact absurd h (by decide))|(try simp only [go_sem,simprocAttr,aj] at h))))|omega|((first|first|refine aa hX hC hP (jQ g hl) rfl rfl rfl (by simp only [go_sem,simprocAttr,aj]) rfl ?_);try simp only [go_sem,simprocAttr,aj])|(intro h))
theorem xS (g:Gr) (hl:g.es.length≤1000):Spec Tryz.prog 50 (Args [eG g]) [] (eB (kS g)) []:=by
 by_cases hc:(cg g).1=0
 ·have hm:=aG hc
  have hn:=aY hm
  have aj:decide ((cg g).1=0)=true:=decide_eq_true hc
  have hI:kS g=decide (((bp (·.1) g).length:Int)=1):=by
   unfold kS;rw [aj,Bool.true_and,decide_eq_decide];omega
  rw [hI]
  have hS:=cr g false hl (by omega)
  rw [show jR (!false)=(·.1) from rfl] at hS
  generalize bp (·.1) g=bl at hS
  (refine Spec.intro (C:=T.cfg [] []) (rs:= [.t 2]) (T.aq _ _) Tryz.func50 rfl rfl Tryz.ntmps50 Tryz.results50 (by simp [AObj.isNest]) (by simp [AObj.isNest]) (by kernel_rfl) ?_;intro X hX hP hC aM aN vals hA;refine ⟨_,by simp,hA, ?_⟩;have af:X.P.follows .mixedOrders=true:=(by rw [hP];exact T.mixed);clear aM aN)
  repeat' (first|fail|((first|((with_reducible (first|apply oA|apply oB));exact rfl;intro K hK)|(refine hK _ ?_;clear hK K)|((with_reducible (first|apply oG|apply oH));iterate 3 exact rfl)|((with_reducible apply oI);(iterate 2 exact rfl);intro K hK)|(with_reducible (first|apply wI|apply wJ|apply wK)));try simp only [go_sem,simprocAttr,aj])|fail|(with_reducible (first|apply oC|apply oJ|exact oK|apply wA|apply wB|apply wC hX hC|apply wD hX hC|apply wE hX hC af|apply wF hX hC af|apply wG|apply wH|apply And.intro))|((with_reducible refine oD ?_ ?_);first|fail|kernel_rfl)|((with_reducible (first|apply oE|apply oF));(iterate 3 exact rfl);all_goals (intro h;first|(exact absurd h (by decide))|((try simp only [go_sem,simprocAttr,aj] at h);(try with_reducible intro K hK);simp only [go_sem,simprocAttr,aj])))|((first|((with_reducible apply wL);exact rfl)|((with_reducible apply wM);exact rfl));all_goals (try ((with_reducible intro h);first|(exact absurd h (by decide))|(try simp only [go_sem,simprocAttr,aj] at h))))|omega|((first|first|refine aa hX hC hP (aP g (by omega)) rfl rfl rfl (by simp only [go_sem,simprocAttr,aj]) rfl ?_|refine aa hX hC hP (hS) rfl rfl rfl (by simp only [go_sem,simprocAttr,aj]) rfl ?_);try simp only [go_sem,simprocAttr,aj])|(intro h))
 ·have aj:decide ((cg g).1=0)=false:=decide_eq_false hc
  have hI:kS g=false:=by unfold kS;rw [aj];rfl
  rw [hI]
  (refine Spec.intro (C:=T.cfg [] []) (rs:= [.t 2]) (T.aq _ _) Tryz.func50 rfl rfl Tryz.ntmps50 Tryz.results50 (by simp [AObj.isNest]) (by simp [AObj.isNest]) (by kernel_rfl) ?_;intro X hX hP hC aM aN vals hA;refine ⟨_,by simp,hA, ?_⟩;have af:X.P.follows .mixedOrders=true:=(by rw [hP];exact T.mixed);clear aM aN)
  repeat' (first|fail|((first|((with_reducible (first|apply oA|apply oB));exact rfl;intro K hK)|(refine hK _ ?_;clear hK K)|((with_reducible (first|apply oG|apply oH));iterate 3 exact rfl)|((with_reducible apply oI);(iterate 2 exact rfl);intro K hK)|(with_reducible (first|apply wI|apply wJ|apply wK)));try simp only [go_sem,simprocAttr,aj])|fail|(with_reducible (first|apply oC|apply oJ|exact oK|apply wA|apply wB|apply wC hX hC|apply wD hX hC|apply wE hX hC af|apply wF hX hC af|apply wG|apply wH|apply And.intro))|((with_reducible refine oD ?_ ?_);first|fail|kernel_rfl)|((with_reducible (first|apply oE|apply oF));(iterate 3 exact rfl);all_goals (intro h;first|(exact absurd h (by decide))|((try simp only [go_sem,simprocAttr,aj] at h);(try with_reducible intro K hK);simp only [go_sem,simprocAttr,aj])))|((first|((with_reducible apply wL);exact rfl)|((with_reducible apply wM);exact rfl));all_goals (try ((with_reducible intro h);first|(exact absurd h (by decide))|(try simp only [go_sem,simprocAttr,aj] at h))))|omega|((first|first|refine aa hX hC hP (aP g (by omega)) rfl rfl rfl (by simp only [go_sem,simprocAttr,aj]) rfl ?_);try simp only [go_sem,simprocAttr,aj])|(intro h))
end Go.Ab
end
section
namespace Go.Ab
open Go.Proofs
attribute [local congr] ACall.congr
set_option maxRecDepth 10000
set_option maxHeartbeats 8000000
def OV:Gr:=⟨3, [(0,1),(0,2)]⟩
def OW:Pl:=⟨[0,1,2], [[0,1], [], []]⟩
def OX:Gr:=⟨4, [(0,1),(0,2),(1,3),(2,3)]⟩
def OY:Pl:=⟨[0,1,2,3], [[0,1], [2], [3], []]⟩
end Go.Ab
end
section
namespace Go.Ab
open Go.Proofs
attribute [local congr] ACall.congr
set_option maxRecDepth 10000
def OZ (l:List Int) (k:Nat):Bool:=(List.range k).all fun i=>decide (l.getD i 0=(i:Int))
def DI (g:Gr) (names order:List Int) (k:Nat):List Edge:=(List.range k).map fun i=>(names.getD (g.es.getD (order.getD i 0).toNat (0,0)).1.toNat 0,names.getD (g.es.getD (order.getD i 0).toNat (0,0)).2.toNat 0)
def gw (g:Gr) (names order:List Int):Gr:=⟨g.n,DI g names order order.length⟩
theorem wN {g:Gr} {names order:List Int} {k:Nat} :(DI g names order k).length=k:=by simp [DI]
def IN (g:Gr) (names order:List Int):Bool:=aT g&&fA names g.n&&fA order g.es.length
def NZ (g:Gr) (names order:List Int):Gr:=if IN g names order then gw g names order else ⟨0, []⟩
end Go.Ab
end
section
namespace Go.Ab
def Ed (g:Gr) (a b:Int):Prop:=∃i,i<g.es.length∧tl g i=a∧hd g i=b
def Jl (g:Gr) (l:List Int):Prop:=∀i,i<l.length→Ed g (l.getD i 0) (l.getD ((i+1) % l.length) 0)
def Ch (g:Gr) (way:List Int) (at_:Int):Prop:=∀p,p<way.length→Ed g ((way++ [at_]).getD (p+1) 0) (way.getD p 0)
theorem oO {l:List Int} {a:Int} :(l++ [a]).getD l.length 0=a:=by
 rw [List.getD_eq_getElem?_getD,List.getElem?_append_right (Nat.le_refl _)];simp
theorem rP {g:Gr} (hm:aT g=true):∀(f:Nat) (way:List Int) (a:Nat),a<g.n.toNat→(a:Int)∉aI g→Ch g way a→left g way≤f→
 Ch g (jP g (cw g (aI g)) f way a).1 (jP g (cw g (aI g)) f way a).2∧0≤(jP g (cw g (aI g)) f way a).2∧(jP g (cw g (aI g)) f way a).2∈(jP g (cw g (aI g)) f way a).1
 |f,way,a,ha,hn,hc,hl=>by
  by_cases hmem:(a:Int)∈way
  ·rw [jj (.inr hmem)]
   exact ⟨hc,by simp only;omega,hmem⟩
  ·have hla:=hU ha hmem
   cases f with
   |zero=>omega
   |succ f=>
    obtain ⟨⟨i,hi,N0,CN,IB⟩,_⟩:=qX hm (E9 hm ha hn)
    have htr:=bS hm hi
    rw [CN] at htr
    obtain ⟨b,IC⟩:∃b:Nat,iF g (cw g (aI g)) a=b:=⟨(iF g (cw g (aI g)) a).toNat,by omega⟩
    rw [IC] at IB htr CN
    have e1:jP g (cw g (aI g)) (f+1) way a=jP g (cw g (aI g)) f (way++ [(a:Int)]) b:=by
     simp only [jP];rw [if_neg (by intro h;rcases h with h|h;omega;exact hmem h),IC]
    rw [e1]
    refine rP hm f (way++ [(a:Int)]) b (by omega) IB ?_ (by omega)
    intro p hp
    rw [List.length_append,List.length_singleton] at hp
    by_cases gv:p<way.length
    ·have:=hc p gv
     rw [fz (by simp;omega),fz gv]
     exact this
    ·have:p=way.length:=by omega
     subst this
     have e2:=oO (l:=way++ [(a:Int)]) (a:=(b:Int))
     rw [List.length_append,List.length_singleton] at e2
     rw [e2,oO]
     exact ⟨i,hi,CN,N0⟩
theorem oP {l:List Int} {k p:Nat} :(l.drop k).getD p 0=l.getD (k+p) 0:=by
 rw [List.getD_eq_getElem?_getD,List.getElem?_drop, ← List.getD_eq_getElem?_getD]
theorem Jl.Lr {g:Gr} {l:List Int} (h:∀p,p<l.length→Ed g (l.getD ((p+1) % l.length) 0) (l.getD p 0)) (h0:0<l.length):Jl g (j6 l.reverse):=by
 have Jk:0<l.reverse.length:=by simpa using h0
 obtain ⟨k,y4,hk2,_⟩:=dc (ia Jk)
 rw [List.length_reverse] at hk2
 have e1:j6 l.reverse=l.reverse.drop k++l.reverse.take k:=by simp only [j6,y4,Int.toNat_natCast]
 have hlen:(j6 l.reverse).length=l.length:=by rw [e1];simp;omega
 have hg:∀i,i<l.length→(j6 l.reverse).getD i 0=l.getD (l.length - 1 - (i+k) % l.length) 0:=by
  intro i hi
  rw [e1,List.getD_eq_getElem?_getD]
  by_cases hik:i<l.length - k
  ·rw [List.getElem?_append_left (by simp;omega),List.getElem?_drop,List.getElem?_reverse (by omega),Nat.mod_eq_of_lt (by omega), ← List.getD_eq_getElem?_getD]
   congr 1;omega
  ·rw [List.getElem?_append_right (by simp;omega),List.length_drop,List.length_reverse,List.getElem?_take,if_pos (by omega),List.getElem?_reverse (by omega), ← List.getD_eq_getElem?_getD]
   have:(i+k) % l.length=i+k - l.length:=by rw [Nat.mod_eq_sub_mod (by omega),Nat.mod_eq_of_lt (by omega)]
   rw [this];congr 1;omega
 intro i hi
 rw [hlen] at hi ⊢
 rw [hg i hi,hg _ (Nat.mod_lt _ h0)]
 have hmm:((i+1) % l.length+k) % l.length=((i+k) % l.length+1) % l.length:=by
  rw [Nat.mod_add_mod,Nat.mod_add_mod];congr 1;omega
 rw [hmm]
 have hj:=Nat.mod_lt (i+k) h0
 generalize (i+k) % l.length=j at hj ⊢
 by_cases th:j+1<l.length
 ·rw [Nat.mod_eq_of_lt th]
  have:=h (l.length - 1 - (j+1)) (by omega)
  rw [Nat.mod_eq_of_lt (by omega),show l.length - 1 - (j+1)+1=l.length - 1 - j from by omega] at this
  exact this
 ·have:j+1=l.length:=by omega
  rw [this,Nat.mod_self]
  have:=h (l.length - 1) (by omega)
  rw [show l.length - 1+1=l.length from by omega,Nat.mod_self] at this
  rw [show l.length - 1 - j=0 from by omega]
  exact this
def Ls (g:Gr):Prop:=∃r:Int→Nat,∀i,i<g.es.length→r (tl g i)<r (hd g i)
theorem uK {g:Gr} (hm:aT g=true):xI g=true↔Ls g:=by
 constructor
 ·intro h
  refine ⟨fun v=>((vX g.n.toNat (aI g) (aI g).length).getD v.toNat 0).toNat,fun i hi=> ?_⟩
  have h1:=BW (zI hm h) hi
  have h2:=q9 (n:=g.n.toNat) (l:=aI g) (k:=(aI g).length) (y:=(tl g i).toNat)
  simp only;omega
 ·rintro ⟨r,hr⟩
  cases h:xI g with
  |true=>rfl
  |false=>
   exfalso
   obtain ⟨y,hy,hn⟩:=yu hm h
   have key:∀(p:Nat) (y:Nat),y<g.n.toNat→(y:Int)∉aI g→r y=p→False:=by
    intro p
    induction p using Nat.strongRecOn with
    |_ p ih=>
     intro y hy hn hp
     obtain ⟨t,i,hi,h1,rfl,h2⟩:=E9 hm hy hn
     have htr:=bS hm hi
     have hlt:=hr i hi
     rw [h1,hp] at hlt
     have e:((tl g i).toNat:Int)=tl g i:=by omega
     exact ih (r (tl g i)) hlt (tl g i).toNat (by omega) (by rw [e];exact h2) (by rw [e])
   exact key _ y hy hn rfl
theorem DJ {g:Gr} (hm:aT g=true) (h:xI g=true):ji g= []:=by
 have hall:=(bU.1 (uz hm h)).2
 have hn:=aY hm
 rcases start_eq hm with ⟨h1,h2⟩|⟨a,ha,h1,h2,h3⟩
 ·have:jh g=([], -1):=by
   unfold jh;rw [h1];exact jj (.inl (by omega)) _
  simp only [ji,this]
  rw [if_pos (by omega)]
 ·exact absurd (hall a (dO.2 (by omega))) h3
theorem Ci {g:Gr} (hm:aT g=true) (h:xI g=false):0<(ji g).length∧Jl g (ji g):=by
 obtain ⟨y,hy,N2⟩:=yu hm h
 have hn:=aY hm
 rcases start_eq hm with ⟨h1,h2⟩|⟨a,ha,h1,h2,h3⟩
 ·exfalso
  rcases eD (f:=fun n:Int=>decide (0<n)) (l:=cw g (aI g)) 0 with ⟨_,h4⟩|⟨k,h4,_⟩
  ·have h5:=(oy hm hy).2 N2
   have h6:=h4 ((cw g (aI g)).getD y 0) (by rw [List.getD_eq_getElem?_getD,jN hy];exact List.mem_of_getElem? (jN hy))
   rw [kJ hy] at h6
   exact absurd h5 (of_decide_eq_false h6)
  ·omega
 ·obtain ⟨h4,h5,h6⟩:=rP hm g.n.toNat [] a ha h3 (fun p hp=>by simp at hp) uv
  have hw:jh g=jP g (cw g (aI g)) g.n.toNat [] a:=by unfold jh;rw [h1]
  rw [← hw] at h4 h5 h6
  obtain ⟨k,y4,hk2,Iz⟩:=dc h6
  have hc:ji g=j6 ((jh g).1.drop k).reverse:=by
   simp only [ji]
   rw [if_neg (by omega),y4,Int.toNat_natCast]
  have hlen:((jh g).1.drop k).length=(jh g).1.length - k:=by simp
  have h0:0<((jh g).1.drop k).length:=by omega
  refine ⟨?_, ?_⟩
  ·rw [hc]
   simp only [j6,List.length_append,List.length_drop,List.length_take,List.length_reverse]
   omega
  ·rw [hc]
   refine Jl.Lr (fun p hp=> ?_) h0
   rw [hlen] at hp ⊢
   have h7:=h4 (k+p) (by omega)
   rw [oP (p:=p)]
   by_cases th:p+1<(jh g).1.length - k
   ·rw [Nat.mod_eq_of_lt th,oP]
    rw [fz (by omega)] at h7
    exact h7
   ·have:p+1=(jh g).1.length - k:=by omega
    rw [this,Nat.mod_self,oP,Nat.add_zero,Iz]
    rw [show k+p+1=(jh g).1.length from by omega,oO] at h7
    exact h7
end Go.Ab
end
section
namespace Go.Ab
def nm (names:List Int) (v:Int):Int:=names.getD v.toNat 0
structure iH (g:Gr) (names order:List Int):Prop where
 may:aT g=true
 Fl:fA names g.n=true
 ord:fA order (g.es.length:Int)=true
section
variable {g:Gr} {names order:List Int} (h:iH g names order)
include h
theorem iH.len:(gw g names order).es.length=g.es.length:=by
 have:=(bU.1 h.ord).1
 simp only [gw,wN];omega
theorem iH.iM {i:Nat} (hi:i<g.es.length):∃j,j<g.es.length∧order.getD i 0=(j:Int)∧(gw g names order).es.getD i (0,0)=(nm names (tl g j),nm names (hd g j)):=by
 have nU:=(bU.1 h.ord).1
 have:=q8 h.ord _ (gr (l:=order) (m:=i) (by omega))
 refine ⟨(order.getD i 0).toNat,by omega,by omega, ?_⟩
 simp only [gw,DI,nm,tl,hd]
 rw [List.getD_eq_getElem?_getD,List.getElem?_map,List.getElem?_range (by omega)]
 rfl
theorem iH.back {j:Nat} (hj:j<g.es.length):∃i,i<g.es.length∧order.getD i 0=(j:Int)∧(gw g names order).es.getD i (0,0)=(nm names (tl g j),nm names (hd g j)):=by
 obtain ⟨nU,hall⟩:=bU.1 h.ord
 obtain ⟨i,hi,hil,he⟩:=dc (hall (j:Int) (dO.2 (by omega)))
 obtain ⟨j',_,h2,h3⟩:=h.iM (i:=i) (by omega)
 have:j'=j:=by omega
 subst this
 exact ⟨i,by omega,he,h3⟩
theorem iH.inj {a b:Int} (ha:0≤a∧a<g.n) (hb:0≤b∧b<g.n) (e:nm names a=nm names b):a=b:=by
 have hnl:=(bU.1 h.Fl).1
 have:=jT h.Fl (i:=a.toNat) (j:=b.toNat) (by omega) (by omega) e
 omega
theorem iH.range {a:Int} (ha:0≤a∧a<g.n):0≤nm names a∧nm names a<g.n:=by
 have hnl:=(bU.1 h.Fl).1
 exact q8 h.Fl _ (gr (by omega))
theorem iH.inv {a:Int} (ha:0≤a∧a<g.n):de names (nm names a)=a:=by
 have hnl:=(bU.1 h.Fl).1
 obtain ⟨k,hk,cy,he⟩:=dc (gr (l:=names) (m:=a.toNat) (by omega))
 have h2:=jT h.Fl cy (j:=a.toNat) (by omega) he
 have h3:de names (nm names a)=k:=hk
 omega
theorem iH.of {v:Int} (hv:0≤v∧v<g.n):∃a,(0≤a∧a<g.n)∧nm names a=v:=by
 obtain ⟨hnl,hall⟩:=bU.1 h.Fl
 obtain ⟨k,hk,cy,he⟩:=dc (hall v (dO.2 (by omega)))
 exact ⟨k,by omega,he⟩
theorem iH.may':aT (gw g names order)=true:=by
 have hn:=aY h.may
 have hlen:=h.len
 have hall:(gw g names order).es.any (nq (gw g names order))=false:=by
  rw [List.any_eq_false]
  intro e he
  obtain ⟨i,hi,rfl⟩:=List.getElem_of_mem he
  obtain ⟨j,hj,_,h3⟩:=h.iM (i:=i) (by omega)
  rw [List.getD_eq_getElem?_getD,List.getElem?_eq_getElem hi,Option.getD_some] at h3
  rw [h3]
  have h4:=h.range (bS h.may hj)
  have h5:=h.range (cI h.may hj)
  have e1:(gw g names order).n=g.n:=rfl
  simp only [nq,sn,e1,Bool.or_eq_true,decide_eq_true_eq]
  omega
 have e1:(gw g names order).n=g.n:=rfl
 simp only [aT,hall,e1,Bool.not_false,Bool.and_true,Bool.and_eq_true,decide_eq_true_eq]
 omega
omit h in
theorem oQ {i j:Nat} (e:(gw g names order).es.getD i (0,0)=(nm names (tl g j),nm names (hd g j))):tl (gw g names order) i=nm names (tl g j)∧hd (gw g names order) i=nm names (hd g j):=⟨congrArg Prod.fst e,congrArg Prod.snd e⟩
theorem iH.loop:(0≤jk (gw g names order))↔0≤jk g:=by
 have key:∀g:Gr,(0≤jk g)↔∃i,i<g.es.length∧tl g i=hd g i:=by
  intro g
  have:=gR (fun e:Edge=>decide (e.1=e.2)) g.es
  rw [show (0≤jk g)↔g.es.any (fun e:Edge=>decide (e.1=e.2))=true from by rw [← this];simp [jk],List.any_eq_true]
  constructor
  ·rintro ⟨e,he,h2⟩
   obtain ⟨i,hi,rfl⟩:=List.getElem_of_mem he
   refine ⟨i,hi, ?_⟩
   simpa [tl,hd,List.getD_eq_getElem?_getD,List.getElem?_eq_getElem hi] using h2
  ·rintro ⟨i,hi,h2⟩
   refine ⟨_,List.getElem_mem hi, ?_⟩
   simpa [tl,hd,List.getD_eq_getElem?_getD,List.getElem?_eq_getElem hi] using h2
 rw [key,key,h.len]
 constructor
 ·rintro ⟨i,hi,e⟩
  obtain ⟨j,hj,_,h3⟩:=h.iM hi
  obtain ⟨e1,e2⟩:=oQ h3
  exact ⟨j,hj,h.inj (bS h.may hj) (cI h.may hj) (by rw [← e1, ← e2,e])⟩
 ·rintro ⟨j,hj,e⟩
  obtain ⟨i,hi,_,h3⟩:=h.back hj
  obtain ⟨e1,e2⟩:=oQ h3
  exact ⟨i,hi,by rw [e1,e2,e]⟩
omit h in
theorem tj (g:Gr):(0≤eH g)↔∃i k,i<g.es.length∧k<g.es.length∧i≠k∧g.es.getD i (0,0)=g.es.getD k (0,0):=by
 have:=gR (mw g) (List.range g.es.length)
 rw [show (0≤eH g)↔(List.range g.es.length).any (mw g)=true from by rw [← this];simp [eH],List.any_eq_true]
 constructor
 ·rintro ⟨i,hi,h2⟩
  have hil:=List.mem_range.1 hi
  have h3:=of_decide_eq_true h2
  rw [List.mem_iff_getElem?] at h3
  obtain ⟨k,hk⟩:=h3
  rw [List.getElem?_take] at hk
  split at hk
  ·rename_i hki
   exact ⟨i,k,hil,by omega,by omega,by rw [List.getD_eq_getElem?_getD (i:=k),hk];rfl⟩
  ·cases hk
 ·rintro ⟨i,k,hi,hk,hne,e⟩
  have main:∀i k,k<i→i<g.es.length→g.es.getD i (0,0)=g.es.getD k (0,0)→mw g i=true:=by
   intro i k hki hi e
   refine decide_eq_true ?_
   rw [e,List.mem_iff_getElem?]
   refine ⟨k, ?_⟩
   rw [List.getElem?_take,if_pos hki,List.getD_eq_getElem?_getD,List.getElem?_eq_getElem (by omega)];rfl
  rcases Nat.lt_or_gt_of_ne hne with hlt|hgt
  ·exact ⟨k,List.mem_range.2 hk,main k i hlt hk e.symm⟩
  ·exact ⟨i,List.mem_range.2 hi,main i k hgt hi e⟩
theorem iH.IP:(0≤eH (gw g names order))↔0≤eH g:=by
 have nU:=(bU.1 h.ord).1
 rw [tj,tj,h.len]
 constructor
 ·rintro ⟨i,k,hi,hk,hne,e⟩
  obtain ⟨j,hj,ho,h3⟩:=h.iM hi
  obtain ⟨j',hj',ho',Dd⟩:=h.iM hk
  refine ⟨j,j',hj,hj',fun e'=> ?_, ?_⟩
  ·subst e'
   exact hne (jT h.ord (by omega) (by omega) (by rw [ho,ho']))
  ·rw [h3,Dd,Prod.mk.injEq] at e
   have e1:=h.inj (bS h.may hj) (bS h.may hj') e.1
   have e2:=h.inj (cI h.may hj) (cI h.may hj') e.2
   exact Prod.ext e1 e2
 ·rintro ⟨j,j',hj,hj',hne,e⟩
  obtain ⟨i,hi,ho,h3⟩:=h.back hj
  obtain ⟨k,hk,ho',Dd⟩:=h.back hj'
  refine ⟨i,k,hi,hk,fun e'=> ?_, ?_⟩
  ·subst e';omega
  ·have e1:tl g j=tl g j':=congrArg Prod.fst e
   have e2:hd g j=hd g j':=congrArg Prod.snd e
   rw [h3,Dd,e1,e2]
theorem iH.Lt:xI (gw g names order)=xI g:=by
 rw [Bool.eq_iff_iff,uK h.may',uK h.may]
 constructor
 ·rintro ⟨r,hr⟩
  refine ⟨fun v=>r (nm names v),fun j hj=> ?_⟩
  obtain ⟨i,hi,_,h3⟩:=h.back hj
  obtain ⟨e1,e2⟩:=oQ h3
  have:=hr i (by rw [h.len];exact hi)
  rwa [e1,e2] at this
 ·rintro ⟨r,hr⟩
  refine ⟨fun v=>r (de names v),fun i hi=> ?_⟩
  rw [h.len] at hi
  obtain ⟨j,hj,_,h3⟩:=h.iM hi
  obtain ⟨e1,e2⟩:=oQ h3
  have:=hr j hj
  rw [e1,e2];simp only;rw [h.inv (bS h.may hj),h.inv (cI h.may hj)]
  exact this
omit h in
theorem gu {g:Gr} {y:Int} :y∈bp (·.2) g↔(0≤y∧y<g.n)∧∀i,i<g.es.length→hd g i≠y:=by
 simp only [bp,hM,List.mem_map,List.mem_filter,List.mem_range,decide_eq_true_eq]
 have he:∀x:Nat,x<g.n.toNat→(((cT (·.2) g).getD x []).length=0↔∀i,i<g.es.length→hd g i≠(x:Int)):=by
  intro x hx
  have e:(cT (·.2) g).getD x []=aW (·.2) g.es g.es.length (x:Int):=by
   simp [cT,List.getD_eq_getElem?_getD,List.getElem?_range hx,kL]
  rw [e,List.length_eq_zero_iff]
  simp only [aW,List.map_eq_nil_iff,List.filter_eq_nil_iff,List.mem_range,decide_eq_true_eq]
  rfl
 constructor
 ·rintro ⟨x,⟨hx,h0⟩,rfl⟩
  refine ⟨by simp;omega,(he x hx).1 h0⟩
 ·rintro ⟨⟨h1,h2⟩,h3⟩
  have e:((y.toNat:Nat):Int)=y:=by omega
  exact ⟨y.toNat,⟨by omega,(he _ (by omega)).2 (by rw [e];exact h3)⟩,e⟩
omit h in
theorem mG {f:Edge→Int} {g:Gr} :(bp f g).Nodup:=by
 unfold bp hM
 refine List.Pairwise.map _ (fun a b h e=>h (Int.ofNat.inj e)) (List.Pairwise.filter _ List.nodup_range)
theorem iH.bare:(bp (·.2) (gw g names order)).length=(bp (·.2) g).length:=by
 have e1:(gw g names order).n=g.n:=rfl
 have h1:((bp (·.2) g).map (nm names)).length≤(bp (·.2) (gw g names order)).length:=by
  refine Nat.le_trans (count_le _ (bp (·.2) (gw g names order)) ?_ ?_) List.countP_le_length
  ·rw [List.nodup_iff_pairwise_ne]
   refine List.Pairwise.map _ (fun a b h=>h) ?_
   refine List.Pairwise.imp_of_mem ?_ mG
   intro a b ha hb hab e
   exact hab (h.inj (gu.1 ha).1 (gu.1 hb).1 e)
  ·intro v hv
   obtain ⟨y,hy,rfl⟩:=List.mem_map.1 hv
   obtain ⟨hy1,hy2⟩:=gu.1 hy
   refine gu.2 ⟨h.range hy1,fun i hi e=> ?_⟩
   rw [h.len] at hi
   obtain ⟨j,hj,_,h3⟩:=h.iM hi
   rw [(oQ h3).2] at e
   exact hy2 j hj (h.inj (cI h.may hj) hy1 e)
 have h2:((bp (·.2) (gw g names order)).map (de names)).length≤(bp (·.2) g).length:=by
  have hsplit:∀v∈bp (·.2) (gw g names order),∃a,(0≤a∧a<g.n)∧nm names a=v:=fun v hv=>h.of (gu.1 hv).1
  refine Nat.le_trans (count_le _ (bp (·.2) g) ?_ ?_) List.countP_le_length
  ·rw [List.nodup_iff_pairwise_ne]
   refine List.Pairwise.map _ (fun a b h=>h) ?_
   refine List.Pairwise.imp_of_mem ?_ mG
   intro a b ha hb hab e
   obtain ⟨a',DX,rfl⟩:=hsplit a ha
   obtain ⟨b',hb',rfl⟩:=hsplit b hb
   rw [h.inv DX,h.inv hb'] at e
   exact hab (by rw [e])
  ·intro v hv
   obtain ⟨y,hy,rfl⟩:=List.mem_map.1 hv
   obtain ⟨a,ha,rfl⟩:=hsplit y hy
   rw [h.inv ha]
   refine gu.2 ⟨ha,fun j hj e=> ?_⟩
   obtain ⟨i,hi,_,h3⟩:=h.back hj
   refine (gu.1 hy).2 i (by rw [h.len];exact hi) ?_
   rw [(oQ h3).2,e]
 simp only [List.length_map] at h1 h2
 omega
theorem iH.kind:(cg (gw g names order)).1=(cg g).1:=by
 have hm:=h.may'
 have hc:(0<(ji (gw g names order)).length)↔0<(ji g).length:=by
  have key:∀g:Gr,aT g=true→((0<(ji g).length)↔xI g=false):=by
   intro g hm
   cases ho:xI g with
   |true=>rw [DJ hm ho];simp
   |false=>simp [(Ci hm ho).1]
  rw [key _ hm,key _ h.may,h.Lt]
 have h1:=h.loop
 have h2:=h.IP
 have h3:=h.bare
 simp only [cg,gG,hm,h.may]
 simp only [Bool.true_eq_false,if_false,h1,h2,hc,h3]
 split
 ·rfl
 split
 ·rfl
 split
 ·rfl
 split<;>rfl
end
end Go.Ab
end
section
namespace Go.Ab
open Go.Proofs
set_option maxRecDepth 10000
def Mt:Nat→List Edge→Int→Option (Int × Int)
 |_, [],_=>none
 |m,e::N,v=>if e.1=v then some ((m:Int),e.2) else Mt (m+1) N v
def O0 (m:Nat) (N:List Edge) (t:It):It:=if 0≤t.1 then t else match Mt m N t.2.1 with
 |some (i,h)=>(i,t.2.1,h)
 |none=>t
structure Mu (g:Gr) (p:Pl):Prop where
 run:cA g p
 n:(B7 g p).n≤64
 es:(B7 g p).es.length≤128
variable {g:Gr} {p:Pl}
end Go.Ab
end
section
namespace Go.Ab
open Go.Proofs
set_option maxRecDepth 10000
variable {g:Gr} {p:Pl}
theorem yH {p:Pl} {k:Nat} {v:Int} (hk:k≤p.ord.length) (h:v∈p.ord.take k):∃j,j<k∧au p j=v:=by
 obtain ⟨j,hj,e⟩:=List.mem_iff_getElem.1 h
 simp only [List.length_take] at hj
 refine ⟨j,by omega, ?_⟩
 rw [← e,au,List.getD_eq_getElem?_getD,List.getElem?_eq_getElem (by omega)]
 simp
end Go.Ab
end
section
namespace Go.Ab
open Go.Proofs
set_option maxRecDepth 10000
variable {g:Gr} {p:Pl}
theorem oR (hr:cA g p):bE p (au p (g.n.toNat - 1))= []∧au p (g.n.toNat - 1)∈loose (kQ g p):=by
 have hm:=aG hr.1
 have hn:=aY hm
 obtain ⟨k,hk⟩:∃k,g.n.toNat=k+1:=⟨g.n.toNat - 1,by omega⟩
 obtain ⟨hi,_,_⟩:=dy hm hr.2.1 (k:=k) (by omega) fun j hj=>hr.2.2 j (by omega)
 obtain ⟨A,X,C,hrw,_,_,_,hs⟩:=ir hm hi.togH (hr.2.2 k (by omega))
 have hL:kQ g p=A++aJ g (au p k) (bE p (au p k))++C:=by
  unfold kQ;rw [hk]
  show (aA _ _ _ _).2.row=_
  rw [hs]
 have y4:g.n.toNat - 1=k:=by omega
 rw [y4]
 have kf:=xR hr
 have hx:=aF hr.2.1 (k:=k) (by omega)
 have h0:bE p (au p k)= []:=by
  refine Decidable.byContradiction fun h0=> ?_
  have ha:aJ g (au p k) (bE p (au p k))=(bE p (au p k)).map (fB g (au p k)):=if_neg h0
  obtain ⟨i,hi'⟩:=List.exists_mem_of_ne_nil _ h0
  have h1:=kf (fB g (au p k) i) (by rw [hL,ha];simp;exact .inr (.inl ⟨i,hi',rfl⟩))
  obtain ⟨e,rfl,_⟩:=js ((bM hr.2.1 hx.1 hx.2).mem_iff.1 hi')
  simp [fB] at h1
  omega
 refine ⟨h0, ?_⟩
 have ha:aJ g (au p k) (bE p (au p k))= [(-1,au p k, -1)]:=if_pos h0
 rw [hL,ha,tc,tc]
 simp [loose]
theorem jw {f:Edge→Int} {g:Gr} {y:Int} :y∈bp f g↔(0≤y∧y<g.n)∧aW f g.es g.es.length y= []:=by
 simp only [bp,hM,List.mem_map,List.mem_filter,List.mem_range,decide_eq_true_eq]
 have he:∀x:Nat,x<g.n.toNat→(((cT f g).getD x []).length=0↔aW f g.es g.es.length (x:Int)= []):=by
  intro x hx
  have e:(cT f g).getD x []=aW f g.es g.es.length (x:Int):=by
   simp [cT,List.getD_eq_getElem?_getD,List.getElem?_range hx,kL]
  rw [e,List.length_eq_zero_iff]
 constructor
 ·rintro ⟨x,⟨hx,h0⟩,rfl⟩
  exact ⟨by simp;omega,(he x hx).1 h0⟩
 ·rintro ⟨⟨h1,h2⟩,h3⟩
  have e:((y.toNat:Nat):Int)=y:=by omega
  exact ⟨y.toNat,⟨by omega,(he _ (by omega)).2 (by rw [e];exact h3)⟩,e⟩
end Go.Ab
end
section
namespace Go.Ab
open Go.Proofs
set_option maxRecDepth 10000
def iQ (l:List It):List It:=l.filter fun t=>decide (0≤t.1)
theorem lu {a b:List It} :iQ (a++b)=iQ a++iQ b:=by simp [iQ]
theorem iI {l:List It} {t:It} :t∈iQ l↔t∈l∧0≤t.1:=by simp [iQ]
theorem pX {x:Int} {l:List It} (h:fI x l):fI x (iQ l):=fun t ht=>h t (iI.1 ht).1
def uL (x:Int) (l:List It):Prop:=∀t∈l,t.2.2=x
theorem lz {g:Gr} {x:Int} {o:List Int} (ho:∀i∈o,0≤i):iQ (aJ g x o)=o.map (fB g x):=by
 unfold aJ
 split
 ·rename_i h;subst h;rfl
 ·refine List.filter_eq_self.2 fun t ht=> ?_
  obtain ⟨i,hi,rfl⟩:=List.mem_map.1 ht
  exact decide_eq_true (ho i hi)
theorem tq {x:Int} :∀ {X Y c d:List It},uL x X→uL x Y→fI x c→fI x d→X++c=Y++d→X=Y∧c=d
 | [], [],c,d,_,_,_,_,e=>⟨rfl,e⟩
 | [],u::Y,c,d,_,hY,hc,_,e=>by
   simp only [List.nil_append] at e
   exact absurd (hY u (by simp)) (hc u (by rw [e];simp))
 |t::X, [],c,d,hX,_,_,hd,e=>by
  simp only [List.nil_append] at e
  exact absurd (hX t (by simp)) (hd t (by rw [← e];simp))
 |t::X,u::Y,c,d,hX,hY,hc,hd,e=>by
  simp only [List.cons_append,List.cons.injEq] at e
  obtain ⟨e1,e2⟩:=tq (fun s hs=>hX s (by simp [hs])) (fun s hs=>hY s (by simp [hs])) hc hd e.2
  exact ⟨by rw [e.1,e1],e2⟩
theorem wO {x:Int} :∀ {a b X Y c d:List It},fI x a→fI x b→uL x X→uL x Y→fI x c→fI x d→X≠ []→Y≠ []→a++X++c=b++Y++d→a=b∧X=Y∧c=d
 |t::a, [],X,u::Y,c,d,ha,_,_,hY,_,_,_,_,e=>by
  simp only [List.cons_append,List.nil_append,List.cons.injEq] at e
  exact absurd (by rw [e.1];exact hY u (by simp)) (ha t (by simp))
 | [],t::b,u::X,Y,c,d,_,hb,hX,_,_,_,_,_,e=>by
   simp only [List.cons_append,List.nil_append,List.cons.injEq] at e
   exact absurd (by rw [← e.1];exact hX u (by simp)) (hb t (by simp))
 |t::a,u::b,X,Y,c,d,ha,hb,hX,hY,hc,hd,nX,nY,e=>by
  simp only [List.cons_append,List.cons.injEq] at e
  obtain ⟨e1,e2,e3⟩:=wO (fun s hs=>ha s (by simp [hs])) (fun s hs=>hb s (by simp [hs])) hX hY hc hd nX nY e.2
  exact ⟨by rw [e.1,e1],e2,e3⟩
 | [], [],X,Y,c,d,_,_,hX,hY,hc,hd,_,_,e=>by
   refine ⟨rfl, ?_⟩
   simp only [List.nil_append] at e
   exact tq hX hY hc hd e
 | [],_::_, [],_,_,_,_,_,_,_,_,_,h,_,_=>absurd rfl h
 |_::_, [],_, [],_,_,_,_,_,_,_,_,_,h,_=>absurd rfl h
theorem Cj {g:Gr} (hm:aT g=true) {f:Fr} (hi:gH g f) {x:Int} (hR:aC g f x=true) (hn:bz g x≠0):
 ∃a X c,iQ f.row=a++X++c∧fI x a∧fI x c∧uL x X∧X.length=bz g x∧∀o,iQ (aA g f x o).2.row=a++iQ (aJ g x o)++c:=by
 obtain ⟨A,X,C,hr,hA,hC,hX,cX⟩:=cP hm hi hR hn
 have hx:=(aR hR).1
 have hmem:∀t∈X,t∈f.row:=fun t ht=>by rw [hr];simp [ht]
 have hiff:∀t∈X,(0≤t.1↔t.2.2=x):=fun t ht=>by
  have h1:=(hi.it t (hmem t ht)).head hm
  have h2:=hX.al t ht
  omega
 refine ⟨iQ A,iQ X,iQ C,by rw [hr,lu,lu],pX hA,pX hC,fun t ht=> ?_, ?_,fun o=> ?_⟩
 ·obtain ⟨h1,h2⟩:=iI.1 ht
  exact (hiff t h1).1 h2
 ·rw [← cX,iQ, ← List.countP_eq_length_filter]
  refine List.countP_congr fun t ht=> ?_
  simp only [kj,decide_eq_true_eq]
  exact hiff t ht
 ·rw [jY o hr hA hC hX]
  simp only [lu]
theorem DK {g:Gr} (hm:aT g=true) {f:Fr} (hi:gH g f) {x:Int} (hR:aC g f x=true) (hn:bz g x≠0) {a X c:List It} (e:iQ f.row=a++X++c) (ha:fI x a) (hc:fI x c) (hX:uL x X) (nX:X≠ []) (o:List Int):
 iQ (aA g f x o).2.row=a++iQ (aJ g x o)++c:=by
 obtain ⟨b,Y,d,e',hb,hd,hY,lY,hs⟩:=Cj hm hi hR hn
 have nY:Y≠ []:=fun h=>hn (by rw [← lY,h];rfl)
 obtain ⟨e1,_,e3⟩:=wO hb ha hY hX hd hc nY nX (e'.symm.trans e)
 rw [hs o,e1,e3]
theorem Ck {g:Gr} (hm:aT g=true) {f:Fr} (hi:gH g f) {x:Int} (h0:0≤x) (h1:x<g.n) (hp:x∉f.pl) {a X c:List It} (e:iQ f.row=a++X++c) (ha:fI x a) (hc:fI x c) (hX:uL x X) (nX:X≠ []) (hl:X.length=bz g x):aC g f x=true:=by
 have hmem:∀j,j<f.row.length→zO g (f.row.getD j (0,0,0)):=fun j hj=>hi.it _ (aZ hj)
 have zj:f.row.countP (kj x)=X.length:=by
  have h2:f.row.countP (kj x)=(iQ f.row).countP (kj x):=by
   rw [iQ,List.countP_filter]
   refine List.countP_congr fun t ht=> ?_
   have:=(hi.it t ht).head hm
   simp only [kj,Bool.and_eq_true,decide_eq_true_eq]
   omega
  have c1:a.countP (kj x)=0:=List.countP_eq_zero.2 fun t ht=>by simp [kj,ha t ht]
  have c2:c.countP (kj x)=0:=List.countP_eq_zero.2 fun t ht=>by simp [kj,hc t ht]
  have c3:X.countP (kj x)=X.length:=List.countP_eq_length.2 fun t ht=>by simp [kj,hX t ht]
  rw [h2,e,List.countP_append,List.countP_append,c1,c2,c3]
  omega
 rw [← nF hm hi,fV,if_neg (by rintro (h|h|h);omega;omega;exact hp h),fW h0 h1,Bool.and_eq_true,decide_eq_true_eq]
 have hN:(aW (fun e=>e.2) g.es g.es.length x).length=bz g x:=rfl
 rw [hN]
 refine ⟨?_, ?_⟩
 ·unfold aS
  rw [jq,jX (Nat.le_refl _),List.take_length,zj,hl]
 ·rw [Bool.or_eq_true];right
  rcases cL (row:=f.row) (x:=x) f.row.length with ⟨hs,hno⟩|⟨p,q,n,hs,hab,iL,hc0,dQ,hpx,Lu,hlo,hhi⟩
  ·have hs':aS f.row x=(-1,0,0):=hs
   rw [hs'];simp [o9]
  ·have hs':aS f.row x=((p:Int),(q:Int),(n:Int)):=hs
   rw [hs']
   simp only [Int.toNat_natCast,o9,Bool.not_eq_true']
   rw [← Bool.not_eq_true,s8 iL]
   rintro ⟨j,h2,h3,h4⟩
   simp only [jU,Bool.and_eq_true,decide_eq_true_eq] at h4
   have hja:p<j:=by
    refine Nat.lt_of_le_of_ne h2 fun e=> ?_
    subst e;exact h4.1 hpx
   have hjb:j<q - 1:=by
    refine Nat.lt_of_le_of_ne (by omega) fun e=> ?_
    subst e;exact h4.1 Lu
   have hsub:=((rM (i:=j+1) (j:=q - 1) (rM (i:=p+1) (j:=j) (rM (i:=0) (j:=p) (List.nil_sublist _) (by omega) (by omega)) (by omega) (by omega)) (by omega) (by omega)).trans (List.take_sublist _ f.row)).filter fun t=>decide (0≤t.1)
   have hp1:=(hmem p (by omega)).head hm
   have Mv:=(hmem j (by omega)).head hm
   have hq1:=(hmem (q - 1) (by omega)).head hm
   generalize f.row.getD p (0,0,0)=s1 at hsub hp1 hpx
   generalize f.row.getD j (0,0,0)=s2 at hsub Mv h4
   generalize f.row.getD (q - 1) (0,0,0)=s3 at hsub hq1 Lu
   have hf:([]++ [s1]++ [s2]++ [s3]).filter (fun t=>decide (0≤t.1))= [s1,s2,s3]:=List.filter_eq_self.2 fun t ht=>by
    simp only [List.nil_append,List.cons_append,List.mem_cons,List.not_mem_nil,or_false] at ht
    rcases ht with rfl|rfl|rfl
    ·exact decide_eq_true (hp1.1.2 (by omega))
    ·exact decide_eq_true (Mv.1.2 h4.2)
    ·exact decide_eq_true (hq1.1.2 (by omega))
   rw [hf] at hsub
   have hsub: [s1,s2,s3].Sublist (a++(X++c)):=by rw [← List.append_assoc, ← e];exact hsub
   rw [List.sublist_append_iff] at hsub
   obtain ⟨l1,l',el,k1,k'⟩:=hsub
   rw [List.sublist_append_iff] at k'
   obtain ⟨l2,l3,rfl,k2,k3⟩:=k'
   match l1,el,k1 with
   |t::l1,el,k1=>
    simp only [List.cons_append,List.cons.injEq] at el
    exact ha t (k1.subset (by simp)) (by rw [← el.1];exact hpx)
   | [],el,_=>
     match l2,el,k2 with
     | [],el,_=>
       simp only [List.nil_append] at el
       exact hc s1 (k3.subset (by rw [← el];simp)) hpx
     | [t],el,_=>
       simp only [List.nil_append,List.cons_append,List.cons.injEq] at el
       exact hc s3 (k3.subset (by rw [← el.2];simp)) Lu
     |t::u::l2,el,k2=>
      simp only [List.nil_append,List.cons_append,List.cons.injEq] at el
      exact h4.1 (by rw [el.2.1];exact hX u (k2.subset (by simp)))
end Go.Ab
end
section
namespace Go.Ab
open Go.Proofs
set_option maxRecDepth 10000
def IQ (gone:List Int) (i:Nat):Bool:= !decide ((i:Int)∈gone)
def FD (gone:List Int) (k:Nat):List Nat:=(List.range k).filter (IQ gone)
def N3 (gone:List Int) (k:Nat):Nat:=(FD gone k).length
def Lv (gone:List Int) (es:List Edge) (k:Nat):List Edge:=(FD gone k).map fun i=>es.getD i (0,0)
def N4 (g:Gr) (gone:List Int):Gr:=⟨g.n,Lv gone g.es g.es.length⟩
def Mw (gone:List Int) (i:Int):Int:=if i∈gone then -1 else (N3 gone i.toNat:Int)
def Lw (gone:List Int) (l:List Int):List Int:=(l.filter fun i=>decide (i∉gone)).map (Mw gone)
def N5 (p:Pl) (gone:List Int):Pl:=⟨p.ord,p.outs.map (Lw gone)⟩
variable {g:Gr} {p:Pl} {gone:List Int}
def N6 (gone:List Int) (t:It):It:=(Mw gone t.1,t.2.1,t.2.2)
def N7 (gone:List Int) (l:List It):List It:=(l.filter fun t=>decide (t.1∉gone)).map (N6 gone)
theorem fX (hr:cA g p):bz g (au p 0)=0:=by
 have hm:=aG hr.1
 have hn:=aY hm
 refine Decidable.byContradiction fun hnz=> ?_
 obtain ⟨A,X,C,hrw,_,_,hX,_⟩:=cP hm (yz g).togH (hr.2.2 0 (by omega)) hnz
 obtain ⟨q,X0,e1,_⟩:=hX.fst
 rw [e1] at hrw
 simp at hrw
end Go.Ab
end
section
namespace Go.Ab
open Go.Proofs
set_option maxRecDepth 10000
theorem uM {g:Gr} (hm:aT g=true) {f:Fr} (hi:gH g f) {x:Int} (hR:aC g f x=true) (hn:bz g x≠0) (o:List Int):
 ∃a c,iQ f.row=a++iQ (aA g f x o).1.1++c∧fI x a∧fI x c∧uL x (iQ (aA g f x o).1.1)∧(iQ (aA g f x o).1.1).length=bz g x∧iQ (aA g f x o).2.row=a++iQ (aJ g x o)++c:=by
 obtain ⟨A,X,C,hr,hA,hC,hX,hc⟩:=cP hm hi hR hn
 have hx:=(aR hR).1
 have hmem:∀t∈X,t∈f.row:=fun t ht=>by rw [hr];simp [ht]
 have hiff:∀t∈X,(0≤t.1↔t.2.2=x):=fun t ht=>by
  have h1:=(hi.it t (hmem t ht)).head hm
  have h2:=hX.al t ht
  constructor
  ·intro h;rcases h2 with h2|h2
   ·exact h2
   ·exact absurd h2 (h1.1.1 h)
  ·intro h;exact h1.1.2 (by omega)
 rw [jY o hr hA hC hX]
 refine ⟨iQ A,iQ C,by rw [hr,lu,lu],pX hA,pX hC,fun t ht=> ?_, ?_,by simp only [lu]⟩
 ·obtain ⟨h1,h2⟩:=iI.1 ht
  exact (hiff t h1).1 h2
 ·rw [← hc,iQ, ← List.countP_eq_length_filter]
  refine List.countP_congr fun t ht=> ?_
  simp only [kj,decide_eq_true_eq]
  exact hiff t ht
def cl (g:Gr) (p:Pl) (x:Int):List Int:=(iQ ((dV g p g.n.toNat).getD x.toNat [])).map (·.1)
def nM (g:Gr) (p:Pl) (f:Fr) (x:Int):List Int:=(iQ (aA g f x (bE p x)).1.1).map (·.1)
def pn (g:Gr) (p:Pl):Nat→Fr→Prop
 |0,f=>(f.pl.length:Int)=g.n
 |m+1,f=>∃x,aC g f x=true∧nM g p f x=cl g p x∧pn g p m (ta g p f x)
theorem rQ {g:Gr} {p:Pl} :∀ {m:Nat} {f f':Fr},f.row=f'.row→f.pl.Perm f'.pl→pn g p m f→pn g p m f'
 |0,f,f',_,hp,h=>by
  have h:(f.pl.length:Int)=g.n:=h
  show (f'.pl.length:Int)=g.n
  rw [← hp.length_eq];exact h
 |m+1,f,f',hr,hp,⟨x,h1,h3,h2⟩=>by
  refine ⟨x,by rw [← wj hr hp];exact h1, ?_,rQ ?_ ?_ h2⟩
  ·simp only [nM,aA,hr] at h3 ⊢;exact h3
  ·simp only [ta,aA,hr]
  ·exact hp.append_right _
theorem tr {g:Gr} (hc:(cg g).1=0) {p:Pl} (hp:bF g p):∀ {m:Nat} {f:Fr},we g f→(f.pl.length:Int)+(m+1:Nat)=g.n→pn g p (m+1) f→∀ {x:Int},aC g f x=true→nM g p f x=cl g p x∧pn g p m (ta g p f x)
 |m,f,hi,hl,⟨y,s9,Jm,hcan⟩,x,hR=>by
  have hm:=aG hc
  by_cases hxy:x=y
  ·subst hxy;exact ⟨Jm,hcan⟩
  have py:=bM hp (aR s9).1 (aR s9).2.1
  have px:=bM hp (aR hR).1 (aR hR).2.1
  have i2:=ju hm hi s9 py
  match m,hl,hcan with
  |0,hl,hcan=>
   exfalso
   have h1:=jv i2.togH (by show ((f.pl++ [y]).length:Int)=g.n;simp;omega) (x:=x) ⟨(aR hR).1,(aR hR).2.1⟩
   have h2:x∈f.pl++ [y]:=h1
   simp [(aR hR).2.2,hxy] at h2
  |m+1,hl,hcan=>
   obtain ⟨h4,h5,h6,h7,h8⟩:=zV hc hi hxy hR s9 px py
   obtain ⟨h9,h3⟩:=tr hc hp i2 (by show (((f.pl++ [y]).length:Nat):Int)+_=_;simp;omega) hcan h5
   refine ⟨?_,y,h4, ?_,rQ h6.symm ?_ h3⟩
   ·unfold nM at h9 ⊢;rw [h7];exact h9
   ·unfold nM at Jm ⊢;rw [h8] at Jm;exact Jm
   show (f.pl++ [y]++ [x]).Perm (f.pl++ [x]++ [y])
   rw [List.append_assoc,List.append_assoc]
   exact List.Perm.append_left _ (List.Perm.swap ..)
theorem tu {g:Gr} {p:Pl} (h:cA g p):∀ {d k:Nat},k+d=g.n.toNat→pn g p d (fK g p k)
 |0,k,hk=>by
  have hn:=aY (aG h.1)
  obtain ⟨_,gv,_⟩:=dy (aG h.1) h.2.1 (k:=k) (by omega) fun j hj=>h.2.2 j (by omega)
  show ((fK g p k).pl.length:Int)=g.n
  rw [gv,List.length_take,bY h.2.1];omega
 |d+1,k,hk=>⟨au p k,h.2.2 k (by omega),by
   unfold cl
   rw [nI h.2.1 (Nat.le_refl _) (show k<g.n.toNat by omega)]
   rfl,tu h (k:=k+1) (by omega)⟩
theorem yI {g:Gr} (hc:(cg g).1=0) {p:Pl} (hp:bF g p):∀ {m:Nat} {f:Fr},we g f→pn g p m f→∀ {i:Nat},i<g.es.length→tl g i∈f.pl→hd g i∉f.pl→∃t∈f.row,t.1=(i:Int)
 |0,f,hi,h,i,hil,_,hh=>by
  have hr:=cI (aG hc) hil
  exact absurd (jv hi.togH h (x:=hd g i) hr) hh
 |m+1,f,hi,⟨x,hR,_,h⟩,i,hil,ht,hh=>by
  have hm:=aG hc
  have px:=bM hp (aR hR).1 (aR hR).2.1
  by_cases hx:hd g i=x
  ·obtain ⟨t,h1,h2,_⟩:=uG hm hi hR hil hx
   exact ⟨t,h1,h2⟩
  ·obtain ⟨t,h1,h2⟩:=yI hc hp (ju hm hi hR px) h hil (List.mem_append.2 (.inl ht)) (fun h1=>by
    rcases List.mem_append.1 h1 with h1|h1
    ·exact hh h1
    ·exact hx (by simpa using h1))
   obtain ⟨A,X,C,hr,_,_,_,hs⟩:=ir hm hi.togH hR
   rw [hs] at h1
   simp only [List.mem_append] at h1
   rcases h1 with (h1|h1)|h1
   ·exact ⟨t,by rw [hr];simp [h1],h2⟩
   ·rcases jt (fun i hi=>px.mem_iff.1 hi) h1 with ⟨h3,_⟩|⟨k,h3,h4,h5,_,h6,_⟩
    ·omega
    ·have:k=i:=by omega
     subst this
     exact absurd (h6 ▸ ht) (aR hR).2.2
   ·exact ⟨t,by rw [hr];simp [h1],h2⟩
def pY (g:Gr) (e:Int):Int:=(g.es.getD e.toNat (0,0)).1
def CT (g:Gr) (e:Int):Int:=(g.es.getD e.toNat (0,0)).2
def oS (g:Gr) (x:Int):Prop:=0≤x∧x<g.n
instance {g:Gr} {x:Int} :Decidable (oS g x):=inferInstanceAs (Decidable (0≤x∧x<g.n))
def kT (g:Gr) (p:Pl) (k:Nat) (W D:List Int):Prop:=∃f,we g f∧f.pl=D∧W=(iQ f.row).map (·.1)∧pn g p k f∧(D.length:Int)+k=g.n∧au p 0∈D
def Cl (g:Gr) (p:Pl) (x:Int):Nat:=((vX g.n.toNat p.ord p.ord.length).getD x.toNat 0).toNat
def ff (g:Gr) (p:Pl):PS:=
 {m:=g.es.length,src:=au p 0,Er:=au p (g.n.toNat - 1),tl:=pY g,hd:=CT g,ins:=fun x=>if oS g x then cl g p x else [],outs:=fun x=>if oS g x then bE p x else [],CH:=Cl g p,Row:=kT g p,k0:=g.n.toNat - 1}
theorem gy {g:Gr} {p:Pl} {x:Int} (h:oS g x):(ff g p).ins x=cl g p x:=if_pos h
theorem lB {g:Gr} {p:Pl} {x:Int} (h:¬oS g x):(ff g p).ins x= []:=if_neg h
theorem gN {g:Gr} {p:Pl} {x:Int} (h:oS g x):(ff g p).outs x=bE p x:=if_pos h
theorem nN {g:Gr} {p:Pl} {x:Int} (h:¬oS g x):(ff g p).outs x= []:=if_neg h
theorem bZ {f:Edge→Int} {es:List Edge} {x e:Int} :e∈aW f es es.length x↔(0≤e∧e<es.length)∧f (es.getD e.toNat (0,0))=x:=by
 refine ⟨gV,fun ⟨h1,h2⟩=> ?_⟩
 simp only [aW,List.mem_map,List.mem_filter,List.mem_range,decide_eq_true_eq]
 exact ⟨e.toNat,⟨by omega,h2⟩,by simp;omega⟩
section
variable {g:Gr} {p:Pl}
theorem yJ (hm:aT g=true) (hp:bF g p) {k:Nat} (hk:k<g.n.toNat):Cl g p (au p k)=k:=by
 have hE:=((yC hm).2 hp).1
 have:=uB hE (p:=k) (k:=p.ord.length) (by rw [bY hp];exact hk) (Nat.le_refl _)
 unfold Cl
 show ((vX _ _ _).getD (p.ord.getD k 0).toNat 0).toNat=k
 rw [this];simp
theorem rR (h:cA g p) {e:Int} (he:0≤e∧e<g.es.length) {k:Nat} (hk:k<g.n.toNat) (hx:CT g e=au p k):∃j,j<k∧au p j=pY g e:=by
 have hm:=aG h.1
 obtain ⟨hi,gv,_⟩:=dy hm h.2.1 (k:=k) (by omega) fun j hj=>h.2.2 j (by omega)
 obtain ⟨t,h1,h2,h3,_⟩:=uG hm hi (h.2.2 k hk) (i:=e.toNat) (by omega) hx
 have h4:=hi.tail t h1 (by omega)
 rw [h3,gv] at h4
 exact yH (by rw [bY h.2.1];omega) h4
theorem nO (hm:aT g=true) {f:Fr} (hi:gH g f) {t:It} (ht:t∈iQ f.row):(0≤t.1∧t.1<g.es.length)∧t.2.1=pY g t.1∧t.2.2=CT g t.1:=by
 obtain ⟨h1,h2⟩:=iI.1 ht
 rcases hi.it t h1 with h3|h3
 ·omega
 ·exact ⟨⟨h3.1,h3.2.1⟩,h3.2.2.1,h3.2.2.2⟩
theorem Cm {f:Fr} (hi:we g f):((iQ f.row).map (·.1)).Nodup:=by
 refine List.pairwise_map.2 ?_
 have:=hi.once.filter (fun t:It=>decide (0≤t.1))
 refine List.Pairwise.imp_of_mem (fun {s t} hs ht h1=>h1 (iI.1 hs).2) this
theorem DL (hm:aT g=true) {f:Fr} (hi:we g f) {x:Int} (hR:aC g f x=true):(nM g p f x).Nodup∧∀e,e∈nM g p f x↔(0≤e∧e<g.es.length)∧CT g e=x:=by
 by_cases hn:bz g x=0
 ·have hno:=rL hm hi.togH (aR hR).1 hn
  have e0:nM g p f x= []:=by unfold nM;rw [lg _ hno];rfl
  rw [e0]
  refine ⟨List.nodup_nil,fun e=>⟨fun h=>by (cases h),fun ⟨h1,h2⟩=> ?_⟩⟩
  have:=bZ.2 ⟨h1,h2⟩
  have h3:aW (·.2) g.es g.es.length x= []:=List.eq_nil_of_length_eq_zero hn
  rw [h3] at this;cases this
 ·obtain ⟨a,c,e1,ha,hc,hX,hl,_⟩:=uM hm hi.togH hR hn (bE p x)
  have bT:=Cm hi
  have hmem:∀t∈iQ (aA g f x (bE p x)).1.1,t∈iQ f.row:=fun t ht=>by rw [e1];simp [ht]
  rw [e1,List.map_append,List.map_append,List.nodup_append] at bT
  have Mx:(nM g p f x).Nodup:=(List.nodup_append.1 bT.1).2.1
  have hsub:∀e∈nM g p f x,e∈aW (·.2) g.es g.es.length x:=fun e he=>by
   obtain ⟨t,ht,rfl⟩:=List.mem_map.1 he
   obtain ⟨h1,_,h3⟩:=nO hm hi.togH (hmem t ht)
   exact bZ.2 ⟨h1,by rw [← hX t ht,h3];rfl⟩
  have hlen:(aW (·.2) g.es g.es.length x).length=(nM g p f x).length:=by
   unfold nM;rw [List.length_map,hl];rfl
  exact ⟨Mx,fun e=>⟨fun he=>bZ.1 (hsub e he),fun he=>uF Mx hsub hlen e (bZ.2 he)⟩⟩
theorem yK (h:cA g p) {k:Nat} (hk:k<g.n.toNat):cl g p (au p k)=nM g p (fK g p k) (au p k):=by
 unfold cl
 rw [nI h.2.1 (Nat.le_refl _) hk];rfl
theorem iu (h:cA g p) {x:Int} (hx:oS g x):(cl g p x).Nodup∧∀e,e∈cl g p x↔(0≤e∧e<g.es.length)∧CT g e=x:=by
 obtain ⟨k,hk,rfl⟩:=fC h.2.1 hx.1 hx.2
 have hm:=aG h.1
 obtain ⟨hi,_,_⟩:=dy hm h.2.1 (k:=k) (by omega) fun j hj=>h.2.2 j (by omega)
 rw [yK h hk]
 exact DL hm hi (h.2.2 k hk)
theorem jx (h:cA g p) {x:Int} (hx:oS g x):(cl g p x).length=bz g x:=by
 obtain ⟨h1,h2⟩:=iu h hx
 refine Nat.le_antisymm ?_ ?_
 ·exact eO h1 fun e he=>bZ.2 ((h2 e).1 he)
 ·exact eO cO fun e he=>(h2 e).2 (bZ.1 he)
theorem ej (h:cA g p) (hI:kS g=true) {x:Int} (hx:oS g x):bE p x= []↔x=au p (g.n.toNat - 1):=by
 have hm:=aG h.1
 have hn:=aY hm
 constructor
 ·intro h1
  have hs:=(oR h).1
  have hsi:=aF h.2.1 (k:=g.n.toNat - 1) (by omega)
  have b1:=jw (f:=(·.1)) (g:=g) (y:=x) |>.2 ⟨hx,(nK h.2.1 hx.1 hx.2).2 h1⟩
  have b2:=jw (f:=(·.1)) (g:=g) (y:=au p (g.n.toNat - 1)) |>.2 ⟨hsi,(nK h.2.1 hsi.1 hsi.2).2 hs⟩
  have hl:(bp (·.1) g).length=1:=by
   unfold kS at hI
   simp only [Bool.and_eq_true,decide_eq_true_eq] at hI
   exact hI.2
  obtain ⟨y,hy⟩:=List.length_eq_one_iff.1 hl
  rw [hy,List.mem_singleton] at b1 b2
  rw [b1,b2]
 ·rintro rfl;exact (oR h).1
theorem tv (h:cA g p) (hI:kS g=true) {f:Fr} (hi:we g f):∀ {d k:Nat},k+d=g.n.toNat→k<g.n.toNat→au p k∉f.pl→au p (g.n.toNat - 1)∉f.pl
 |0,k,h1,h2,_=>by omega
 |d+1,k,h1,h2,h3=>by
  have hm:=aG h.1
  have hx:=aF h.2.1 h2
  by_cases hs:bE p (au p k)= []
  ·rw [(ej h hI hx).1 hs] at h3;exact h3
  ·obtain ⟨e,u,he⟩:=iB hs
   have r8:e∈bt g (au p k):=(bM h.2.1 hx.1 hx.2).mem_iff.1 (by rw [he];simp)
   obtain ⟨mV,uV⟩:=bZ.1 r8
   have hh:=cI hm (i:=e.toNat) (by omega)
   obtain ⟨k',hk',e'⟩:=fC h.2.1 hh.1 hh.2
   obtain ⟨j,hj,e2⟩:=rR h mV hk' e'.symm
   have:j=k:=dx h.2.1 (by omega) h2 (e2.trans uV)
   refine tv h hI hi (d:=g.n.toNat - k') (k:=k') (by omega) hk' fun h4=> ?_
   have:=hi.low e.toNat (by omega) (e' ▸ h4)
   have h5:tl g e.toNat=au p k:=uV
   exact h3 (h5 ▸ this)
 termination_by d=>d
theorem kT.nd {k:Nat} {W D:List Int} (h:kT g p k W D):W.Nodup:=by
 obtain ⟨f,hi,_,rfl,_⟩:=h;exact Cm hi
theorem kT.mem (h:cA g p) {k:Nat} {W D:List Int} (hr:kT g p k W D) (e:Int):e∈W↔(0≤e∧e<g.es.length)∧pY g e∈D∧CT g e∉D:=by
 have hm:=aG h.1
 obtain ⟨f,hi,rfl,rfl,hc,_⟩:=hr
 constructor
 ·intro he
  obtain ⟨t,ht,rfl⟩:=List.mem_map.1 he
  obtain ⟨h1,h2,h3⟩:=nO hm hi.togH ht
  obtain ⟨h4,h5⟩:=iI.1 ht
  exact ⟨h1,h2 ▸ hi.tail t h4 h5,h3 ▸ hi.head t h4 h5⟩
 ·rintro ⟨h1,h2,h3⟩
  obtain ⟨t,h4,h5⟩:=yI h.1 h.2.1 hi hc (i:=e.toNat) (by omega) h2 h3
  exact List.mem_map.2 ⟨t,iI.2 ⟨h4,by omega⟩,by omega⟩
theorem kT.next (h:cA g p) {k:Nat} {W D:List Int} (hr:kT g p (k+1) W D):∃x A C,W=A++(ff g p).ins x++C∧(ff g p).ins x≠ []:=by
 have hm:=aG h.1
 obtain ⟨f,hi,rfl,rfl,⟨x,hR,hg,_⟩,_,hs⟩:=hr
 obtain ⟨x0,x1,x2⟩:=aR hR
 have hx:oS g x:=⟨x0,x1⟩
 have hn:bz g x≠0:=fun h0=>by
  have:=nG h.1 (x:=x) (y:=au p 0) hx (hi.Fh _ hs) h0 (fX h)
  exact x2 (this ▸ hs)
 obtain ⟨a,c,e1,_,_,_,hl,_⟩:=uM hm hi.togH hR hn (bE p x)
 refine ⟨x,a.map (·.1),c.map (·.1), ?_, ?_⟩
 ·rw [gy hx, ← hg,e1,List.map_append,List.map_append];rfl
 ·rw [gy hx]
  intro h0
  have:=jx h hx
  rw [h0] at this
  exact hn this.symm
theorem kT.step (h:cA g p) {k:Nat} {W D A C:List Int} {x:Int} (hr:kT g p k W D) (hW:W=A++(ff g p).ins x++C) (hI:(ff g p).ins x≠ []):∃k',k=k'+1∧kT g p k' (A++(ff g p).outs x++C) (D++ [x]):=by
 have hm:=aG h.1
 have hx:oS g x:=Decidable.byContradiction fun h0=>hI (lB h0)
 have bT:=hr.nd
 have hmem:=kT.mem h hr
 rw [gy hx] at hW hI
 rw [gN hx]
 obtain ⟨i1,i2⟩:=iu h hx
 obtain ⟨e0,u0,Dy⟩:=iB hI
 have My:x∉D:=by
  have h1:=(i2 e0).1 (by rw [Dy];simp)
  have h2:=(hmem e0).1 (by rw [hW,Dy];simp)
  rw [h1.2] at h2;exact h2.2.2
 obtain ⟨f,hi,rfl,N8,hc,hD,hs⟩:=hr
 rw [N8] at hW bT
 obtain ⟨l1,c,e1,e2,e3⟩:=List.map_eq_append_iff.1 hW
 obtain ⟨a,X,e4,e5,e6⟩:=List.map_eq_append_iff.1 e2
 have hrow:iQ f.row=a++X++c:=by rw [e1,e4]
 rw [hrow,List.map_append,List.map_append,e5,e6,e3] at bT
 have hit:∀t∈a++X++c,(0≤t.1∧t.1<g.es.length)∧t.2.1=pY g t.1∧t.2.2=CT g t.1:=fun t ht=>nO hm hi.togH (by rw [hrow];exact ht)
 have hX:uL x X:=fun t ht=>by
  have h1:t.1∈cl g p x:=by rw [← e6];exact List.mem_map_of_mem ht
  rw [(hit t (by simp [ht])).2.2,((i2 _).1 h1).2]
 have hin:∀t∈a++X++c,t.2.2=x→t.1∈cl g p x:=fun t ht e=>by
  obtain ⟨h1,_,h3⟩:=hit t ht
  exact (i2 _).2 ⟨h1,by rw [← h3,e]⟩
 have ha:fI x a:=fun t ht e=>by
  have h1:=hin t (by simp [ht]) e
  have h2:t.1∈A:=by rw [← e5];exact List.mem_map_of_mem ht
  exact (List.nodup_append.1 (List.nodup_append.1 bT).1).2.2 _ h2 _ h1 rfl
 have Mz:fI x c:=fun t ht e=>by
  have h1:=hin t (by simp [ht]) e
  have h2:t.1∈C:=by rw [← e3];exact List.mem_map_of_mem ht
  exact (List.nodup_append.1 bT).2.2 _ (List.mem_append.2 (.inr h1)) _ h2 rfl
 have Lh:X.length=bz g x:=by rw [← jx h hx, ← e6,List.length_map]
 have nX:X≠ []:=fun h0=>hI (by rw [← e6,h0];rfl)
 have hR:=Ck hm hi.togH hx.1 hx.2 My hrow ha Mz hX nX Lh
 have hn:bz g x≠0:=fun h0=>nX (List.eq_nil_of_length_eq_zero (Lh.trans h0))
 have px:=bM h.2.1 hx.1 hx.2
 cases k with
 |zero=>exact absurd (jv hi.togH (by omega) hx) My
 |succ k=>
  refine ⟨k,rfl,ta g p f x,ju hm hi hR px,rfl, ?_,(tr h.1 h.2.1 hi (by omega) hc hR).2, ?_,List.mem_append.2 (.inl hs)⟩
  ·have:=DK hm hi.togH hR hn hrow ha Mz hX nX (bE p x)
   show _=(iQ (aA g f x (bE p x)).2.row).map (·.1)
   rw [this,List.map_append,List.map_append,e5,e3,lz (fun i hi=>by
    have:=bZ.1 (px.mem_iff.1 hi);exact this.1.1),List.map_map]
   have e7:((fun t:It=>t.1) ∘ fB g x)=id:=rfl
   rw [e7,List.map_id]
  ·show (((f.pl++ [x]).length:Nat):Int)+_=_
   rw [List.length_append,List.length_singleton];omega
theorem z2 (h:cA g p):kT g p (g.n.toNat - 1) (bE p (au p 0)) [au p 0]:=by
 have hm:=aG h.1
 have hn:=aY hm
 have hx:=aF h.2.1 (k:=0) (by omega)
 obtain ⟨hi,gv,_⟩:=dy hm h.2.1 (k:=1) (by omega) fun j hj=>h.2.2 j (by omega)
 have px:=bM h.2.1 hx.1 hx.2
 have hno:fI (au p 0) (fK g p 0).row:=fun t ht=>by cases ht
 have hf:fK g p 1=⟨aJ g (au p 0) (bE p (au p 0)), [au p 0]⟩:=by
  show (aA g (fK g p 0) (au p 0) _).2=_
  rw [lg _ hno]
  show (⟨_++ [], []++ [_]⟩:Fr)=_
  simp
 refine ⟨fK g p 1,hi,by rw [hf], ?_,tu h (by omega),by simp;omega,by simp⟩
 rw [hf]
 show _=(iQ (aJ g (au p 0) (bE p (au p 0)))).map (·.1)
 rw [lz (fun i hi=>(bZ.1 (px.mem_iff.1 hi)).1.1),List.map_map]
 have e7:((fun t:It=>t.1) ∘ fB g (au p 0))=id:=rfl
 rw [e7,List.map_id]
theorem lR (h:cA g p) (hI:kS g=true):(ff g p).Ok:=by
 have hm:=aG h.1
 have hn:=aY hm
 have h0:oS g (au p 0):=aF h.2.1 (by omega)
 exact {
  dz:=fun x e=>by
   show _↔(0≤e∧e<g.es.length)∧pY g e=x
   by_cases hx:oS g x
   ·rw [gN hx,(bM h.2.1 hx.1 hx.2).mem_iff];exact bZ
   ·rw [nN hx]
    refine ⟨fun h=>by (cases h),fun ⟨h1,h2⟩=>absurd ?_ hx⟩
    rw [← h2];exact bS hm (i:=e.toNat) (by omega)
  bV:=fun x e=>by
   show _↔(0≤e∧e<g.es.length)∧CT g e=x
   by_cases hx:oS g x
   ·rw [gy hx];exact (iu h hx).2 e
   ·rw [lB hx]
    refine ⟨fun h=>by (cases h),fun ⟨h1,h2⟩=>absurd ?_ hx⟩
    rw [← h2];exact cI hm (i:=e.toNat) (by omega)
  mJ:=fun x=>by
   by_cases hx:oS g x
   ·rw [gN hx,(bM h.2.1 hx.1 hx.2).nodup_iff];exact cO
   ·rw [nN hx];exact List.nodup_nil
  w5:=fun x=>by
   by_cases hx:oS g x
   ·rw [gy hx];exact (iu h hx).1
   ·rw [lB hx];exact List.nodup_nil
  nW:=fun e he=>by
   have he:0≤e∧e<g.es.length:=he
   have hh:=cI hm (i:=e.toNat) (by omega)
   obtain ⟨k,hk,e1⟩:=fC h.2.1 hh.1 hh.2
   obtain ⟨j,hj,e2⟩:=rR h he hk e1.symm
   show Cl g p (pY g e)<Cl g p (CT g e)
   have e3:CT g e=au p k:=e1.symm
   rw [← e2,e3,yJ hm h.2.1 hk,yJ hm h.2.1 (by omega)]
   exact hj
  CV:=by
   show kT g p (g.n.toNat - 1) ((ff g p).outs (au p 0)) [au p 0]
   rw [gN h0];exact z2 h
  ko:=fun hr=>kT.nd hr
  di:=fun hr e=>kT.mem h hr e
  kq:=fun hr=>kT.next h hr
  mK:=fun hr h1 h2=>kT.step h hr h1 h2
  k4:=fun {W D} hr e he=>by
   obtain ⟨f,hi,rfl,_,_,hD,_⟩:=hr
   exact jv hi.togH (by omega) (cI hm (i:=e.toNat) (by have:=he.1;have:=he.2;have:e<g.es.length:=he.2;omega))
  pK:=fun {k W D} hr=>by obtain ⟨f,hi,rfl,_,_,_,hs⟩:=hr;exact hs
  pL:=fun {k W D} hr hs=>by
   obtain ⟨f,hi,rfl,_,_,hD,_⟩:=hr
   refine Decidable.byContradiction fun hk=> ?_
   have:∃k',k'<g.n.toNat∧au p k'∉f.pl:=by
    refine Decidable.byContradiction fun hall=> ?_
    have hall:∀k',k'<g.n.toNat→au p k'∈f.pl:=fun k' hk'=>Decidable.byContradiction fun h1=>hall ⟨k',hk',h1⟩
    have:=eO (l:=p.ord) (m:=f.pl) (rN h.2.1) fun x hx=>by
     have hx:=dO.1 (h.2.1.2.1.mem_iff.1 hx)
     obtain ⟨k',h1,rfl⟩:=fC h.2.1 hx.1 (by omega)
     exact hall k' h1
    rw [bY h.2.1] at this
    omega
   obtain ⟨k',h1,h2⟩:=this
   exact tv h hI hi (d:=g.n.toNat - k') (by omega) h1 h2 hs
  qa:=by
   show (ff g p).ins (au p 0)= []
   rw [gy h0]
   have:=jx h h0
   rw [fX h] at this
   exact List.eq_nil_of_length_eq_zero this
  mL:=fun x hx=>by
   have CR:oS g x:=Decidable.byContradiction fun h0=>hx (lB h0)
   rw [gN CR]
   exact ej h hI CR}
end
end Go.Ab
end
section
namespace Go.Ab
open Go.Proofs
set_option maxRecDepth 10000
set_option linter.unusedSectionVars false
section
variable (g:Gr) (p:Pl)
def cK:Nat→Nat
 |0=>1
 |k+1=>cK k+((bE p (au p k)).length - 1)
def Fm (e:Int):Nat:=(bE p (pY g e)).findIdx (fun i=>decide (i=e))
def ek (x:Int):Int:=(cl g p x).headD 0
def lS (x:Int):Int:=(cl g p x).getLastD 0
def LK:Nat→Int→Int
 |0,_=>0
 |k+1,e=>if pY g e=au p k then (if Fm g p e=0 then (if k=0 then 0 else LK k (ek g p (au p k))) else (cK p k:Int)+Fm g p e - 1) else LK k e
def RK (r:Int):Nat→Int→Int
 |0,_=>0
 |k+1,e=>if pY g e=au p k then (if Fm g p e+1<(bE p (au p k)).length then (cK p k:Int)+Fm g p e else (if k=0 then r else RK r k (lS g p (au p k)))) else RK r k e
def gA:Nat→List Int
 |0=> [au p 0]
 |k+1=>gA k++List.replicate ((bE p (au p k)).length - 1) (au p k)
end
section
variable {g:Gr} {p:Pl}
theorem fD:∀ {k:Nat},(gA p k).length=cK p k
 |0=>rfl
 |k+1=>by rw [gA,List.length_append,List.length_replicate,fD,cK]
theorem kU:∀ {k:Nat},0<cK p k
 |0=>by simp [cK]
 |k+1=>by rw [cK];have:= @kU k;omega
theorem lC {k:Nat} :∀ {d:Nat},cK p k≤cK p (k+d)
 |0=>Nat.le_refl _
 |d+1=>by
  have:= @lC k d
  show _≤cK p (k+d+1)
  rw [cK];omega
theorem tw {k:Nat} {f:Nat} (hf:f<cK p k):∀ {d:Nat},(gA p (k+d)).getD f 0=(gA p k).getD f 0
 |0=>rfl
 |d+1=>by
  show (gA p (k+d+1)).getD f 0=_
  have:=lC (p:=p) (k:=k) (d:=d)
  rw [gA,List.getD_eq_getElem?_getD,List.getElem?_append_left (by rw [fD];omega), ← List.getD_eq_getElem?_getD,tw hf]
theorem Cn {k f:Nat} (h1:cK p k≤f) (h2:f<cK p (k+1)):(gA p (k+1)).getD f 0=au p k:=by
 rw [gA,List.getD_eq_getElem?_getD,List.getElem?_append_right (by rw [fD];exact h1),List.getElem?_replicate,fD,if_pos (by rw [cK] at h2;omega)]
 rfl
variable (h:cA g p)
include h
theorem mH {k:Nat} (hk:k<g.n.toNat) {u v:List Int} {e:Int} (he:bE p (au p k)=u++e::v):pY g e=au p k∧Fm g p e=u.length:=by
 have hx:=aF h.2.1 hk
 have px:=bM h.2.1 hx.1 hx.2
 have h1:=(bZ.1 (px.mem_iff.1 (show e∈bE p (au p k) by rw [he];simp))).2
 have h1:pY g e=au p k:=h1
 refine ⟨h1, ?_⟩
 have bT:(bE p (au p k)).Nodup:=px.nodup_iff.2 cO
 unfold Fm
 rw [h1,he]
 rw [he,List.nodup_append] at bT
 rw [List.findIdx_append]
 have h2:u.findIdx (fun i=>decide (i=e))=u.length:=by
  rw [List.findIdx_eq_length]
  intro i hi
  exact decide_eq_false fun e2=>bT.2.2 i hi e (by simp) e2
 rw [h2,if_neg (by omega)]
 simp [List.findIdx_cons]
theorem yL {e:Int} {k:Nat} (hk:k<g.n.toNat) (he:pY g e=au p k):∀ {d:Nat},k+1+d≤g.n.toNat→LK g p (k+1+d) e=LK g p (k+1) e
 |0,_=>rfl
 |d+1,hd=>by
  show LK g p (k+1+d+1) e=_
  rw [LK,if_neg (fun e2=>by have:=dx h.2.1 hk (show k+1+d<g.n.toNat by omega) (he.symm.trans e2);omega),yL hk he (by omega)]
theorem yM {r:Int} {e:Int} {k:Nat} (hk:k<g.n.toNat) (he:pY g e=au p k):∀ {d:Nat},k+1+d≤g.n.toNat→RK g p r (k+1+d) e=RK g p r (k+1) e
 |0,_=>rfl
 |d+1,hd=>by
  show RK g p r (k+1+d+1) e=_
  rw [RK,if_neg (fun e2=>by have:=dx h.2.1 hk (show k+1+d<g.n.toNat by omega) (he.symm.trans e2);omega),yM hk he (by omega)]
theorem kV {e:Int} {k:Nat} (hk:k<g.n.toNat) (he:pY g e=au p k) {j:Nat} (h1:k+1≤j) (h2:j≤g.n.toNat):LK g p j e=LK g p (k+1) e:=by
 obtain ⟨d,rfl⟩:=Nat.exists_eq_add_of_le h1
 exact yL h hk he h2
theorem dZ {r:Int} {e:Int} {k:Nat} (hk:k<g.n.toNat) (he:pY g e=au p k) {j:Nat} (h1:k+1≤j) (h2:j≤g.n.toNat):RK g p r j e=RK g p r (k+1) e:=by
 obtain ⟨d,rfl⟩:=Nat.exists_eq_add_of_le h1
 exact yM h hk he h2
theorem uN {k:Nat} (hk:k<g.n.toNat) {v:List Int} {e:Int} (he:bE p (au p k)=e::v) {j:Nat} (h1:k+1≤j) (h2:j≤g.n.toNat):LK g p j e=if k=0 then 0 else LK g p k (ek g p (au p k)):=by
 obtain ⟨a,b⟩:=mH h hk (u:= []) he
 rw [kV h hk a h1 h2,LK,if_pos a,if_pos (show Fm g p e=0 from b)]
theorem yN {k:Nat} (hk:k<g.n.toNat) {u v:List Int} {e:Int} (he:bE p (au p k)=u++e::v) (hu:u≠ []) {j:Nat} (h1:k+1≤j) (h2:j≤g.n.toNat):LK g p j e=(cK p k:Int)+u.length - 1:=by
 obtain ⟨a,b⟩:=mH h hk he
 have:=List.length_pos_iff.2 hu
 rw [kV h hk a h1 h2,LK,if_pos a,if_neg (by omega),b]
theorem rS {r:Int} {k:Nat} (hk:k<g.n.toNat) {u:List Int} {e:Int} (he:bE p (au p k)=u++ [e]) {j:Nat} (h1:k+1≤j) (h2:j≤g.n.toNat):RK g p r j e=if k=0 then r else RK g p r k (lS g p (au p k)):=by
 obtain ⟨a,b⟩:=mH h hk he
 rw [dZ h hk a h1 h2,RK,if_pos a,if_neg (by rw [b,he];simp)]
theorem gO {r:Int} {k:Nat} (hk:k<g.n.toNat) {u v:List Int} {e c:Int} (he:bE p (au p k)=u++e::c::v) {j:Nat} (h1:k+1≤j) (h2:j≤g.n.toNat):RK g p r j e=(cK p k:Int)+u.length:=by
 obtain ⟨a,b⟩:=mH h hk he
 rw [dZ h hk a h1 h2,RK,if_pos a,if_pos (by rw [b,he];simp),b]
theorem oT {x:Int} {a:Int} {u:List Int} (hu:cl g p x=a::u):ek g p x=a:=by unfold ek;rw [hu];rfl
theorem kW {x:Int} {a:Int} {u:List Int} (hu:cl g p x=u++ [a]):lS g p x=a:=by unfold lS;rw [hu];simp
theorem wP {k:Nat} (hk:k<g.n.toNat) (hI:cl g p (au p k)≠ []):k≠0:=fun h0=>by
 subst h0
 have:=jx h (aF h.2.1 hk)
 rw [fX h] at this
 exact hI (List.eq_nil_of_length_eq_zero this)
theorem nP {k:Nat} (hk:k<g.n.toNat) {a:Int} (ha:a∈cl g p (au p k)):∃j,j<k∧pY g a=au p j:=by
 obtain ⟨h1,h2⟩:=((iu h (aF h.2.1 hk)).2 a).1 ha
 obtain ⟨j,h3,h4⟩:=rR h h1 hk h2
 exact ⟨j,h3,h4.symm⟩
def WK (g:Gr) (p:Pl) (k:Nat):List Int:=(iQ (fK g p k).row).map (·.1)
theorem rV (hn:0<g.n.toNat):WK g p 1=bE p (au p 0):=by
 have hx:=aF h.2.1 hn
 have px:=bM h.2.1 hx.1 hx.2
 have hno:fI (au p 0) (fK g p 0).row:=fun t ht=>by cases ht
 have hf:(fK g p 1).row=aJ g (au p 0) (bE p (au p 0)):=by
  show (aA g (fK g p 0) (au p 0) _).2.row=_
  rw [lg _ hno]
  show _++ []=_
  simp
 unfold WK
 rw [hf,lz (fun i hi=>(bZ.1 (px.mem_iff.1 hi)).1.1),List.map_map]
 have e7:((fun t:It=>t.1) ∘ fB g (au p 0))=id:=rfl
 rw [e7,List.map_id]
theorem j0 {k:Nat} (h0:k≠0) (hk:k<g.n.toNat):∃A C,WK g p k=A++cl g p (au p k)++C∧cl g p (au p k)≠ []∧WK g p (k+1)=A++bE p (au p k)++C:=by
 have hm:=aG h.1
 obtain ⟨hi,gv,_⟩:=dy hm h.2.1 (k:=k) (by omega) fun j hj=>h.2.2 j (by omega)
 have hR:=h.2.2 k hk
 have hx:=aF h.2.1 hk
 have px:=bM h.2.1 hx.1 hx.2
 have hn:bz g (au p k)≠0:=fun hz=>by
  have N9:=aF h.2.1 (show 0<g.n.toNat by omega)
  have:=nG h.1 hx N9 hz (fX h)
  exact h0 (dx h.2.1 hk (by omega) this)
 obtain ⟨a,c,e1,_,_,_,hl,e2⟩:=uM hm hi.togH hR hn (bE p (au p k))
 refine ⟨a.map (·.1),c.map (·.1), ?_, ?_, ?_⟩
 ·rw [yK h hk];unfold WK;rw [e1,List.map_append,List.map_append];rfl
 ·intro h1
  have:=jx h hx
  rw [h1] at this
  exact hn this.symm
 ·unfold WK
  show (iQ (aA g (fK g p k) (au p k) _).2.row).map (·.1)=_
  rw [e2,List.map_append,List.map_append,lz (fun i hi=>(bZ.1 (px.mem_iff.1 hi)).1.1),List.map_map]
  have e7:((fun t:It=>t.1) ∘ fB g (au p k))=id:=rfl
  rw [e7,List.map_id]
theorem pZ {k:Nat} (hk:k≤g.n.toNat) {a:Int} (ha:a∈WK g p k):∃j,j<k∧pY g a=au p j:=by
 have hm:=aG h.1
 obtain ⟨hi,gv,_⟩:=dy hm h.2.1 (k:=k) (by omega) fun j hj=>h.2.2 j (by omega)
 obtain ⟨t,ht,rfl⟩:=List.mem_map.1 ha
 obtain ⟨h1,h2,_⟩:=nO hm hi.togH ht
 obtain ⟨h4,h5⟩:=iI.1 ht
 have:=hi.tail t h4 h5
 rw [gv,h2] at this
 obtain ⟨j,hj,e⟩:=yH (by rw [bY h.2.1];omega) this
 exact ⟨j,hj,e.symm⟩
theorem yO {r:Int} {k:Nat} (hk:k<g.n.toNat) {j:Nat} (h1:k+1≤j) (h2:j≤g.n.toNat):fJ (LK g p j) (RK g p r j) (if k=0 then 0 else LK g p k (ek g p (au p k))) (bE p (au p k)):=by
 refine mM (fun u a b v e=> ?_) fun a u e=>uN h hk e h1 h2
 rw [gO h hk e h1 h2,yN h hk (u:=u++ [a]) (v:=v) (e:=b) (by rw [e];simp) (by simp) h1 h2]
 simp;omega
theorem yP {r:Int} {k:Nat} (hk:k<g.n.toNat) {j:Nat} (h1:k+1≤j) (h2:j≤g.n.toNat) (hO:bE p (au p k)≠ []) (f:Int):gI (RK g p r j) f (bE p (au p k))=if k=0 then r else RK g p r k (lS g p (au p k)):=by
 obtain ⟨v,b,hv⟩:=cm hO
 rw [hv,cC,rS h hk hv h1 h2]
theorem kX {L R L' R':Int→Int} :∀ {W:List Int} {f:Int},(∀a∈W,L a=L' a∧R a=R' a)→(fJ L R f W↔fJ L' R' f W)
 | [],_,_=>Iff.rfl
 |a::W,f,hh=>by
  have h1:=hh a (List.mem_cons_self ..)
  simp only [fJ,h1.1,h1.2,kX (W:=W) fun b hb=>hh b (List.mem_cons_of_mem _ hb)]
theorem rW {R R':Int→Int} :∀ {W:List Int} {f:Int},(∀a∈W,R a=R' a)→gI R f W=gI R' f W
 | [],_,_=>rfl
 |a::W,f,hh=>by
  simp only [gI,hh a (List.mem_cons_self ..),rW (W:=W) fun b hb=>hh b (List.mem_cons_of_mem _ hb)]
theorem xT {r:Int} (hI:kS g=true):∀ {k:Nat},1≤k→k<g.n.toNat→WK g p k≠ []→fJ (LK g p k) (RK g p r k) 0 (WK g p k)∧gI (RK g p r k) 0 (WK g p k)=r
 |0,h1,_,_=>by omega
 |k+1,_,hk,hW=>by
  by_cases h0:k=0
  ·subst h0
   rw [rV h (by omega)] at hW ⊢
   have a:=yO (r:=r) h (k:=0) (by omega) (j:=1) (Nat.le_refl _) (by omega)
   have b:=yP (r:=r) h (k:=0) (by omega) (j:=1) (Nat.le_refl _) (by omega) hW 0
   rw [if_pos rfl] at a b
   exact ⟨a,b⟩
  ·obtain ⟨A,C,e1,hne,e2⟩:=j0 h h0 (show k<g.n.toNat by omega)
   obtain ⟨l1,l2⟩:=xT hI (k:=k) (by omega) (by omega) (by rw [e1];simp [hne])
   have hO:bE p (au p k)≠ []:=fun h1=>by
    have:=(ej h hI (aF h.2.1 (show k<g.n.toNat by omega))).1 h1
    have:=dx h.2.1 (show k<g.n.toNat by omega) (by omega) this
    omega
   have yQ:∀a∈WK g p k,LK g p (k+1) a=LK g p k a∧RK g p r (k+1) a=RK g p r k a:=fun a ha=>by
    obtain ⟨j,hj,e⟩:=pZ h (by omega) ha
    exact ⟨by rw [kV h (by omega) e (j:=k+1) (by omega) (by omega),kV h (by omega) e (j:=k) (by omega) (by omega)],by rw [dZ h (by omega) e (j:=k+1) (by omega) (by omega),dZ h (by omega) e (j:=k) (by omega) (by omega)]⟩
   rw [← kX h yQ] at l1
   rw [← rW h fun a ha=>(yQ a ha).2] at l2
   rw [e1] at l1 l2 yQ
   rw [e2]
   obtain ⟨a0,u0,CW⟩:=iB hne
   obtain ⟨u,a,hu⟩:=cm hne
   obtain ⟨l3,l5⟩:=bN.1 l1
   obtain ⟨l4,l6⟩:=bN.1 l3
   have Oa:LK g p (k+1) a0=gI (RK g p r (k+1)) 0 A:=by rw [CW] at l6;exact l6.1
   have FY:∀f,gI (RK g p r (k+1)) f (cl g p (au p k))=RK g p r k (lS g p (au p k)):=fun f=>by
    rw [kW h hu,hu,cC,(yQ a (by rw [hu];simp)).2]
   have hlk:=yO (r:=r) h (k:=k) (by omega) (j:=k+1) (Nat.le_refl _) (by omega)
   have Lx:=yP (r:=r) h (k:=k) (by omega) (j:=k+1) (Nat.le_refl _) (by omega) hO
   rw [if_neg h0] at hlk Lx
   rw [oT h CW, ← (yQ a0 (by rw [CW];simp)).1,Oa] at hlk
   refine ⟨?_, ?_⟩
   ·rw [bN,bN,cj,Lx]
    rw [cj,FY] at l5
    exact ⟨⟨l4,hlk⟩,l5⟩
   ·rw [cj,cj,Lx]
    rw [cj,cj,FY] at l2
    exact l2
theorem mI (hI:kS g=true) {r:Int} (hr:r<0∨cK p g.n.toNat≤r):(ff g p).gB (LK g p g.n.toNat) (RK g p r g.n.toNat) 0 r (fun f=>(gA p g.n.toNat).getD f.toNat 0):=by
 have hm:=aG h.1
 have hn:=aY hm
 have DA:∀ {x:Int} {l:List Int},(ff g p).outs x=l→l≠ []→∃k,k<g.n.toNat∧au p k=x∧bE p (au p k)=l:=fun {x l} h1 h2=>by
  by_cases hx:oS g x
  ·obtain ⟨k,hk,rfl⟩:=fC h.2.1 hx.1 hx.2
   exact ⟨k,hk,rfl,by rw [← h1,gN hx]⟩
  ·rw [nN hx] at h1;exact absurd h1.symm h2
 have Lz:∀ {x:Int} {l:List Int},(ff g p).ins x=l→l≠ []→∃k,k<g.n.toNat∧au p k=x∧cl g p (au p k)=l:=fun {x l} h1 h2=>by
  by_cases hx:oS g x
  ·obtain ⟨k,hk,rfl⟩:=fC h.2.1 hx.1 hx.2
   exact ⟨k,hk,rfl,by rw [← h1,gy hx]⟩
  ·rw [lB hx] at h1;exact absurd h1.symm h2
 have h0:(ff g p).src=au p 0:=rfl
 have Gh:∀k,0<cK p k:=fun k=>kU
 exact {
  ne:=by have:=Gh g.n.toNat;omega
  fY:=fun {x u a b v} e=>by
   obtain ⟨k,hk,_,e2⟩:=DA e (by simp)
   rw [gO h hk e2 (by omega) (Nat.le_refl _),yN h hk (u:=u++ [a]) (v:=v) (e:=b) (by rw [e2];simp) (by simp) (by omega) (Nat.le_refl _)]
   simp;omega
  lW:=fun {x u a b v} e=>by
   obtain ⟨k,hk,_,e2⟩:=Lz e (by simp)
   have tT:=wP h hk (by rw [e2];simp)
   obtain ⟨A,C,e1,hne,_⟩:=j0 h tT hk
   have l1:=(xT (r:=r) h hI (k:=k) (by omega) hk (by rw [e1];simp [hne])).1
   have yQ:∀a∈WK g p k,LK g p g.n.toNat a=LK g p k a∧RK g p r g.n.toNat a=RK g p r k a:=fun a ha=>by
    obtain ⟨j,hj,e⟩:=pZ h (by omega) ha
    exact ⟨by rw [kV h (by omega) e (j:=g.n.toNat) (by omega) (by omega),kV h (by omega) e (j:=k) (by omega) (by omega)],by rw [dZ h (by omega) e (j:=g.n.toNat) (by omega) (by omega),dZ h (by omega) e (j:=k) (by omega) (by omega)]⟩
   rw [← kX h yQ,e1,e2,show A++(u++a::b::v)++C=(A++u)++a::b::(v++C) by simp] at l1
   exact Av l1
  fst:=fun {x a u b v} e1 e2=>by
   obtain ⟨k,hk,hx,e3⟩:=DA e2 (by simp)
   have e4:cl g p (au p k)=a::u:=by
    have CR:oS g x:=by rw [← hx];exact aF h.2.1 hk
    rw [hx, ← gy CR];exact e1
   have tT:=wP h hk (by rw [e4];simp)
   obtain ⟨j,hj,et⟩:=nP h hk (a:=a) (by rw [e4];simp)
   rw [uN h hk e3 (by omega) (Nat.le_refl _),if_neg tT,oT h e4,kV h (by omega) et (j:=g.n.toNat) (by omega) (Nat.le_refl _),kV h (by omega) et (j:=k) (by omega) (by omega)]
  As:=fun {x a u b v} e1 e2=>by
   obtain ⟨k,hk,hx,e3⟩:=DA e2 (by simp)
   have e4:cl g p (au p k)=u++ [a]:=by
    have CR:oS g x:=by rw [← hx];exact aF h.2.1 hk
    rw [hx, ← gy CR];exact e1
   have tT:=wP h hk (by rw [e4];simp)
   obtain ⟨j,hj,et⟩:=nP h hk (a:=a) (by rw [e4];simp)
   rw [rS h hk e3 (by omega) (Nat.le_refl _),if_neg tT,kW h e4,dZ h (by omega) et (j:=g.n.toNat) (by omega) (Nat.le_refl _),dZ h (by omega) et (j:=k) (by omega) (by omega)]
  s0:=fun {b v} e=>by
   obtain ⟨k,hk,hx,e3⟩:=DA e (by simp)
   have:k=0:=dx h.2.1 hk (by omega) hx
   rw [uN h hk e3 (by omega) (Nat.le_refl _),if_pos this]
  s1:=fun {b v} e=>by
   obtain ⟨k,hk,hx,e3⟩:=DA e (by simp)
   have:k=0:=dx h.2.1 hk (by omega) hx
   rw [rS h hk e3 (by omega) (Nat.le_refl _),if_pos this]
  new:=fun {x u a b v} e=>by
   obtain ⟨k,hk,hx,e3⟩:=DA e (by simp)
   have hR:=gO (r:=r) h hk e3 (j:=g.n.toNat) (by omega) (Nat.le_refl _)
   have hl:(bE p (au p k)).length=u.length+(v.length+2):=by rw [e3];simp
   have Dz:cK p (k+1)=cK p k+((bE p (au p k)).length - 1):=rfl
   obtain ⟨d,hd⟩:=Nat.exists_eq_add_of_le (show k+1≤g.n.toNat by omega)
   have hmo:=lC (p:=p) (k:=k+1) (d:=d)
   rw [← hd] at hmo
   have:=Gh k
   refine ⟨?_,by omega,by omega⟩
   show (gA p g.n.toNat).getD (RK g p r g.n.toNat a).toNat 0=x
   rw [hR,show ((cK p k:Int)+(u.length:Int)).toNat=cK p k+u.length by omega,hd,tw (by omega),Cn (by omega) (by omega),hx]
  new1:=fun {x u a b v u' a' b' v'} e1 e2 e3=>by
   obtain ⟨k,hk,hx,e4⟩:=DA e1 (by simp)
   have e5:bE p (au p k)=u'++a'::b'::v':=by
    have CR:oS g x:=by rw [← hx];exact aF h.2.1 hk
    rw [hx, ← gN CR];exact e2
   rw [gO h hk e4 (by omega) (Nat.le_refl _),gO h hk e5 (by omega) (Nat.le_refl _)] at e3
   have hl:u.length=u'.length:=by omega
   rw [e4] at e5
   have:=(List.append_inj e5 hl).2
   simp only [List.cons.injEq] at this
   exact this.1}
end
end Go.Ab
end
section
namespace Go.Ab
end Go.Ab
end
section
namespace Go.Ab
open Go.Proofs
attribute [local congr] ACall.congr
set_option maxRecDepth 10000
set_option maxHeartbeats 8000000
def iw (A o:List Int) (f:Nat→Int):Nat→List Int
 |0=>A
 |j+1=>(iw A o f j).set (o.getD j 0).toNat (f j)
theorem e8 {A o:List Int} {f:Nat→Int} :∀ {j:Nat},(iw A o f j).length=A.length
 |0=>rfl
 |j+1=>by rw [iw,List.length_set,e8]
def lT (A o:List Int) (left:Int) (c:Nat) (j:Nat):List Int:=iw A o (fun j=>if j=0 then left else (c:Int)+j - 1) j
def lU (A o:List Int) (right:Int) (c:Nat) (j:Nat):List Int:=iw A o (fun j=>if j+1<o.length then (c:Int)+j else right) j
theorem z6 {A o:List Int} {left:Int} {c:Nat} {j:Nat} :(lT A o left c j).length=A.length:=e8
theorem z7 {A o:List Int} {left:Int} {c:Nat} {j:Nat} :(lU A o left c j).length=A.length:=e8
theorem lD {A o:List Int} {f:Nat→Int} {e:Nat} :∀ {j:Nat},(∀i,i<j→(o.getD i 0).toNat≠e)→(iw A o f j).getD e 0=A.getD e 0
 |0,_=>rfl
 |j+1,h=>by
  have h1:=h j (by omega)
  rw [iw,List.getD_eq_getElem?_getD,List.getElem?_set,if_neg h1, ← List.getD_eq_getElem?_getD,lD fun i hi=>h i (by omega)]
theorem wQ {A o:List Int} {f:Nat→Int} {i:Nat} (hA:(o.getD i 0).toNat<A.length):∀ {j:Nat},i<j→(∀k,k<j→(o.getD k 0).toNat=(o.getD i 0).toNat→k=i)→(iw A o f j).getD (o.getD i 0).toNat 0=f i
 |0,h,_=>by omega
 |j+1,h,hn=>by
  rw [iw,List.getD_eq_getElem?_getD,List.getElem?_set]
  by_cases e:(o.getD j 0).toNat=(o.getD i 0).toNat
  ·have:=hn j (by omega) e
   subst this
   rw [if_pos rfl,if_pos (by rw [e8];exact hA)];rfl
  ·have hji:j≠i:=fun e2=>e (by rw [e2])
   rw [if_neg e, ← List.getD_eq_getElem?_getD,wQ hA (by omega) fun k hk=>hn k (by omega)]
def e9 (c k:Nat):List Int:=(List.range k).map fun i:Nat=>((c+i:Nat):Int)
theorem xU {c k:Nat} :e9 c (k+1)=e9 c k++ [((c+k:Nat):Int)]:=by simp [e9,List.range_succ]
theorem jy {c k:Nat} :(e9 c k).length=k:=by simp [e9]
def DM (left:Int) (c d j:Nat):Int:=if min j (d - 1)=0 then left else (c:Int)+(min j (d - 1):Nat) - 1
def FR (ed gp:D) (A B lo hi:List Int):List (Nat × AObj):= [(10000, .box [.d ed, .d gp, .ref 10001, .ref 10002, .ref 10003, .ref 10004]),(10001, .own 3 1 (A.map rI)),(10002, .own 3 1 (B.map rI)),(10003, .tip 3 1 (lo.map rI)),(10004, .own 3 1 (hi.map rI))]
def FT (ed gp:D) (A B lo hi:List Int):List (Nat × AObj):= [(10000, .box [.d ed, .d gp, .ref 10001, .ref 10002, .ref 10005, .ref 10006]),(10001, .own 3 1 (A.map rI)),(10002, .own 3 1 (B.map rI)),(10005, .tip 3 1 (lo.map rI)),(10006, .own 3 1 (hi.map rI))]
theorem tA (x left right:Int) (o:List Int) (ed gp:D) (A B lo hi:List Int) (ho:o.length≤100000) (hO:∀i∈o,0≤i∧i<A.length) (hB:B.length=A.length) (hlo:lo.length≤100000) (hhi:hi.length≤100000):
 Spec Tryz.prog 52 (Args [.ptr 10000 0,eN x, .d (sI o),eN left,eN right]) (FR ed gp A B lo hi)
  (.d (sI (e9 lo.length (o.length - 1)))) (FT ed gp (lT A o left lo.length o.length) (lU B o right lo.length o.length) (lo++List.replicate (o.length - 1) x) (hi++List.replicate (o.length - 1) 0)):=by
 unfold FR FT
 generalize hc:lo.length=c at*
 (refine Spec.fk (C:=T.cfg [] []) (rs:= [.t 10]) [(10005,200),(10006,201)] (T.aq _ _) Tryz.func52 rfl rfl Tryz.ntmps52 Tryz.results52 (by simp [AObj.isNest]) (by simp [AObj.isNest]) (by first|(simp [look];done)|(simp [asN];done)|(intro l hl;simp only [asN];repeat (rw [if_neg (fun e=>by subst e;simp [look] at hl)]))) (by first|(simp [look];done)|(simp [asN];done)|(intro l hl;simp only [asN];repeat (rw [if_neg (fun e=>by subst e;simp [look] at hl)]))) (by kernel_rfl) ?_;intro X hX hP hC aM aN vals hA;refine ⟨_,by simp,hA, ?_⟩;have af:X.P.follows .mixedOrders=true:=(by rw [hP];exact T.mixed);clear aM aN)
 repeat' (first|fail|((first|((with_reducible (first|apply oA|apply oB));exact rfl;intro K hK)|(refine hK _ ?_;clear hK K)|((with_reducible (first|apply oG|apply oH));iterate 3 exact rfl)|((with_reducible apply oI);(iterate 2 exact rfl);intro K hK)|(with_reducible (first|apply wI|apply wJ|apply wK)));try simp only [go_sem,simprocAttr])|(show dB _ (.seq (.region 1 _ _) _) _ _;(refine jM hX 10 202 (.tip 3 1 []) (by simp only [go_sem,simprocAttr]) (by simp only [go_sem,simprocAttr]) (by decide) ⟨3,1,by decide, .inr rfl⟩ ?_;simp only [go_sem,simprocAttr]);(refine iE hX 10000 4 10003 200 rfl rfl rfl (by first|exact .inl rfl|exact .inr rfl) (by decide) (by decide) ?_;simp only [LA.app,ASt.put,ASt.kill,subT,rmk,putM,rml,kl,AV.sub,AV.subs,AObj.sub,List.set_cons_zero,List.set_cons_succ,go_sem,simprocAttr]);(refine iE hX 10000 5 10004 201 rfl rfl rfl (by first|exact .inl rfl|exact .inr rfl) (by decide) (by decide) ?_;simp only [LA.app,ASt.put,ASt.kill,subT,rmk,putM,rml,kl,AV.sub,AV.subs,AObj.sub,List.set_cons_zero,List.set_cons_succ,go_sem,simprocAttr]))|(with_reducible (first|apply oC|apply oJ|exact oK|apply wA|apply wB|apply wC hX hC|apply wD hX hC|apply wE hX hC af|apply wF hX hC af|apply wG|apply wH|apply And.intro))|((with_reducible refine oD ?_ ?_);first|fail|kernel_rfl)|((with_reducible (first|apply oE|apply oF));(iterate 3 exact rfl);all_goals (intro h;first|(exact absurd h (by decide))|((try simp only [go_sem,simprocAttr] at h);(try with_reducible intro K hK);simp only [go_sem,simprocAttr])))|((first|((with_reducible apply wL);exact rfl)|((with_reducible apply wM);exact rfl));all_goals (try ((with_reducible intro h);first|(exact absurd h (by decide))|(try simp only [go_sem,simprocAttr] at h))))|omega|((first|fail);try simp only [go_sem,simprocAttr])|(intro h))
 refine an (fun j:Nat=>j≤o.length) (fun j=>⟨[(0, .ptr 10000 0),(1,eN x),(2, .d (sI o)),(3,eN (DM left c o.length j)),(4,eN right),(10, .ref 202),(13, .d (sI o)),(14,eN o.length),(15,eN j)], [(10000, .box [.d ed, .d gp, .ref 10001, .ref 10002, .ref 200, .ref 201]),(10001, .own 3 1 ((lT A o left c j).map rI)),(10002, .own 3 1 ((lU B o right c j).map rI)),(200, .tip 3 1 ((lo++List.replicate (min j (o.length - 1)) x).map rI)),(201, .own 3 1 ((hi++List.replicate (min j (o.length - 1)) 0).map rI)),(202, .tip 3 1 ((e9 c (min j (o.length - 1))).map rI))]⟩) (fun j=>o.length - j) 0 (by omega) ?_ ?_
 ·refine Le.of ?_ ?_<;>simp [go_sem,simprocAttr,DM,lT,lU,iw,e9]
 rintro j hj
 rcases Nat.lt_or_ge j o.length with hjl|Jj
 rotate_left
 ·have hb:decide ((j:Int)<(o.length:Int))=false:=decide_eq_false (by omega)
  obtain rfl:j=o.length:=by omega
  have hmin:min o.length (o.length - 1)=o.length - 1:=by omega
  rw [hmin]
  repeat' (first|fail|((first|((with_reducible (first|apply oA|apply oB));exact rfl;intro K hK)|(refine hK _ ?_;clear hK K)|((with_reducible (first|apply oG|apply oH));iterate 3 exact rfl)|((with_reducible apply oI);(iterate 2 exact rfl);intro K hK)|(with_reducible (first|apply wI|apply wJ|apply wK)));try simp only [go_sem,simprocAttr,hb])|fail|(with_reducible (first|apply oC|apply oJ|exact oK|apply wA|apply wB|apply wC hX hC|apply wD hX hC|apply wE hX hC af|apply wF hX hC af|apply wG|apply wH|apply And.intro))|((with_reducible refine oD ?_ ?_);first|fail|kernel_rfl)|((with_reducible (first|apply oE|apply oF));(iterate 3 exact rfl);all_goals (intro h;first|(exact absurd h (by decide))|((try simp only [go_sem,simprocAttr,hb] at h);(try with_reducible intro K hK);simp only [go_sem,simprocAttr,hb])))|((first|((with_reducible apply wL);exact rfl)|((with_reducible apply wM);exact rfl));all_goals (try ((with_reducible intro h);first|(exact absurd h (by decide))|(try simp only [go_sem,simprocAttr,hb] at h))))|omega|((first|fail);try simp only [go_sem,simprocAttr,hb])|(intro h))
 have hb:decide ((j:Int)<(o.length:Int))=true:=decide_eq_true (by omega)
 have hin:=hO _ (aZ (d:=0) hjl)
 have r9:=z6 (A:=A) (o:=o) (left:=left) (c:=c) (j:=j)
 have iL:=z7 (A:=B) (o:=o) (left:=right) (c:=c) (j:=j)
 have Fo:lT A o left c (j+1)=(lT A o left c j).set (o.getD j 0).toNat (if j=0 then left else (c:Int)+j - 1):=rfl
 have z8:lU B o right c (j+1)=(lU B o right c j).set (o.getD j 0).toNat (if j+1<o.length then (c:Int)+j else right):=rfl
 have r8:min j (o.length - 1)=j:=by omega
 have hlf:DM left c o.length j=if j=0 then left else (c:Int)+j - 1:=by unfold DM;rw [r8]
 rw [r8,hlf]
 generalize rX:o.getD j 0=v at hin Fo z8
 obtain ⟨i,rfl⟩:∃i:Nat,v=i:=⟨v.toNat,by omega⟩
 rw [Int.toNat_natCast] at Fo z8
 generalize (if j=0 then left else (c:Int)+j - 1)=lv at Fo hlf ⊢
 by_cases hj2:j+1<o.length
 ·have ak:decide ((j:Int)+1<(o.length:Int))=true:=decide_eq_true (by omega)
  have hm2:min (j+1) (o.length - 1)=j+1:=by omega
  rw [if_pos hj2] at z8
  have Fp:DM left c o.length (j+1)=((c+j:Nat):Int):=by unfold DM;rw [hm2,if_neg (by omega)];omega
  have kf:(lo++List.replicate j x).length=c+j:=by rw [List.length_append,List.length_replicate,hc]
  have rY:(hi++List.replicate j (0:Int)).length=hi.length+j:=by rw [List.length_append,List.length_replicate]
  have IS:lo++List.replicate (j+1) x=(lo++List.replicate j x)++ [x]:=by rw [List.replicate_succ', ← List.append_assoc]
  have IT:hi++List.replicate (j+1) (0:Int)=(hi++List.replicate j 0)++ [0]:=by rw [List.replicate_succ', ← List.append_assoc]
  have qm:=jy (c:=c) (k:=j)
  have Bn:=xU (c:=c) (k:=j)
  generalize lo++List.replicate j x=O1 at kf IS
  generalize hi++List.replicate j (0:Int)=hi1 at rY IT
  generalize e9 c j=gs at qm Bn
  generalize lT A o left c j=A1 at r9 Fo
  generalize lU B o right c j=B1 at iL z8
  repeat' (first|fail|((first|((with_reducible (first|apply oA|apply oB));exact rfl;intro K hK)|(refine hK _ ?_;clear hK K)|((with_reducible (first|apply oG|apply oH));iterate 3 exact rfl)|((with_reducible apply oI);(iterate 2 exact rfl);intro K hK)|(with_reducible (first|apply wI|apply wJ|apply wK)));try simp only [go_sem,simprocAttr,hb,ak,rX,r9,iL,kf,rY,qm])|(show dB _ (.seq (.region 8 _ _) _) _ _;(refine iE hX 10000 4 48 200 rfl rfl rfl (by first|exact .inl rfl|exact .inr rfl) (by decide) (by decide) ?_;simp only [LA.app,ASt.put,ASt.kill,subT,rmk,putM,rml,kl,AV.sub,AV.subs,AObj.sub,List.set_cons_zero,List.set_cons_succ,go_sem,simprocAttr,hb,ak,rX,r9,iL,kf,rY,qm]);(refine iE hX 10000 5 55 201 rfl rfl rfl (by first|exact .inl rfl|exact .inr rfl) (by decide) (by decide) ?_;simp only [LA.app,ASt.put,ASt.kill,subT,rmk,putM,rml,kl,AV.sub,AV.subs,AObj.sub,List.set_cons_zero,List.set_cons_succ,go_sem,simprocAttr,hb,ak,rX,r9,iL,kf,rY,qm]))|(show dB _ (.region 9 _ _) _ _;(refine mj hX 10 65 202 (by simp only [go_sem,simprocAttr,hb,ak,rX,r9,iL,kf,rY,qm]) rfl (by first|exact .inl rfl|exact .inr rfl) (by decide) ?_;simp only [go_sem,simprocAttr,hb,ak,rX,r9,iL,kf,rY,qm]))|(with_reducible (first|apply oC|apply oJ|exact oK|apply wA|apply wB|apply wC hX hC|apply wD hX hC|apply wE hX hC af|apply wF hX hC af|apply wG|apply wH|apply And.intro))|((with_reducible refine oD ?_ ?_);first|fail|kernel_rfl)|((with_reducible (first|apply oE|apply oF));(iterate 3 exact rfl);all_goals (intro h;first|(exact absurd h (by decide))|((try simp only [go_sem,simprocAttr,hb,ak,rX,r9,iL,kf,rY,qm] at h);(try with_reducible intro K hK);simp only [go_sem,simprocAttr,hb,ak,rX,r9,iL,kf,rY,qm])))|((first|((with_reducible apply wL);exact rfl)|((with_reducible apply wM);exact rfl));all_goals (try ((with_reducible intro h);first|(exact absurd h (by decide))|(try simp only [go_sem,simprocAttr,hb,ak,rX,r9,iL,kf,rY,qm] at h))))|omega|((first|fail);try simp only [go_sem,simprocAttr,hb,ak,rX,r9,iL,kf,rY,qm])|(intro h))
  refine ⟨j+1,by omega, ?_,by omega⟩
  rw [Fo,z8,hm2,IS,IT,Bn,Fp]
  refine Le.of ?_ ?_<;>simp [go_sem,simprocAttr,hb,ak,rX,r9,iL,kf,rY,qm,rI]
 ·have ak:decide ((j:Int)+1<(o.length:Int))=false:=decide_eq_false (by omega)
  have hm2:min (j+1) (o.length - 1)=j:=by omega
  have Fp:DM left c o.length (j+1)=DM left c o.length j:=by unfold DM;rw [hm2,r8]
  rw [if_neg hj2] at z8
  generalize lT A o left c j=A1 at r9 Fo
  generalize lU B o right c j=B1 at iL z8
  repeat' (first|fail|((first|((with_reducible (first|apply oA|apply oB));exact rfl;intro K hK)|(refine hK _ ?_;clear hK K)|((with_reducible (first|apply oG|apply oH));iterate 3 exact rfl)|((with_reducible apply oI);(iterate 2 exact rfl);intro K hK)|(with_reducible (first|apply wI|apply wJ|apply wK)));try simp only [go_sem,simprocAttr,hb,ak,rX,r9,iL])|fail|(with_reducible (first|apply oC|apply oJ|exact oK|apply wA|apply wB|apply wC hX hC|apply wD hX hC|apply wE hX hC af|apply wF hX hC af|apply wG|apply wH|apply And.intro))|((with_reducible refine oD ?_ ?_);first|fail|kernel_rfl)|((with_reducible (first|apply oE|apply oF));(iterate 3 exact rfl);all_goals (intro h;first|(exact absurd h (by decide))|((try simp only [go_sem,simprocAttr,hb,ak,rX,r9,iL] at h);(try with_reducible intro K hK);simp only [go_sem,simprocAttr,hb,ak,rX,r9,iL])))|((first|((with_reducible apply wL);exact rfl)|((with_reducible apply wM);exact rfl));all_goals (try ((with_reducible intro h);first|(exact absurd h (by decide))|(try simp only [go_sem,simprocAttr,hb,ak,rX,r9,iL] at h))))|omega|((first|fail);try simp only [go_sem,simprocAttr,hb,ak,rX,r9,iL])|(intro h))
  refine ⟨j+1,by omega, ?_,by omega⟩
  rw [Fo,z8,hm2,Fp,hlf]
  refine Le.of ?_ ?_<;>simp [go_sem,simprocAttr,hb,ak,rX,r9,iL,rI]
end Go.Ab
end
section
namespace Go.Ab
open Go.Proofs
attribute [local congr] ACall.congr
set_option maxRecDepth 10000
set_option maxHeartbeats 8000000
def jz (A fs:List Int) (x:Int) (j:Nat):List Int:=iw A fs (fun _=>x) j
theorem jA {A fs:List Int} {x:Int} {j:Nat} :(jz A fs x j).length=A.length:=e8
theorem iR (l items:List Int) (a b:Nat) (h0:0<(l.take a++items++l.drop b).length) (hr:l.length≤400000) (hi:items.length≤100000):Spec Tryz.prog 54 (Args [.d (.sl 1 [[.sl 1 (List.take a (l.map rI))], [.sl 1 (items.map rI)], [.sl 1 (List.drop b (l.map rI))]])]) [] (.d (sI (l.take a++items++l.drop b))) []:=by
 have hf: [l.take a,items,l.drop b].flatten=l.take a++items++l.drop b:=by simp
 have:=dM [l.take a,items,l.drop b] (by simp) (by rw [hf];exact h0) (by rw [hf];simp;omega)
 rw [hf] at this
 simpa only [vL,List.map_cons,List.map_nil,sI,List.map_take,List.map_drop] using this
theorem uO (x:Int) (o W G A B lo hi:List Int) (a b:Nat) (hab:a<b) (O2:b<G.length) (O3:b≤W.length) (hG:G.length≤100000) (hW:W.length≤100000) (hf:∀f∈(G.take b).drop (a+1),0≤f∧f<hi.length)
 (ho:o.length≤100000) (hO:∀i∈o,0≤i∧i<A.length) (hB:B.length=A.length) (hlo:lo.length≤100000) (hhi:hi.length≤100000):
 Spec Tryz.prog 56 (Args [.ptr 10000 0,eN x, .d (sI o),eN a,eN b]) (FR (sI W) (sI G) A B lo hi) (.tup [])
  (FT (sI (if o= [] then W else W.take a++o++W.drop b)) (sI (G.take (a+1)++e9 lo.length (o.length - 1)++G.drop b)) (lT A o (G.getD a 0) lo.length o.length) (lU B o (G.getD b 0) lo.length o.length) (lo++List.replicate (o.length - 1) x) (jz hi ((G.take b).drop (a+1)) x ((G.take b).drop (a+1)).length++List.replicate (o.length - 1) 0)):=by
 have tL:List.drop (a+1) (List.take b (List.map rI G))=((G.take b).drop (a+1)).map rI:=by rw [List.map_drop,List.map_take]
 have hfl:((G.take b).drop (a+1)).length≤100000:=by simp;omega
 generalize (G.take b).drop (a+1)=fs at tL hf hfl ⊢
 have sg:List.take G.length (List.map rI G)=List.map rI G:=List.take_of_length_le (by simp)
 have od:List.take W.length (List.map rI W)=List.map rI W:=List.take_of_length_le (by simp)
 have hmn:min ((a:Int)+1) (b:Int)=((a+1:Nat):Int):=by omega
 have Co:=tA x (G.getD a 0) (G.getD b 0) o (sI W) (sI G) A B lo (jz hi fs x fs.length) ho hO hB hlo (by rw [jA];exact hhi)
 have LB:=iR G (e9 lo.length (o.length - 1)) (a+1) b (by simp;omega) (by omega) (by rw [jy];omega)
 have MA:=fun (h:o≠ [])=>iR W o a b (by have:=List.length_pos_iff.2 h;simp;omega) (by omega) (by omega)
 generalize hg:e9 lo.length (o.length - 1)=gs at Co LB
 unfold FR FT at Co ⊢
 (refine Spec.fk (C:=T.cfg [] []) (rs:= []) [(10005,300),(10006,301)] (T.aq _ _) Tryz.func56 rfl rfl Tryz.ntmps56 Tryz.results56 (by simp [AObj.isNest]) (by simp [AObj.isNest]) (by first|(simp [look];done)|(simp [asN];done)|(intro l hl;simp only [asN];repeat (rw [if_neg (fun e=>by subst e;simp [look] at hl)]))) (by first|(simp [look];done)|(simp [asN];done)|(intro l hl;simp only [asN];repeat (rw [if_neg (fun e=>by subst e;simp [look] at hl)]))) (by kernel_rfl) ?_;intro X hX hP hC aM aN vals hA;refine ⟨_,by simp,hA, ?_⟩;have af:X.P.follows .mixedOrders=true:=(by rw [hP];exact T.mixed);clear aM aN)
 repeat' (first|fail|((first|((with_reducible (first|apply oA|apply oB));exact rfl;intro K hK)|(refine hK _ ?_;clear hK K)|((with_reducible (first|apply oG|apply oH));iterate 3 exact rfl)|((with_reducible apply oI);(iterate 2 exact rfl);intro K hK)|(with_reducible (first|apply wI|apply wJ|apply wK)));try simp only [go_sem,simprocAttr,hmn,tL])|fail|(with_reducible (first|apply oC|apply oJ|exact oK|apply wA|apply wB|apply wC hX hC|apply wD hX hC|apply wE hX hC af|apply wF hX hC af|apply wG|apply wH|apply And.intro))|((with_reducible refine oD ?_ ?_);first|fail|kernel_rfl)|((with_reducible (first|apply oE|apply oF));(iterate 3 exact rfl);all_goals (intro h;first|(exact absurd h (by decide))|((try simp only [go_sem,simprocAttr,hmn,tL] at h);(try with_reducible intro K hK);simp only [go_sem,simprocAttr,hmn,tL])))|((first|((with_reducible apply wL);exact rfl)|((with_reducible apply wM);exact rfl));all_goals (try ((with_reducible intro h);first|(exact absurd h (by decide))|(try simp only [go_sem,simprocAttr,hmn,tL] at h))))|omega|((first|fail);try simp only [go_sem,simprocAttr,hmn,tL])|(intro h))
 refine an (fun j:Nat=>j≤fs.length) (fun j=>⟨[(0, .ptr 10000 0),(1,eN x),(2, .d (sI o)),(3,eN a),(4,eN b),(24, .d (sI fs)),(25,eN fs.length),(26,eN j)], [(10000, .box [.d (sI W), .d (sI G), .ref 10001, .ref 10002, .ref 10003, .ref 10004]),(10001, .own 3 1 (A.map rI)),(10002, .own 3 1 (B.map rI)),(10003, .tip 3 1 (lo.map rI)),(10004, .own 3 1 ((jz hi fs x j).map rI))]⟩) (fun j=>fs.length - j) 0 (by omega) ?_ ?_
 ·refine Le.of ?_ ?_<;>simp [go_sem,simprocAttr,jz,iw]
 rintro j hj
 rcases Nat.lt_or_ge j fs.length with hjl|Jj
 ·have hb:decide ((j:Int)<(fs.length:Int))=true:=decide_eq_true (by omega)
  have hin:=hf _ (aZ (d:=0) hjl)
  have rY:=jA (A:=hi) (fs:=fs) (x:=x) (j:=j)
  have Jn:jz hi fs x (j+1)=(jz hi fs x j).set (fs.getD j 0).toNat x:=rfl
  generalize rX:fs.getD j 0=v at hin Jn
  obtain ⟨i,rfl⟩:∃i:Nat,v=i:=⟨v.toNat,by omega⟩
  rw [Int.toNat_natCast] at Jn
  generalize jz hi fs x j=H1 at rY Jn
  repeat' (first|fail|((first|((with_reducible (first|apply oA|apply oB));exact rfl;intro K hK)|(refine hK _ ?_;clear hK K)|((with_reducible (first|apply oG|apply oH));iterate 3 exact rfl)|((with_reducible apply oI);(iterate 2 exact rfl);intro K hK)|(with_reducible (first|apply wI|apply wJ|apply wK)));try simp only [go_sem,simprocAttr,hb,rX,rY])|fail|(with_reducible (first|apply oC|apply oJ|exact oK|apply wA|apply wB|apply wC hX hC|apply wD hX hC|apply wE hX hC af|apply wF hX hC af|apply wG|apply wH|apply And.intro))|((with_reducible refine oD ?_ ?_);first|fail|kernel_rfl)|((with_reducible (first|apply oE|apply oF));(iterate 3 exact rfl);all_goals (intro h;first|(exact absurd h (by decide))|((try simp only [go_sem,simprocAttr,hb,rX,rY] at h);(try with_reducible intro K hK);simp only [go_sem,simprocAttr,hb,rX,rY])))|((first|((with_reducible apply wL);exact rfl)|((with_reducible apply wM);exact rfl));all_goals (try ((with_reducible intro h);first|(exact absurd h (by decide))|(try simp only [go_sem,simprocAttr,hb,rX,rY] at h))))|omega|((first|fail);try simp only [go_sem,simprocAttr,hb,rX,rY])|(intro h))
  refine ⟨j+1,by omega, ?_,by omega⟩
  rw [Jn]
  refine Le.of ?_ ?_<;>simp [go_sem,simprocAttr,hb,rX,rY,rI]
 have hb:decide ((j:Int)<(fs.length:Int))=false:=decide_eq_false (by omega)
 obtain rfl:j=fs.length:=by omega
 have pW:((a:Int)+1).toNat=a+1:=by omega
 by_cases hne:o= []
 ·have ak:decide ((o.length:Int)=0)=true:=decide_eq_true (by rw [hne];rfl)
  repeat' (first|fail|((first|((with_reducible (first|apply oA|apply oB));exact rfl;intro K hK)|(refine hK _ ?_;clear hK K)|((with_reducible (first|apply oG|apply oH));iterate 3 exact rfl)|((with_reducible apply oI);(iterate 2 exact rfl);intro K hK)|(with_reducible (first|apply wI|apply wJ|apply wK)));try simp only [go_sem,simprocAttr,hb,ak,if_pos hne,pW,sg,od])|fail|(with_reducible (first|apply oC|apply oJ|exact oK|apply wA|apply wB|apply wC hX hC|apply wD hX hC|apply wE hX hC af|apply wF hX hC af|apply wG|apply wH|apply And.intro))|((with_reducible refine oD ?_ ?_);first|fail|kernel_rfl)|((with_reducible (first|apply oE|apply oF));(iterate 3 exact rfl);all_goals (intro h;first|(exact absurd h (by decide))|((try simp only [go_sem,simprocAttr,hb,ak,if_pos hne,pW,sg,od] at h);(try with_reducible intro K hK);simp only [go_sem,simprocAttr,hb,ak,if_pos hne,pW,sg,od])))|((first|((with_reducible apply wL);exact rfl)|((with_reducible apply wM);exact rfl));all_goals (try ((with_reducible intro h);first|(exact absurd h (by decide))|(try simp only [go_sem,simprocAttr,hb,ak,if_pos hne,pW,sg,od] at h))))|omega|((first|first|(refine az hX hC hP [(10000,10000),(10001,10001),(10002,10002),(10003,10003),(10004,10004),(10005,300),(10006,301)] (Co) rfl rfl rfl ?_ ?_ ?_ ?_ ?_ ?_ ?_ ?_ ?_ ?_ ?_ ?_ ?_ ?_;(focus (simp only [go_sem,simprocAttr,hb,ak,if_pos hne,pW,sg,od];done));(iterate 12 (focus (simp [go_sem,simprocAttr,hb,ak,if_pos hne,pW,sg,od];done)));simp only [go_sem,simprocAttr,hb,ak,if_pos hne,pW,sg,od,List.map_cons,List.map_nil])|(refine bu hX hC hP (LB) rfl rfl rfl ?_ ?_ rfl ?_;iterate 2 (focus (simp only [go_sem,simprocAttr,hb,ak,if_pos hne,pW,sg,od];done)))|(refine bu hX hC hP (MA hne) rfl rfl rfl ?_ ?_ rfl ?_;iterate 2 (focus (simp only [go_sem,simprocAttr,hb,ak,if_pos hne,pW,sg,od];done))));try simp only [go_sem,simprocAttr,hb,ak,if_pos hne,pW,sg,od])|(intro h))
  all_goals (first|rfl|(simp only [go_sem,simprocAttr,hb,ak,if_pos hne,pW,sg,od];done))
 ·have ak:decide ((o.length:Int)=0)=false:=decide_eq_false (by have:=List.length_pos_iff.2 hne;omega)
  repeat' (first|fail|((first|((with_reducible (first|apply oA|apply oB));exact rfl;intro K hK)|(refine hK _ ?_;clear hK K)|((with_reducible (first|apply oG|apply oH));iterate 3 exact rfl)|((with_reducible apply oI);(iterate 2 exact rfl);intro K hK)|(with_reducible (first|apply wI|apply wJ|apply wK)));try simp only [go_sem,simprocAttr,hb,ak,if_neg hne,pW,sg,od])|fail|(with_reducible (first|apply oC|apply oJ|exact oK|apply wA|apply wB|apply wC hX hC|apply wD hX hC|apply wE hX hC af|apply wF hX hC af|apply wG|apply wH|apply And.intro))|((with_reducible refine oD ?_ ?_);first|fail|kernel_rfl)|((with_reducible (first|apply oE|apply oF));(iterate 3 exact rfl);all_goals (intro h;first|(exact absurd h (by decide))|((try simp only [go_sem,simprocAttr,hb,ak,if_neg hne,pW,sg,od] at h);(try with_reducible intro K hK);simp only [go_sem,simprocAttr,hb,ak,if_neg hne,pW,sg,od])))|((first|((with_reducible apply wL);exact rfl)|((with_reducible apply wM);exact rfl));all_goals (try ((with_reducible intro h);first|(exact absurd h (by decide))|(try simp only [go_sem,simprocAttr,hb,ak,if_neg hne,pW,sg,od] at h))))|omega|((first|first|(refine az hX hC hP [(10000,10000),(10001,10001),(10002,10002),(10003,10003),(10004,10004),(10005,300),(10006,301)] (Co) rfl rfl rfl ?_ ?_ ?_ ?_ ?_ ?_ ?_ ?_ ?_ ?_ ?_ ?_ ?_ ?_;(focus (simp only [go_sem,simprocAttr,hb,ak,if_neg hne,pW,sg,od];done));(iterate 12 (focus (simp [go_sem,simprocAttr,hb,ak,if_neg hne,pW,sg,od];done)));simp only [go_sem,simprocAttr,hb,ak,if_neg hne,pW,sg,od,List.map_cons,List.map_nil])|(refine bu hX hC hP (LB) rfl rfl rfl ?_ ?_ rfl ?_;iterate 2 (focus (simp only [go_sem,simprocAttr,hb,ak,if_neg hne,pW,sg,od];done)))|(refine bu hX hC hP (MA hne) rfl rfl rfl ?_ ?_ rfl ?_;iterate 2 (focus (simp only [go_sem,simprocAttr,hb,ak,if_neg hne,pW,sg,od];done))));try simp only [go_sem,simprocAttr,hb,ak,if_neg hne,pW,sg,od])|(intro h))
  all_goals (first|rfl|(simp only [go_sem,simprocAttr,hb,ak,if_neg hne,pW,sg,od];done))
end Go.Ab
end
