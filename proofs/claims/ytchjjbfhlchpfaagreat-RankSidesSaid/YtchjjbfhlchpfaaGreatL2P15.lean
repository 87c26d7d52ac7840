/- A part of the proof. -/
import Derived.Test.YtchjjbfhlchpfaaGreatL2P14
set_option linter.unusedSimpArgs false
set_option linter.unusedVariables false
section
namespace Go.Ab
open Go.Proofs
attribute [local congr] ACall.congr
set_option maxRecDepth 10000
set_option maxHeartbeats 8000000
def nT (m:Nat) (fl:List Int):List Int:=(List.range m).map fun i:Nat=>if (i:Int)∈fl then (1:Int) else 0
theorem yQ {m:Nat} {fl:List Int} :(nT m fl).length=m:=by simp [nT]
theorem Ct {m:Nat} :nT m []=List.replicate m 0:=by
 refine List.ext_getElem (by simp [nT]) fun i h1 h2=> ?_
 simp [nT]
theorem A5 {m:Nat} {fl:List Int} {i:Nat} (h:i<m):(nT m fl).getD i 0=if (i:Int)∈fl then 1 else 0:=by
 simp [nT,List.getD_eq_getElem?_getD,List.getElem?_range h]
theorem Ez {m:Nat} {fl:List Int} {i:Nat} (h:i<m):(nT m fl).set i 1=nT m (fl++ [(i:Int)]):=by
 refine List.ext_getElem (by simp [nT]) fun j h1 h2=> ?_
 rw [List.getElem_set]
 simp only [nT,List.getElem_map,List.getElem_range,List.mem_append,List.mem_singleton]
 by_cases e:i=j
 ·subst e;simp
 ·rw [if_neg e]
  have:¬(j:Int)=(i:Int):=by omega
  simp [this]
theorem EA {outs:List (List Int)} {x k:Nat} (hx:x<outs.length):((outs.take x).flatten++(outs.getD x []).take k).Sublist outs.flatten:=by
 have e:outs=outs.take x++outs.getD x []::outs.drop (x+1):=by
  conv=>lhs;rw [← List.take_append_drop x outs]
  congr 1
  rw [List.drop_eq_getElem_cons hx,List.getD_eq_getElem?_getD,List.getElem?_eq_getElem hx]
  rfl
 conv=>rhs;rw [e]
 rw [List.flatten_append,List.flatten_cons]
 exact List.Sublist.append (List.Sublist.refl _) ((List.take_sublist _ _).trans (List.sublist_append_left _ _))
theorem z7 {l:List Int} {k:Nat} (h:k<l.length):l.take (k+1)=l.take k++ [l.getD k 0]:=by
 rw [List.take_add_one,List.getD_eq_getElem?_getD,List.getElem?_eq_getElem h];rfl
theorem o9 {g:Gr} {x i:Int} :i∈bE g x↔(0≤i∧i<g.es.length)∧(g.es.getD i.toNat (0,0)).1=x:=by
 constructor
 ·exact fR
 ·rintro ⟨⟨h1,h2⟩,h3⟩
  simp only [bE,bg,List.mem_map,List.mem_filter,List.mem_range,decide_eq_true_eq]
  exact ⟨i.toNat,⟨by omega,h3⟩,by simp;omega⟩
theorem EB (g:Gr) (hl:g.es.length≤9223372036854775807) (p:Pl) (hp:o8 p) (res:Bool) (hr:res=true↔(b9 g).1=0∧bp g p):Spec Tryz.prog 110 (Args [eG g,ePl p]) [] (eB res) []:=by
 have ho:p.ord.length≤9223372036854775807:=by have:=hp.ord;omega
 have IN:=hp.outs
 by_cases hc:(b9 g).1=0
 rotate_left
 ·have hres:res=false:=by
   rw [← Bool.not_eq_true,hr]
   rintro ⟨h,_⟩
   exact hc h
  subst hres
  have ak:decide ((b9 g).1=0)=false:=decide_eq_false hc
  (refine Spec.intro (C:=T.cfg [] []) (rs:= [.t 4]) (T.ai _ _) Tryz.func110 rfl rfl Tryz.ntmps110 Tryz.results110 (by simp [AObj.isNest]) (by simp [AObj.isNest]) (by kernel_rfl) ?_;intro X hX hP hC aG aH vals hA;refine ⟨_,by simp,hA, ?_⟩;have af:X.P.follows .mixedOrders=true:=(by rw [hP];exact T.mixed);clear aG aH)
  repeat' (first|((first|((with_reducible (first|apply oA|apply oB));exact rfl;intro K hK)|(refine hK _ ?_;clear hK K)|((with_reducible (first|apply oG|apply oH));iterate 3 exact rfl)|((with_reducible apply oI);(iterate 2 exact rfl);intro K hK)|(with_reducible (first|apply wI|apply wJ|apply wK)));try simp only [go_sem,simprocAttr,ak])|(with_reducible (first|apply oC|apply oJ|exact oK|apply wA|apply wB|apply wC hX hC|apply wD hX hC|apply wE hX hC af|apply wF hX hC af|apply wG|apply wH|apply And.intro))|((with_reducible refine oD ?_ ?_);kernel_rfl)|((with_reducible (first|apply oE|apply oF));(iterate 3 exact rfl);all_goals (intro h;first|(exact absurd h (by decide))|((try simp only [go_sem,simprocAttr,ak] at h);(try with_reducible intro K hK);simp only [go_sem,simprocAttr,ak])))|((first|((with_reducible apply wL);exact rfl)|((with_reducible apply wM);exact rfl));all_goals (try ((with_reducible intro h);first|(exact absurd h (by decide))|(try simp only [go_sem,simprocAttr,ak] at h))))|omega|((first|refine aa hX hC hP (aU g hl) rfl rfl rfl (by simp only [go_sem,simprocAttr,ak]) rfl ?_);try simp only [go_sem,simprocAttr,ak])|(intro h))
 have ak:decide ((b9 g).1=0)=true:=decide_eq_true hc
 have hm:=au hc
 have hn:=aL hm
 have hr:res=true↔bp g p:=by rw [hr];exact ⟨fun h=>h.2,fun h=>⟨hc,h⟩⟩
 rw [← AZ hm] at hr
 by_cases he:gB p.ord g.n=true∧p.outs.length=g.n.toNat
 rotate_left
 ·have hres:res=false:=by
   rw [← Bool.not_eq_true,hr]
   rintro ⟨h2,h3,_⟩
   exact he ⟨h2,h3⟩
  subst hres
  cases h2:gB p.ord g.n with
  |false=>
   (refine Spec.intro (C:=T.cfg [] []) (rs:= [.t 4]) (T.ai _ _) Tryz.func110 rfl rfl Tryz.ntmps110 Tryz.results110 (by simp [AObj.isNest]) (by simp [AObj.isNest]) (by kernel_rfl) ?_;intro X hX hP hC aG aH vals hA;refine ⟨_,by simp,hA, ?_⟩;have af:X.P.follows .mixedOrders=true:=(by rw [hP];exact T.mixed);clear aG aH)
   repeat' (first|((first|((with_reducible (first|apply oA|apply oB));exact rfl;intro K hK)|(refine hK _ ?_;clear hK K)|((with_reducible (first|apply oG|apply oH));iterate 3 exact rfl)|((with_reducible apply oI);(iterate 2 exact rfl);intro K hK)|(with_reducible (first|apply wI|apply wJ|apply wK)));try simp only [go_sem,simprocAttr,ak,h2])|(with_reducible (first|apply oC|apply oJ|exact oK|apply wA|apply wB|apply wC hX hC|apply wD hX hC|apply wE hX hC af|apply wF hX hC af|apply wG|apply wH|apply And.intro))|((with_reducible refine oD ?_ ?_);kernel_rfl)|((with_reducible (first|apply oE|apply oF));(iterate 3 exact rfl);all_goals (intro h;first|(exact absurd h (by decide))|((try simp only [go_sem,simprocAttr,ak,h2] at h);(try with_reducible intro K hK);simp only [go_sem,simprocAttr,ak,h2])))|((first|((with_reducible apply wL);exact rfl)|((with_reducible apply wM);exact rfl));all_goals (try ((with_reducible intro h);first|(exact absurd h (by decide))|(try simp only [go_sem,simprocAttr,ak,h2] at h))))|omega|((first|refine aa hX hC hP (aU g hl) rfl rfl rfl (by simp only [go_sem,simprocAttr,ak,h2]) rfl ?_|refine aa hX hC hP (cy p.ord g.n ho) rfl rfl rfl (by simp only [go_sem,simprocAttr,ak,h2]) rfl ?_);try simp only [go_sem,simprocAttr,ak,h2])|(intro h))
  |true=>
   have an:decide ((p.outs.length:Int)=g.n)=false:=decide_eq_false fun h3=>he ⟨h2,by omega⟩
   (refine Spec.intro (C:=T.cfg [] []) (rs:= [.t 4]) (T.ai _ _) Tryz.func110 rfl rfl Tryz.ntmps110 Tryz.results110 (by simp [AObj.isNest]) (by simp [AObj.isNest]) (by kernel_rfl) ?_;intro X hX hP hC aG aH vals hA;refine ⟨_,by simp,hA, ?_⟩;have af:X.P.follows .mixedOrders=true:=(by rw [hP];exact T.mixed);clear aG aH)
   repeat' (first|((first|((with_reducible (first|apply oA|apply oB));exact rfl;intro K hK)|(refine hK _ ?_;clear hK K)|((with_reducible (first|apply oG|apply oH));iterate 3 exact rfl)|((with_reducible apply oI);(iterate 2 exact rfl);intro K hK)|(with_reducible (first|apply wI|apply wJ|apply wK)));try simp only [go_sem,simprocAttr,ak,h2,an])|(with_reducible (first|apply oC|apply oJ|exact oK|apply wA|apply wB|apply wC hX hC|apply wD hX hC|apply wE hX hC af|apply wF hX hC af|apply wG|apply wH|apply And.intro))|((with_reducible refine oD ?_ ?_);kernel_rfl)|((with_reducible (first|apply oE|apply oF));(iterate 3 exact rfl);all_goals (intro h;first|(exact absurd h (by decide))|((try simp only [go_sem,simprocAttr,ak,h2,an] at h);(try with_reducible intro K hK);simp only [go_sem,simprocAttr,ak,h2,an])))|((first|((with_reducible apply wL);exact rfl)|((with_reducible apply wM);exact rfl));all_goals (try ((with_reducible intro h);first|(exact absurd h (by decide))|(try simp only [go_sem,simprocAttr,ak,h2,an] at h))))|omega|((first|refine aa hX hC hP (aU g hl) rfl rfl rfl (by simp only [go_sem,simprocAttr,ak,h2,an]) rfl ?_|refine aa hX hC hP (cy p.ord g.n ho) rfl rfl rfl (by simp only [go_sem,simprocAttr,ak,h2,an]) rfl ?_);try simp only [go_sem,simprocAttr,ak,h2,an])|(intro h))
 obtain ⟨om,xE⟩:=he
 have an:decide ((p.outs.length:Int)=g.n)=true:=decide_eq_true (by omega)
 (refine Spec.intro (C:=T.cfg [] []) (rs:= [.t 4]) (T.ai _ _) Tryz.func110 rfl rfl Tryz.ntmps110 Tryz.results110 (by simp [AObj.isNest]) (by simp [AObj.isNest]) (by kernel_rfl) ?_;intro X hX hP hC aG aH vals hA;refine ⟨_,by simp,hA, ?_⟩;have af:X.P.follows .mixedOrders=true:=(by rw [hP];exact T.mixed);clear aG aH)
 repeat' (first|((first|((with_reducible (first|apply oA|apply oB));exact rfl;intro K hK)|(refine hK _ ?_;clear hK K)|((with_reducible (first|apply oG|apply oH));iterate 3 exact rfl)|((with_reducible apply oI);(iterate 2 exact rfl);intro K hK)|(with_reducible (first|apply wI|apply wJ|apply wK)));try simp only [go_sem,simprocAttr,ak,om,an])|(with_reducible (first|apply oC|apply oJ|exact oK|apply wA|apply wB|apply wC hX hC|apply wD hX hC|apply wE hX hC af|apply wF hX hC af|apply wG|apply wH|apply And.intro))|((with_reducible refine oD ?_ ?_);kernel_rfl)|((with_reducible (first|apply oE|apply oF));(iterate 3 exact rfl);all_goals (intro h;first|(exact absurd h (by decide))|((try simp only [go_sem,simprocAttr,ak,om,an] at h);(try with_reducible intro K hK);simp only [go_sem,simprocAttr,ak,om,an])))|((first|((with_reducible apply wL);exact rfl)|((with_reducible apply wM);exact rfl));all_goals (try ((with_reducible intro h);first|(exact absurd h (by decide))|(try simp only [go_sem,simprocAttr,ak,om,an] at h))))|omega|((first|refine aa hX hC hP (aU g hl) rfl rfl rfl (by simp only [go_sem,simprocAttr,ak,om,an]) rfl ?_|refine aa hX hC hP (cy p.ord g.n ho) rfl rfl rfl (by simp only [go_sem,simprocAttr,ak,om,an]) rfl ?_);try simp only [go_sem,simprocAttr,ak,om,an])|(intro h))
 clear ak an
 have Cu:List.replicate g.es.length [D.sc (.int .i64 0)]=(nT g.es.length []).map rI:=by rw [Ct,List.map_replicate];rfl
 rw [Cu]
 clear Cu
 refine aj (fun x:Nat=>x≤p.outs.length∧(p.outs.take x).flatten.Nodup∧∀y:Nat,y<x→∀i∈p.outs.getD y [],i∈bE g y) (fun x=>⟨[(2, .ptr 2 0),(3, .ptr 3 0),(5, .ref 32),(6,eN x)], [(32, .own 3 1 ((nT g.es.length (p.outs.take x).flatten).map rI)),(3, .box [.d (sI p.ord), .d (.sl 1 (vI p.outs))]),(2, .box [eN g.n, .d (sE g.es)])]⟩) (fun x=>p.outs.length - x) 0 (by simp) ?_ ?_
 ·refine Le.of ?_ ?_<;>simp [go_sem,simprocAttr]
 rintro x ⟨hx,bT,uA⟩
 rcases Nat.lt_or_ge x p.outs.length with hxl|Fm
 ·have hb:decide ((x:Int)<(p.outs.length:Int))=true:=decide_eq_true (by omega)
  have hv:=gR hxl
  have hle:=hp.each _ (bz (d:= []) hxl)
  have hpre:=fun k=>EA (k:=k) hxl
  have hnext:(p.outs.take (x+1)).flatten=(p.outs.take x).flatten++p.outs.getD x []:=by
   rw [List.take_add_one,List.flatten_append,List.getD_eq_getElem?_getD,List.getElem?_eq_getElem hxl];simp
  have jy:∀i∈p.outs.getD x [],i∉bE g x→res=false:=fun i hi hn=>by
   rw [← Bool.not_eq_true,hr]
   rintro ⟨_,_,h3,_⟩
   exact hn (h3 x hxl i hi)
  have uL:∀k,¬((p.outs.take x).flatten++(p.outs.getD x []).take k).Nodup→res=false:=fun k hn=>by
   rw [← Bool.not_eq_true,hr]
   rintro ⟨_,_,_,h4,_⟩
   exact hn (List.Nodup.sublist (hpre k) h4)
  have zJ:(∀i∈p.outs.getD x [],i∈bE g x)→∀y:Nat,y<x+1→∀i∈p.outs.getD y [],i∈bE g y:=fun h y hy=>by
   by_cases e:y=x
   ·subst e;exact h
   ·exact uA y (by omega)
  generalize p.outs.getD x []=l at hv hle hpre hnext jy uL zJ
  generalize (p.outs.take x).flatten=fl at bT hpre hnext uL
  clear hpre
  repeat' (first|((first|((with_reducible (first|apply oA|apply oB));exact rfl;intro K hK)|(refine hK _ ?_;clear hK K)|((with_reducible (first|apply oG|apply oH));iterate 3 exact rfl)|((with_reducible apply oI);(iterate 2 exact rfl);intro K hK)|(with_reducible (first|apply wI|apply wJ|apply wK)));try simp only [go_sem,simprocAttr,hb,hv])|(with_reducible (first|apply oC|apply oJ|exact oK|apply wA|apply wB|apply wC hX hC|apply wD hX hC|apply wE hX hC af|apply wF hX hC af|apply wG|apply wH|apply And.intro))|((with_reducible refine oD ?_ ?_);kernel_rfl)|((with_reducible (first|apply oE|apply oF));(iterate 3 exact rfl);all_goals (intro h;first|(exact absurd h (by decide))|((try simp only [go_sem,simprocAttr,hb,hv] at h);(try with_reducible intro K hK);simp only [go_sem,simprocAttr,hb,hv])))|((first|((with_reducible apply wL);exact rfl)|((with_reducible apply wM);exact rfl));all_goals (try ((with_reducible intro h);first|(exact absurd h (by decide))|(try simp only [go_sem,simprocAttr,hb,hv] at h))))|omega|((first|refine aa hX hC hP (aU g hl) rfl rfl rfl (by simp only [go_sem,simprocAttr,hb,hv]) rfl ?_|refine aa hX hC hP (cy p.ord g.n ho) rfl rfl rfl (by simp only [go_sem,simprocAttr,hb,hv]) rfl ?_);try simp only [go_sem,simprocAttr,hb,hv])|(intro h))
  clear hb
  refine aj (fun k:Nat=>k≤l.length∧(fl++l.take k).Nodup∧∀i∈l.take k,i∈bE g x) (fun k=>⟨[(2, .ptr 2 0),(3, .ptr 3 0),(5, .ref 32),(6,eN x),(7,eN k)], [(32, .own 3 1 ((nT g.es.length (fl++l.take k)).map rI)),(3, .box [.d (sI p.ord), .d (.sl 1 (vI p.outs))]),(2, .box [eN g.n, .d (sE g.es)])]⟩) (fun k=>l.length - k) 0 (by simpa using bT) ?_ ?_
  ·refine Le.of ?_ ?_<;>simp [go_sem,simprocAttr]
  rintro k ⟨hk,BG,IC⟩
  rcases Nat.lt_or_ge k l.length with cz|GB
  ·have eu:decide ((k:Int)<(l.length:Int))=true:=decide_eq_true (by omega)
   have uR:=z7 cz
   have him:=bz (d:=0) cz
   have dW:=yQ (m:=g.es.length) (fl:=fl++l.take k)
   generalize hi:l.getD k 0=i at uR him
   by_cases h0:i<0
   ·have hres:=jy i him (fun h=>by have:=(o9.1 h).1;omega)
    subst hres
    have ak:decide (i<0)=true:=decide_eq_true h0
    repeat' (first|((first|((with_reducible (first|apply oA|apply oB));exact rfl;intro K hK)|(refine hK _ ?_;clear hK K)|((with_reducible (first|apply oG|apply oH));iterate 3 exact rfl)|((with_reducible apply oI);(iterate 2 exact rfl);intro K hK)|(with_reducible (first|apply wI|apply wJ|apply wK)));try simp only [go_sem,simprocAttr,eu,hv,hi,ak])|(with_reducible (first|apply oC|apply oJ|exact oK|apply wA|apply wB|apply wC hX hC|apply wD hX hC|apply wE hX hC af|apply wF hX hC af|apply wG|apply wH|apply And.intro))|((with_reducible refine oD ?_ ?_);kernel_rfl)|((with_reducible (first|apply oE|apply oF));(iterate 3 exact rfl);all_goals (intro h;first|(exact absurd h (by decide))|((try simp only [go_sem,simprocAttr,eu,hv,hi,ak] at h);(try with_reducible intro K hK);simp only [go_sem,simprocAttr,eu,hv,hi,ak])))|((first|((with_reducible apply wL);exact rfl)|((with_reducible apply wM);exact rfl));all_goals (try ((with_reducible intro h);first|(exact absurd h (by decide))|(try simp only [go_sem,simprocAttr,eu,hv,hi,ak] at h))))|omega|((first|refine aa hX hC hP (aU g hl) rfl rfl rfl (by simp only [go_sem,simprocAttr,eu,hv,hi,ak]) rfl ?_|refine aa hX hC hP (cy p.ord g.n ho) rfl rfl rfl (by simp only [go_sem,simprocAttr,eu,hv,hi,ak]) rfl ?_);try simp only [go_sem,simprocAttr,eu,hv,hi,ak])|(intro h))
   have ak:decide (i<0)=false:=decide_eq_false h0
   by_cases h1:(g.es.length:Int)≤i
   ·have hres:=jy i him (fun h=>by have:=(o9.1 h).1;omega)
    subst hres
    have an:decide ((g.es.length:Int)≤i)=true:=decide_eq_true h1
    repeat' (first|((first|((with_reducible (first|apply oA|apply oB));exact rfl;intro K hK)|(refine hK _ ?_;clear hK K)|((with_reducible (first|apply oG|apply oH));iterate 3 exact rfl)|((with_reducible apply oI);(iterate 2 exact rfl);intro K hK)|(with_reducible (first|apply wI|apply wJ|apply wK)));try simp only [go_sem,simprocAttr,eu,hv,hi,ak,an,dW])|(with_reducible (first|apply oC|apply oJ|exact oK|apply wA|apply wB|apply wC hX hC|apply wD hX hC|apply wE hX hC af|apply wF hX hC af|apply wG|apply wH|apply And.intro))|((with_reducible refine oD ?_ ?_);kernel_rfl)|((with_reducible (first|apply oE|apply oF));(iterate 3 exact rfl);all_goals (intro h;first|(exact absurd h (by decide))|((try simp only [go_sem,simprocAttr,eu,hv,hi,ak,an,dW] at h);(try with_reducible intro K hK);simp only [go_sem,simprocAttr,eu,hv,hi,ak,an,dW])))|((first|((with_reducible apply wL);exact rfl)|((with_reducible apply wM);exact rfl));all_goals (try ((with_reducible intro h);first|(exact absurd h (by decide))|(try simp only [go_sem,simprocAttr,eu,hv,hi,ak,an,dW] at h))))|omega|((first|refine aa hX hC hP (aU g hl) rfl rfl rfl (by simp only [go_sem,simprocAttr,eu,hv,hi,ak,an,dW]) rfl ?_|refine aa hX hC hP (cy p.ord g.n ho) rfl rfl rfl (by simp only [go_sem,simprocAttr,eu,hv,hi,ak,an,dW]) rfl ?_);try simp only [go_sem,simprocAttr,eu,hv,hi,ak,an,dW])|(intro h))
   have an:decide ((g.es.length:Int)≤i)=false:=decide_eq_false h1
   obtain ⟨e,rfl⟩:∃e:Nat,i=e:=⟨i.toNat,by omega⟩
   have hel:e<g.es.length:=by omega
   by_cases h2:(g.es.getD e (0,0)).1=x
   rotate_left
   ·have hres:=jy _ him (fun h=>h2 (by have:=(o9.1 h).2;rwa [Int.toNat_natCast] at this))
    subst hres
    have bD:decide ((g.es.getD e (0,0)).1=(x:Int))=false:=decide_eq_false h2
    repeat' (first|((first|((with_reducible (first|apply oA|apply oB));exact rfl;intro K hK)|(refine hK _ ?_;clear hK K)|((with_reducible (first|apply oG|apply oH));iterate 3 exact rfl)|((with_reducible apply oI);(iterate 2 exact rfl);intro K hK)|(with_reducible (first|apply wI|apply wJ|apply wK)));try simp only [go_sem,simprocAttr,eu,hv,hi,ak,an,bD,dW])|(with_reducible (first|apply oC|apply oJ|exact oK|apply wA|apply wB|apply wC hX hC|apply wD hX hC|apply wE hX hC af|apply wF hX hC af|apply wG|apply wH|apply And.intro))|((with_reducible refine oD ?_ ?_);kernel_rfl)|((with_reducible (first|apply oE|apply oF));(iterate 3 exact rfl);all_goals (intro h;first|(exact absurd h (by decide))|((try simp only [go_sem,simprocAttr,eu,hv,hi,ak,an,bD,dW] at h);(try with_reducible intro K hK);simp only [go_sem,simprocAttr,eu,hv,hi,ak,an,bD,dW])))|((first|((with_reducible apply wL);exact rfl)|((with_reducible apply wM);exact rfl));all_goals (try ((with_reducible intro h);first|(exact absurd h (by decide))|(try simp only [go_sem,simprocAttr,eu,hv,hi,ak,an,bD,dW] at h))))|omega|((first|refine aa hX hC hP (aU g hl) rfl rfl rfl (by simp only [go_sem,simprocAttr,eu,hv,hi,ak,an,bD,dW]) rfl ?_|refine aa hX hC hP (cy p.ord g.n ho) rfl rfl rfl (by simp only [go_sem,simprocAttr,eu,hv,hi,ak,an,bD,dW]) rfl ?_);try simp only [go_sem,simprocAttr,eu,hv,hi,ak,an,bD,dW])|(intro h))
   have bD:decide ((g.es.getD e (0,0)).1=(x:Int))=true:=decide_eq_true h2
   have mc:=A5 (fl:=fl++l.take k) hel
   by_cases h3:(e:Int)∈fl++l.take k
   ·have hres:=uL (k+1) (fun h=>by
     rw [uR, ← List.append_assoc,List.nodup_append] at h
     exact h.2.2 _ h3 _ (List.mem_singleton.2 rfl) rfl)
    subst hres
    rw [if_pos h3] at mc
    repeat' (first|((first|((with_reducible (first|apply oA|apply oB));exact rfl;intro K hK)|(refine hK _ ?_;clear hK K)|((with_reducible (first|apply oG|apply oH));iterate 3 exact rfl)|((with_reducible apply oI);(iterate 2 exact rfl);intro K hK)|(with_reducible (first|apply wI|apply wJ|apply wK)));try simp only [go_sem,simprocAttr,eu,hv,hi,ak,an,bD,dW,mc])|(with_reducible (first|apply oC|apply oJ|exact oK|apply wA|apply wB|apply wC hX hC|apply wD hX hC|apply wE hX hC af|apply wF hX hC af|apply wG|apply wH|apply And.intro))|((with_reducible refine oD ?_ ?_);kernel_rfl)|((with_reducible (first|apply oE|apply oF));(iterate 3 exact rfl);all_goals (intro h;first|(exact absurd h (by decide))|((try simp only [go_sem,simprocAttr,eu,hv,hi,ak,an,bD,dW,mc] at h);(try with_reducible intro K hK);simp only [go_sem,simprocAttr,eu,hv,hi,ak,an,bD,dW,mc])))|((first|((with_reducible apply wL);exact rfl)|((with_reducible apply wM);exact rfl));all_goals (try ((with_reducible intro h);first|(exact absurd h (by decide))|(try simp only [go_sem,simprocAttr,eu,hv,hi,ak,an,bD,dW,mc] at h))))|omega|((first|refine aa hX hC hP (aU g hl) rfl rfl rfl (by simp only [go_sem,simprocAttr,eu,hv,hi,ak,an,bD,dW,mc]) rfl ?_|refine aa hX hC hP (cy p.ord g.n ho) rfl rfl rfl (by simp only [go_sem,simprocAttr,eu,hv,hi,ak,an,bD,dW,mc]) rfl ?_);try simp only [go_sem,simprocAttr,eu,hv,hi,ak,an,bD,dW,mc])|(intro h))
   ·rw [if_neg h3] at mc
    have ck:=Ez (fl:=fl++l.take k) hel
    rw [List.append_assoc, ← uR] at ck
    repeat' (first|((first|((with_reducible (first|apply oA|apply oB));exact rfl;intro K hK)|(refine hK _ ?_;clear hK K)|((with_reducible (first|apply oG|apply oH));iterate 3 exact rfl)|((with_reducible apply oI);(iterate 2 exact rfl);intro K hK)|(with_reducible (first|apply wI|apply wJ|apply wK)));try simp only [go_sem,simprocAttr,eu,hv,hi,ak,an,bD,dW,mc])|(with_reducible (first|apply oC|apply oJ|exact oK|apply wA|apply wB|apply wC hX hC|apply wD hX hC|apply wE hX hC af|apply wF hX hC af|apply wG|apply wH|apply And.intro))|((with_reducible refine oD ?_ ?_);kernel_rfl)|((with_reducible (first|apply oE|apply oF));(iterate 3 exact rfl);all_goals (intro h;first|(exact absurd h (by decide))|((try simp only [go_sem,simprocAttr,eu,hv,hi,ak,an,bD,dW,mc] at h);(try with_reducible intro K hK);simp only [go_sem,simprocAttr,eu,hv,hi,ak,an,bD,dW,mc])))|((first|((with_reducible apply wL);exact rfl)|((with_reducible apply wM);exact rfl));all_goals (try ((with_reducible intro h);first|(exact absurd h (by decide))|(try simp only [go_sem,simprocAttr,eu,hv,hi,ak,an,bD,dW,mc] at h))))|omega|((first|refine aa hX hC hP (aU g hl) rfl rfl rfl (by simp only [go_sem,simprocAttr,eu,hv,hi,ak,an,bD,dW,mc]) rfl ?_|refine aa hX hC hP (cy p.ord g.n ho) rfl rfl rfl (by simp only [go_sem,simprocAttr,eu,hv,hi,ak,an,bD,dW,mc]) rfl ?_);try simp only [go_sem,simprocAttr,eu,hv,hi,ak,an,bD,dW,mc])|(intro h))
    refine ⟨k+1,⟨by omega, ?_, ?_⟩, ?_,by omega⟩
    ·rw [uR, ← List.append_assoc,List.nodup_append]
     exact ⟨BG,by simp,fun a ha b hb h=>h3 (by rw [List.mem_singleton] at hb;rw [← hb, ← h];exact ha)⟩
    ·intro j hj
     rw [uR,List.mem_append,List.mem_singleton] at hj
     rcases hj with hj|rfl
     ·exact IC j hj
     ·exact o9.2 ⟨⟨by omega,by omega⟩,by rw [Int.toNat_natCast];exact h2⟩
    ·rw [← ck]
     refine Le.of ?_ ?_<;>simp [go_sem,simprocAttr,eu,hv,hi,ak,an,bD,dW,mc,rI]
  ·have eu:decide ((k:Int)<(l.length:Int))=false:=decide_eq_false (by omega)
   obtain rfl:k=l.length:=by omega
   rw [List.take_length] at BG IC
   repeat' (first|((first|((with_reducible (first|apply oA|apply oB));exact rfl;intro K hK)|(refine hK _ ?_;clear hK K)|((with_reducible (first|apply oG|apply oH));iterate 3 exact rfl)|((with_reducible apply oI);(iterate 2 exact rfl);intro K hK)|(with_reducible (first|apply wI|apply wJ|apply wK)));try simp only [go_sem,simprocAttr,eu,hv])|(with_reducible (first|apply oC|apply oJ|exact oK|apply wA|apply wB|apply wC hX hC|apply wD hX hC|apply wE hX hC af|apply wF hX hC af|apply wG|apply wH|apply And.intro))|((with_reducible refine oD ?_ ?_);kernel_rfl)|((with_reducible (first|apply oE|apply oF));(iterate 3 exact rfl);all_goals (intro h;first|(exact absurd h (by decide))|((try simp only [go_sem,simprocAttr,eu,hv] at h);(try with_reducible intro K hK);simp only [go_sem,simprocAttr,eu,hv])))|((first|((with_reducible apply wL);exact rfl)|((with_reducible apply wM);exact rfl));all_goals (try ((with_reducible intro h);first|(exact absurd h (by decide))|(try simp only [go_sem,simprocAttr,eu,hv] at h))))|omega|((first|refine aa hX hC hP (aU g hl) rfl rfl rfl (by simp only [go_sem,simprocAttr,eu,hv]) rfl ?_|refine aa hX hC hP (cy p.ord g.n ho) rfl rfl rfl (by simp only [go_sem,simprocAttr,eu,hv]) rfl ?_);try simp only [go_sem,simprocAttr,eu,hv])|(intro h))
   refine ⟨x+1,⟨by omega,by rw [hnext];exact BG,zJ IC⟩, ?_,by omega⟩
   rw [hnext]
   refine Le.of ?_ ?_<;>simp [go_sem,simprocAttr,eu,hv]
 have hb:decide ((x:Int)<(p.outs.length:Int))=false:=decide_eq_false (by omega)
 obtain rfl:x=p.outs.length:=by omega
 rw [List.take_length] at bT
 rw [List.take_length]
 have dW:=yQ (m:=g.es.length) (fl:=p.outs.flatten)
 repeat' (first|((first|((with_reducible (first|apply oA|apply oB));exact rfl;intro K hK)|(refine hK _ ?_;clear hK K)|((with_reducible (first|apply oG|apply oH));iterate 3 exact rfl)|((with_reducible apply oI);(iterate 2 exact rfl);intro K hK)|(with_reducible (first|apply wI|apply wJ|apply wK)));try simp only [go_sem,simprocAttr,hb])|(with_reducible (first|apply oC|apply oJ|exact oK|apply wA|apply wB|apply wC hX hC|apply wD hX hC|apply wE hX hC af|apply wF hX hC af|apply wG|apply wH|apply And.intro))|((with_reducible refine oD ?_ ?_);kernel_rfl)|((with_reducible (first|apply oE|apply oF));(iterate 3 exact rfl);all_goals (intro h;first|(exact absurd h (by decide))|((try simp only [go_sem,simprocAttr,hb] at h);(try with_reducible intro K hK);simp only [go_sem,simprocAttr,hb])))|((first|((with_reducible apply wL);exact rfl)|((with_reducible apply wM);exact rfl));all_goals (try ((with_reducible intro h);first|(exact absurd h (by decide))|(try simp only [go_sem,simprocAttr,hb] at h))))|omega|((first|refine aa hX hC hP (aU g hl) rfl rfl rfl (by simp only [go_sem,simprocAttr,hb]) rfl ?_|refine aa hX hC hP (cy p.ord g.n ho) rfl rfl rfl (by simp only [go_sem,simprocAttr,hb]) rfl ?_);try simp only [go_sem,simprocAttr,hb])|(intro h))
 clear hb
 refine aj (fun k:Nat=>k≤g.es.length∧∀i:Nat,i<k→(i:Int)∈p.outs.flatten) (fun k=>⟨[(5, .ref 32),(9,eN k)], [(32, .own 3 1 ((nT g.es.length p.outs.flatten).map rI))]⟩) (fun k=>g.es.length - k) 0 (by simp) ?_ ?_
 ·refine Le.of ?_ ?_<;>simp [go_sem,simprocAttr]
 rintro k ⟨hk,IC⟩
 rcases Nat.lt_or_ge k g.es.length with cz|GB
 ·have eu:decide ((k:Int)<(g.es.length:Int))=true:=decide_eq_true (by omega)
  have mc:=A5 (fl:=p.outs.flatten) cz
  by_cases h3:(k:Int)∈p.outs.flatten
  ·rw [if_pos h3] at mc
   repeat' (first|((first|((with_reducible (first|apply oA|apply oB));exact rfl;intro K hK)|(refine hK _ ?_;clear hK K)|((with_reducible (first|apply oG|apply oH));iterate 3 exact rfl)|((with_reducible apply oI);(iterate 2 exact rfl);intro K hK)|(with_reducible (first|apply wI|apply wJ|apply wK)));try simp only [go_sem,simprocAttr,eu,dW,mc])|(with_reducible (first|apply oC|apply oJ|exact oK|apply wA|apply wB|apply wC hX hC|apply wD hX hC|apply wE hX hC af|apply wF hX hC af|apply wG|apply wH|apply And.intro))|((with_reducible refine oD ?_ ?_);kernel_rfl)|((with_reducible (first|apply oE|apply oF));(iterate 3 exact rfl);all_goals (intro h;first|(exact absurd h (by decide))|((try simp only [go_sem,simprocAttr,eu,dW,mc] at h);(try with_reducible intro K hK);simp only [go_sem,simprocAttr,eu,dW,mc])))|((first|((with_reducible apply wL);exact rfl)|((with_reducible apply wM);exact rfl));all_goals (try ((with_reducible intro h);first|(exact absurd h (by decide))|(try simp only [go_sem,simprocAttr,eu,dW,mc] at h))))|omega|((first|refine aa hX hC hP (aU g hl) rfl rfl rfl (by simp only [go_sem,simprocAttr,eu,dW,mc]) rfl ?_|refine aa hX hC hP (cy p.ord g.n ho) rfl rfl rfl (by simp only [go_sem,simprocAttr,eu,dW,mc]) rfl ?_);try simp only [go_sem,simprocAttr,eu,dW,mc])|(intro h))
   refine ⟨k+1,⟨by omega,fun i hi=> ?_⟩, ?_,by omega⟩
   ·by_cases e:i=k
    ·subst e;exact h3
    ·exact IC i (by omega)
   ·(refine Le.of ?_ ?_<;>simp [go_sem,simprocAttr,eu,dW,mc])
  ·rw [if_neg h3] at mc
   have hres:res=false:=by
    rw [← Bool.not_eq_true,hr]
    rintro ⟨_,_,_,_,h5⟩
    exact h3 (h5 k cz)
   subst hres
   repeat' (first|((first|((with_reducible (first|apply oA|apply oB));exact rfl;intro K hK)|(refine hK _ ?_;clear hK K)|((with_reducible (first|apply oG|apply oH));iterate 3 exact rfl)|((with_reducible apply oI);(iterate 2 exact rfl);intro K hK)|(with_reducible (first|apply wI|apply wJ|apply wK)));try simp only [go_sem,simprocAttr,eu,dW,mc])|(with_reducible (first|apply oC|apply oJ|exact oK|apply wA|apply wB|apply wC hX hC|apply wD hX hC|apply wE hX hC af|apply wF hX hC af|apply wG|apply wH|apply And.intro))|((with_reducible refine oD ?_ ?_);kernel_rfl)|((with_reducible (first|apply oE|apply oF));(iterate 3 exact rfl);all_goals (intro h;first|(exact absurd h (by decide))|((try simp only [go_sem,simprocAttr,eu,dW,mc] at h);(try with_reducible intro K hK);simp only [go_sem,simprocAttr,eu,dW,mc])))|((first|((with_reducible apply wL);exact rfl)|((with_reducible apply wM);exact rfl));all_goals (try ((with_reducible intro h);first|(exact absurd h (by decide))|(try simp only [go_sem,simprocAttr,eu,dW,mc] at h))))|omega|((first|refine aa hX hC hP (aU g hl) rfl rfl rfl (by simp only [go_sem,simprocAttr,eu,dW,mc]) rfl ?_|refine aa hX hC hP (cy p.ord g.n ho) rfl rfl rfl (by simp only [go_sem,simprocAttr,eu,dW,mc]) rfl ?_);try simp only [go_sem,simprocAttr,eu,dW,mc])|(intro h))
 ·have eu:decide ((k:Int)<(g.es.length:Int))=false:=decide_eq_false (by omega)
  obtain rfl:k=g.es.length:=by omega
  have hres:res=true:=hr.2 ⟨om,xE,uA,bT,IC⟩
  subst hres
  repeat' (first|((first|((with_reducible (first|apply oA|apply oB));exact rfl;intro K hK)|(refine hK _ ?_;clear hK K)|((with_reducible (first|apply oG|apply oH));iterate 3 exact rfl)|((with_reducible apply oI);(iterate 2 exact rfl);intro K hK)|(with_reducible (first|apply wI|apply wJ|apply wK)));try simp only [go_sem,simprocAttr,eu,dW])|(with_reducible (first|apply oC|apply oJ|exact oK|apply wA|apply wB|apply wC hX hC|apply wD hX hC|apply wE hX hC af|apply wF hX hC af|apply wG|apply wH|apply And.intro))|((with_reducible refine oD ?_ ?_);kernel_rfl)|((with_reducible (first|apply oE|apply oF));(iterate 3 exact rfl);all_goals (intro h;first|(exact absurd h (by decide))|((try simp only [go_sem,simprocAttr,eu,dW] at h);(try with_reducible intro K hK);simp only [go_sem,simprocAttr,eu,dW])))|((first|((with_reducible apply wL);exact rfl)|((with_reducible apply wM);exact rfl));all_goals (try ((with_reducible intro h);first|(exact absurd h (by decide))|(try simp only [go_sem,simprocAttr,eu,dW] at h))))|omega|((first|refine aa hX hC hP (aU g hl) rfl rfl rfl (by simp only [go_sem,simprocAttr,eu,dW]) rfl ?_|refine aa hX hC hP (cy p.ord g.n ho) rfl rfl rfl (by simp only [go_sem,simprocAttr,eu,dW]) rfl ?_);try simp only [go_sem,simprocAttr,eu,dW])|(intro h))
end Go.Ab
end
section
namespace Go.Ab
open Go.Proofs
attribute [local congr] ACall.congr
set_option maxRecDepth 10000
set_option maxHeartbeats 8000000
def bL (b:Bool) (g:Gr) (p:Pl):(List (List It) × List It) × Int × Int:=
 if b=false then (([], []),(1,0)) else
 match js g p g.n.toNat with
 |some i=>(([], []),(3,(i:Int)))
 |none=>((eP g p g.n.toNat,(fK g p g.n.toNat).row),(0,0))
theorem EC {n:Nat} :List.replicate n [D.sl 3 []]=vT (List.replicate n []):=by simp [vT,sT]
theorem ED {ls:List (List It)} {k:Nat} {l:List It} :(vT ls).set k [sT l]=vT (ls.set k l):=by simp [vT,List.map_set]
theorem vl {g:Gr} {p:Pl} {k:Nat} :eP g p (k+1)=(eP g p k).set (az p k).toNat (dZ g p k):=rfl
theorem yR (g:Gr) (hl:g.es.length≤9223372036854775807) (p:Pl) (hp:o8 p) (b:Bool) (hr:b=true↔(b9 g).1=0∧bp g p):
 Spec Tryz.prog 58 (Args [eG g,ePl p]) [] (.tup [.d (.sl 1 (vT (bL b g p).1.1)), .d (sT (bL b g p).1.2),eN (bL b g p).2.1,eN (bL b g p).2.2]) []:=by
 have hO:=EB g hl p hp b hr
 cases b with
 |false=>
  have hR:bL false g p=(([], []),(1,0)):=rfl
  rw [hR]
  (refine Spec.intro (C:=T.cfg [] []) (rs:= [.t 4, .t 5, .t 6, .t 7]) (T.ai _ _) Tryz.func58 rfl rfl Tryz.ntmps58 Tryz.results58 (by simp [AObj.isNest]) (by simp [AObj.isNest]) (by kernel_rfl) ?_;intro X hX hP hC aG aH vals hA;refine ⟨_,by simp,hA, ?_⟩;have af:X.P.follows .mixedOrders=true:=(by rw [hP];exact T.mixed);clear aG aH)
  repeat' (first|((first|((with_reducible (first|apply oA|apply oB));exact rfl;intro K hK)|(refine hK _ ?_;clear hK K)|((with_reducible (first|apply oG|apply oH));iterate 3 exact rfl)|((with_reducible apply oI);(iterate 2 exact rfl);intro K hK)|(with_reducible (first|apply wI|apply wJ|apply wK)));try simp only [go_sem,simprocAttr,vT,List.map_nil])|(with_reducible (first|apply oC|apply oJ|exact oK|apply wA|apply wB|apply wC hX hC|apply wD hX hC|apply wE hX hC af|apply wF hX hC af|apply wG|apply wH|apply And.intro))|((with_reducible refine oD ?_ ?_);kernel_rfl)|((with_reducible (first|apply oE|apply oF));(iterate 3 exact rfl);all_goals (intro h;first|(exact absurd h (by decide))|((try simp only [go_sem,simprocAttr,vT,List.map_nil] at h);(try with_reducible intro K hK);simp only [go_sem,simprocAttr,vT,List.map_nil])))|((first|((with_reducible apply wL);exact rfl)|((with_reducible apply wM);exact rfl));all_goals (try ((with_reducible intro h);first|(exact absurd h (by decide))|(try simp only [go_sem,simprocAttr,vT,List.map_nil] at h))))|omega|((first|refine aa hX hC hP (hO) rfl rfl rfl (by simp only [go_sem,simprocAttr,vT,List.map_nil]) rfl ?_);try simp only [go_sem,simprocAttr,vT,List.map_nil])|(intro h))
 |true=>
 obtain ⟨hc,uB⟩:=hr.1 rfl
 have hm:=au hc
 have hn:=aL hm
 have hle:=bY uB
 have hR:bL true g p=match js g p g.n.toNat with
  |some i=>(([], []),(3,(i:Int)))
  |none=>((eP g p g.n.toNat,(fK g p g.n.toNat).row),(0,0)):=rfl
 generalize bL true g p=R at hR
 (refine Spec.intro (C:=T.cfg [] []) (rs:= [.t 4, .t 5, .t 6, .t 7]) (T.ai _ _) Tryz.func58 rfl rfl Tryz.ntmps58 Tryz.results58 (by simp [AObj.isNest]) (by simp [AObj.isNest]) (by kernel_rfl) ?_;intro X hX hP hC aG aH vals hA;refine ⟨_,by simp,hA, ?_⟩;have af:X.P.follows .mixedOrders=true:=(by rw [hP];exact T.mixed);clear aG aH)
 repeat' (first|((first|((with_reducible (first|apply oA|apply oB));exact rfl;intro K hK)|(refine hK _ ?_;clear hK K)|((with_reducible (first|apply oG|apply oH));iterate 3 exact rfl)|((with_reducible apply oI);(iterate 2 exact rfl);intro K hK)|(with_reducible (first|apply wI|apply wJ|apply wK)));try simp only [go_sem,simprocAttr])|(show dK _ (.seq (.region 4 _ _) _) _ _;(refine lK 20 2 3 rfl rfl rfl ?_;simp only [LA.app,ASt.put,ASt.kill,putM,rml,List.set_cons_zero,List.set_cons_succ,go_sem,simprocAttr]);(refine lK 20 3 1 rfl rfl rfl ?_;simp only [LA.app,ASt.put,ASt.kill,putM,rml,List.set_cons_zero,List.set_cons_succ,go_sem,simprocAttr]))|(with_reducible (first|apply oC|apply oJ|exact oK|apply wA|apply wB|apply wC hX hC|apply wD hX hC|apply wE hX hC af|apply wF hX hC af|apply wG|apply wH|apply And.intro))|((with_reducible refine oD ?_ ?_);kernel_rfl)|((with_reducible (first|apply oE|apply oF));(iterate 3 exact rfl);all_goals (intro h;first|(exact absurd h (by decide))|((try simp only [go_sem,simprocAttr] at h);(try with_reducible intro K hK);simp only [go_sem,simprocAttr])))|((first|((with_reducible apply wL);exact rfl)|((with_reducible apply wM);exact rfl));all_goals (try ((with_reducible intro h);first|(exact absurd h (by decide))|(try simp only [go_sem,simprocAttr] at h))))|omega|((first|refine aa hX hC hP (hO) rfl rfl rfl (by simp only [go_sem,simprocAttr]) rfl ?_);try simp only [go_sem,simprocAttr])|(intro h))
 rw [EC]
 refine aj (fun k:Nat=>k≤g.n.toNat∧∀j,j<k→xF g p j=true) (fun k=>⟨[(2, .ptr 2 0),(3, .ptr 3 0),(8, .ptr 20 0),(9, .ref 23),(10,eN k)], [(23, .own 64 1 (vT (eP g p k))),(20, .box (fA g (fK g p k))),(3, .box [.d (sI p.ord), .d (.sl 1 (vI p.outs))]),(2, .box [eN g.n, .d (sE g.es)])]⟩) (fun k=>g.n.toNat - k) 0 (by simp) ?_ ?_
 ·refine Le.of ?_ ?_<;>simp [go_sem,simprocAttr,fA,fK,eP]
 rintro k ⟨hk,hok⟩
 obtain ⟨hi,_,hrl⟩:=cQ hm uB hk hok
 have hel:=l8 (g:=g) (p:=p) (k:=k)
 rcases Nat.lt_or_ge k g.n.toNat with hlt|hge
 ·have hb:decide ((k:Int)<(p.ord.length:Int))=true:=decide_eq_true (by omega)
  have Fo:=aI uB hlt
  have cO:=vl (g:=g) (p:=p) (k:=k)
  have Cv:fK g p (k+1)=(aA g (fK g p k) (az p k) (bt p (az p k))).2:=rfl
  have uA:dZ g p k=(aA g (fK g p k) (az p k) (bt p (az p k))).1.1:=rfl
  have hpk:=yH uB hlt
  have EE:=yI (g:=g) (p:=p) (k:=k)
  have hsk:xF g p k=false→R=(([], []),(3,(k:Int))):=fun h=>by
   rw [hR,nR.2 ⟨hlt,h,hok⟩]
  have hmul:k*(g.es.length+1)≤64*129:=Nat.mul_le_mul (by omega) (by omega)
  have lp:=iJ uB Fo.1 Fo.2
  have gP:p.ord.getD k 0=az p k:=rfl
  have EF:(fK g p k).pl.length≤64:=by
   rcases GR hi.todY with h|h
   ·omega
   ·rw [h];simp
  obtain ⟨x,hx⟩:∃x:Nat,az p k=x:=⟨(az p k).toNat,by omega⟩
  rw [hx] at gP Cv uA hpk EE Fo lp cO
  have hxl:x<p.outs.length:=by have:=uB.1;omega
  have hv:=gR hxl
  have hla:bt p (x:Int)=p.outs.getD x []:=by unfold bt;rw [Int.toNat_natCast]
  rw [hla] at Cv uA hpk EE lp
  rw [Int.toNat_natCast] at cO
  have jH:=yE g (by omega) (fK g p k) (x:Int) (p.outs.getD x []) (by omega) (by omega) (by omega)
  have ck:=ED (ls:=eP g p k) (k:=x) (l:=dZ g p k)
  generalize p.outs.getD x []=o at hv Cv uA hpk EE jH
  rw [← cO] at ck
  generalize fK g p k=f at Cv uA hpk EE jH hi hrl EF
  cases xk:xF g p k with
  |false=>
   rw [EE xk] at jH
   have Cw:=hsk xk
   subst Cw
   repeat' (first|((first|((with_reducible (first|apply oA|apply oB));exact rfl;intro K hK)|(refine hK _ ?_;clear hK K)|((with_reducible (first|apply oG|apply oH));iterate 3 exact rfl)|((with_reducible apply oI);(iterate 2 exact rfl);intro K hK)|(with_reducible (first|apply wI|apply wJ|apply wK)));try simp only [go_sem,simprocAttr,hb,gP,hv,fA,vT,List.map_nil])|(with_reducible (first|apply oC|apply oJ|exact oK|apply wA|apply wB|apply wC hX hC|apply wD hX hC|apply wE hX hC af|apply wF hX hC af|apply wG|apply wH|apply And.intro))|((with_reducible refine oD ?_ ?_);kernel_rfl)|((with_reducible (first|apply oE|apply oF));(iterate 3 exact rfl);all_goals (intro h;first|(exact absurd h (by decide))|((try simp only [go_sem,simprocAttr,hb,gP,hv,fA,vT,List.map_nil] at h);(try with_reducible intro K hK);simp only [go_sem,simprocAttr,hb,gP,hv,fA,vT,List.map_nil])))|((first|((with_reducible apply wL);exact rfl)|((with_reducible apply wM);exact rfl));all_goals (try ((with_reducible intro h);first|(exact absurd h (by decide))|(try simp only [go_sem,simprocAttr,hb,gP,hv,fA,vT,List.map_nil] at h))))|omega|((first|(refine aB hX hC hP [(10000,20)] (jH) rfl rfl rfl ?_ ?_ ?_ ?_ ?_ ?_ ?_ ?_ ?_ ?_ ?_ ?_ ?_ ?_;(focus (simp only [go_sem,simprocAttr,hb,gP,hv,fA,vT,List.map_nil];done));(iterate 12 (focus (simp [go_sem,simprocAttr,hb,gP,hv,fA,vT,List.map_nil];done)));simp only [go_sem,simprocAttr,hb,gP,hv,fA,vT,List.map_nil,List.map_cons,List.map_nil]));try simp only [go_sem,simprocAttr,hb,gP,hv,fA,vT,List.map_nil])|(intro h))
  |true=>
   rw [hpk xk] at jH
   have eR:(aA g f (x:Int) o).1.2=0:=rfl
   rw [uA] at ck
   generalize aA g f (x:Int) o=su at Cv uA jH eR ck
   have J4:x<(eP g p k).length:=by omega
   generalize OP:eP g p k=E at ck J4 hel
   have hvl:(vT E).length=E.length:=vT_length
   have vm:=fun d=>oY J4 d
   repeat' (first|((first|((with_reducible (first|apply oA|apply oB));exact rfl;intro K hK)|(refine hK _ ?_;clear hK K)|((with_reducible (first|apply oG|apply oH));iterate 3 exact rfl)|((with_reducible apply oI);(iterate 2 exact rfl);intro K hK)|(with_reducible (first|apply wI|apply wJ|apply wK)));try simp only [go_sem,simprocAttr,hb,gP,hv,fA,eR,ck,vm,List.drop_succ_cons,List.drop_zero])|(with_reducible (first|apply oC|apply oJ|exact oK|apply wA|apply wB|apply wC hX hC|apply wD hX hC|apply wE hX hC af|apply wF hX hC af|apply wG|apply wH|apply And.intro))|((with_reducible refine oD ?_ ?_);kernel_rfl)|((with_reducible (first|apply oE|apply oF));(iterate 3 exact rfl);all_goals (intro h;first|(exact absurd h (by decide))|((try simp only [go_sem,simprocAttr,hb,gP,hv,fA,eR,ck,vm,List.drop_succ_cons,List.drop_zero] at h);(try with_reducible intro K hK);simp only [go_sem,simprocAttr,hb,gP,hv,fA,eR,ck,vm,List.drop_succ_cons,List.drop_zero])))|((first|((with_reducible apply wL);exact rfl)|((with_reducible apply wM);exact rfl));all_goals (try ((with_reducible intro h);first|(exact absurd h (by decide))|(try simp only [go_sem,simprocAttr,hb,gP,hv,fA,eR,ck,vm,List.drop_succ_cons,List.drop_zero] at h))))|omega|((first|(refine aB hX hC hP [(10000,20)] (jH) rfl rfl rfl ?_ ?_ ?_ ?_ ?_ ?_ ?_ ?_ ?_ ?_ ?_ ?_ ?_ ?_;(focus (simp only [go_sem,simprocAttr,hb,gP,hv,fA,eR,ck,vm,List.drop_succ_cons,List.drop_zero];done));(iterate 12 (focus (simp [go_sem,simprocAttr,hb,gP,hv,fA,eR,ck,vm,List.drop_succ_cons,List.drop_zero];done)));simp only [go_sem,simprocAttr,hb,gP,hv,fA,eR,ck,vm,List.drop_succ_cons,List.drop_zero,List.map_cons,List.map_nil]));try simp only [go_sem,simprocAttr,hb,gP,hv,fA,eR,ck,vm,List.drop_succ_cons,List.drop_zero])|(intro h))
   refine ⟨k+1,⟨by omega,fun j hj=> ?_⟩, ?_,by omega⟩
   ·by_cases e:j=k
    ·subst e;exact xk
    ·exact hok j (by omega)
   ·rw [Cv]
    have EG:(vT E).set x [D.sl 3 (List.map rT su.1.1)]=vT (eP g p (k+1)):=ck
    refine Le.of ?_ ?_<;>simp [go_sem,simprocAttr,hb,gP,hv,fA,eR,ck,vm,List.drop_succ_cons,List.drop_zero,EG]
 have hb:decide ((k:Int)<(p.ord.length:Int))=false:=decide_eq_false (by omega)
 obtain rfl:k=g.n.toNat:=by omega
 rw [fC.2 hok] at hR
 subst hR
 repeat' (first|((first|((with_reducible (first|apply oA|apply oB));exact rfl;intro K hK)|(refine hK _ ?_;clear hK K)|((with_reducible (first|apply oG|apply oH));iterate 3 exact rfl)|((with_reducible apply oI);(iterate 2 exact rfl);intro K hK)|(with_reducible (first|apply wI|apply wJ|apply wK)));try simp only [go_sem,simprocAttr,hb,fA])|(with_reducible (first|apply oC|apply oJ|exact oK|apply wA|apply wB|apply wC hX hC|apply wD hX hC|apply wE hX hC af|apply wF hX hC af|apply wG|apply wH|apply And.intro))|((with_reducible refine oD ?_ ?_);kernel_rfl)|((with_reducible (first|apply oE|apply oF));(iterate 3 exact rfl);all_goals (intro h;first|(exact absurd h (by decide))|((try simp only [go_sem,simprocAttr,hb,fA] at h);(try with_reducible intro K hK);simp only [go_sem,simprocAttr,hb,fA])))|((first|((with_reducible apply wL);exact rfl)|((with_reducible apply wM);exact rfl));all_goals (try ((with_reducible intro h);first|(exact absurd h (by decide))|(try simp only [go_sem,simprocAttr,hb,fA] at h))))|omega|(intro h))
end Go.Ab
end
section
namespace Go.Ab
open Go.Proofs
attribute [local congr] ACall.congr
set_option maxRecDepth 10000
set_option maxHeartbeats 8000000
theorem jE (g:Gr) (hl:g.es.length≤1000) (p:Pl) (hp:o8 p) (b:Bool) (hr:b=true↔(b9 g).1=0∧bp g p):
 Spec Tryz.prog 37 (Args [eG g,ePl p]) [] (.tup [.d (.sl 1 (vT (bL b g p).1.1)), .d (sT (bL b g p).1.2),eF ((bL b g p).2.1,(bL b g p).2.2, [])]) []:=by
 by_cases hc:(b9 g).1=0
 rotate_left
 ·obtain rfl:b=false:=by
   rw [← Bool.not_eq_true,hr]
   exact fun h=>hc h.1
  have hR:bL false g p=(([], []),(1,0)):=rfl
  rw [hR]
  (refine Spec.intro (C:=T.cfg [] []) (rs:= [.t 4, .t 5, .c 6 66]) (T.ai _ _) Tryz.func37 rfl rfl Tryz.ntmps37 Tryz.results37 (by simp [AObj.isNest]) (by simp [AObj.isNest]) (by kernel_rfl) ?_;intro X hX hP hC aG aH vals hA;refine ⟨_,by simp,hA, ?_⟩;have af:X.P.follows .mixedOrders=true:=(by rw [hP];exact T.mixed);clear aG aH)
  repeat' (first|((first|((with_reducible (first|apply oA|apply oB));exact rfl;intro K hK)|(refine hK _ ?_;clear hK K)|((with_reducible (first|apply oG|apply oH));iterate 3 exact rfl)|((with_reducible apply oI);(iterate 2 exact rfl);intro K hK)|(with_reducible (first|apply wI|apply wJ|apply wK)));try simp only [go_sem,simprocAttr,vT,List.map_nil])|(with_reducible (first|apply oC|apply oJ|exact oK|apply wA|apply wB|apply wC hX hC|apply wD hX hC|apply wE hX hC af|apply wF hX hC af|apply wG|apply wH|apply And.intro))|((with_reducible refine oD ?_ ?_);kernel_rfl)|((with_reducible (first|apply oE|apply oF));(iterate 3 exact rfl);all_goals (intro h;first|(exact absurd h (by decide))|((try simp only [go_sem,simprocAttr,vT,List.map_nil] at h);(try with_reducible intro K hK);simp only [go_sem,simprocAttr,vT,List.map_nil])))|((first|((with_reducible apply wL);exact rfl)|((with_reducible apply wM);exact rfl));all_goals (try ((with_reducible intro h);first|(exact absurd h (by decide))|(try simp only [go_sem,simprocAttr,vT,List.map_nil] at h))))|omega|((first|refine aa hX hC hP (Ci g hl hc) rfl rfl rfl (by simp only [go_sem,simprocAttr,vT,List.map_nil]) rfl ?_);try simp only [go_sem,simprocAttr,vT,List.map_nil])|(intro h))
 have hm:=au hc
 have hn:=aL hm
 have hr:b=true↔bp g p:=by rw [hr];exact ⟨fun h=>h.2,fun h=>⟨hc,h⟩⟩
 have hO:=Ey g hm p hp b hr
 cases b with
 |false=>
  have hR:bL false g p=(([], []),(1,0)):=rfl
  rw [hR]
  (refine Spec.intro (C:=T.cfg [] []) (rs:= [.t 4, .t 5, .c 6 66]) (T.ai _ _) Tryz.func37 rfl rfl Tryz.ntmps37 Tryz.results37 (by simp [AObj.isNest]) (by simp [AObj.isNest]) (by kernel_rfl) ?_;intro X hX hP hC aG aH vals hA;refine ⟨_,by simp,hA, ?_⟩;have af:X.P.follows .mixedOrders=true:=(by rw [hP];exact T.mixed);clear aG aH)
  repeat' (first|((first|((with_reducible (first|apply oA|apply oB));exact rfl;intro K hK)|(refine hK _ ?_;clear hK K)|((with_reducible (first|apply oG|apply oH));iterate 3 exact rfl)|((with_reducible apply oI);(iterate 2 exact rfl);intro K hK)|(with_reducible (first|apply wI|apply wJ|apply wK)));try simp only [go_sem,simprocAttr,vT,List.map_nil])|(with_reducible (first|apply oC|apply oJ|exact oK|apply wA|apply wB|apply wC hX hC|apply wD hX hC|apply wE hX hC af|apply wF hX hC af|apply wG|apply wH|apply And.intro))|((with_reducible refine oD ?_ ?_);kernel_rfl)|((with_reducible (first|apply oE|apply oF));(iterate 3 exact rfl);all_goals (intro h;first|(exact absurd h (by decide))|((try simp only [go_sem,simprocAttr,vT,List.map_nil] at h);(try with_reducible intro K hK);simp only [go_sem,simprocAttr,vT,List.map_nil])))|((first|((with_reducible apply wL);exact rfl)|((with_reducible apply wM);exact rfl));all_goals (try ((with_reducible intro h);first|(exact absurd h (by decide))|(try simp only [go_sem,simprocAttr,vT,List.map_nil] at h))))|omega|((first|(refine nE hX hC hP [(10000,13)] (pV g hl hc hm) rfl rfl rfl ?_ ?_ ?_ ?_ ?_ ?_ ?_ ?_ ?_ ?_ ?_ ?_ ?_ ?_;(focus (simp only [go_sem,simprocAttr,vT,List.map_nil];done));(iterate 12 (focus (simp [go_sem,simprocAttr,vT,List.map_nil];done)));simp only [go_sem,simprocAttr,vT,List.map_nil,List.map_cons,List.map_nil])|refine aa hX hC hP (gQ g hm) rfl rfl rfl (by simp only [go_sem,simprocAttr,vT,List.map_nil]) rfl ?_|refine aa hX hC hP (hO) rfl rfl rfl (by simp only [go_sem,simprocAttr,vT,List.map_nil]) rfl ?_);try simp only [go_sem,simprocAttr,vT,List.map_nil])|(intro h))
 |true=>
 have uB:=hr.1 rfl
 have hle:=bY uB
 have hR:bL true g p=match js g p g.n.toNat with
  |some i=>(([], []),(3,(i:Int)))
  |none=>((eP g p g.n.toNat,(fK g p g.n.toNat).row),(0,0)):=rfl
 generalize bL true g p=R at hR
 (refine Spec.intro (C:=T.cfg [] []) (rs:= [.t 4, .t 5, .c 6 66]) (T.ai _ _) Tryz.func37 rfl rfl Tryz.ntmps37 Tryz.results37 (by simp [AObj.isNest]) (by simp [AObj.isNest]) (by kernel_rfl) ?_;intro X hX hP hC aG aH vals hA;refine ⟨_,by simp,hA, ?_⟩;have af:X.P.follows .mixedOrders=true:=(by rw [hP];exact T.mixed);clear aG aH)
 repeat' (first|((first|((with_reducible (first|apply oA|apply oB));exact rfl;intro K hK)|(refine hK _ ?_;clear hK K)|((with_reducible (first|apply oG|apply oH));iterate 3 exact rfl)|((with_reducible apply oI);(iterate 2 exact rfl);intro K hK)|(with_reducible (first|apply wI|apply wJ|apply wK)));try simp only [go_sem,simprocAttr])|(show dK _ (.seq (.region 5 _ _) _) _ _;(refine lK 13 0 3 rfl rfl rfl ?_;simp only [LA.app,ASt.put,ASt.kill,putM,rml,List.set_cons_zero,List.set_cons_succ,go_sem,simprocAttr]);(refine sQ hX 13 2 100 (.tip 3 1 []) rfl rfl rfl (by simp only [go_sem,simprocAttr]) (by decide) (by simp [go_sem,simprocAttr]) ⟨3,1,by decide, .inr rfl⟩ ?_;simp only [LA.app,ASt.put,ASt.kill,subT,rmk,putM,rml,kl,AV.sub,AV.subs,AObj.sub,List.set_cons_zero,List.set_cons_succ,go_sem,simprocAttr]))|(with_reducible (first|apply oC|apply oJ|exact oK|apply wA|apply wB|apply wC hX hC|apply wD hX hC|apply wE hX hC af|apply wF hX hC af|apply wG|apply wH|apply And.intro))|((with_reducible refine oD ?_ ?_);kernel_rfl)|((with_reducible (first|apply oE|apply oF));(iterate 3 exact rfl);all_goals (intro h;first|(exact absurd h (by decide))|((try simp only [go_sem,simprocAttr] at h);(try with_reducible intro K hK);simp only [go_sem,simprocAttr])))|((first|((with_reducible apply wL);exact rfl)|((with_reducible apply wM);exact rfl));all_goals (try ((with_reducible intro h);first|(exact absurd h (by decide))|(try simp only [go_sem,simprocAttr] at h))))|omega|((first|(refine nE hX hC hP [(10000,13)] (pV g hl hc hm) rfl rfl rfl ?_ ?_ ?_ ?_ ?_ ?_ ?_ ?_ ?_ ?_ ?_ ?_ ?_ ?_;(focus (simp only [go_sem,simprocAttr];done));(iterate 12 (focus (simp [go_sem,simprocAttr];done)));simp only [go_sem,simprocAttr,List.map_cons,List.map_nil])|refine aa hX hC hP (gQ g hm) rfl rfl rfl (by simp only [go_sem,simprocAttr]) rfl ?_|refine aa hX hC hP (hO) rfl rfl rfl (by simp only [go_sem,simprocAttr]) rfl ?_);try simp only [go_sem,simprocAttr])|(intro h))
 rw [EC]
 refine aj (fun k:Nat=>k≤g.n.toNat∧∀j,j<k→xF g p j=true) (fun k=>⟨[(3, .ptr 3 0),(4, .ref 28),(6, .ptr 6 0),(7, .ptr 13 0),(30, .d (sI p.ord)),(31,eN p.ord.length),(32,eN k)], [(28, .own 64 1 (vT (eP g p k))),(13, .box [.d (sT (fK g p k).row), .d (vw g), .ref 100]),(100, .tip 3 1 ((fK g p k).pl.map rI)),(6, .box [eN 0,eN 0, .nil 3]),(3, .box [.d (sI p.ord), .d (.sl 1 (vI p.outs))])]⟩) (fun k=>g.n.toNat - k) 0 (by simp) ?_ ?_
 ·refine Le.of ?_ ?_<;>simp [go_sem,simprocAttr,fA,fK,eP]
 rintro k ⟨hk,hok⟩
 obtain ⟨hi,_,hrl⟩:=cQ hm uB hk hok
 have hel:=l8 (g:=g) (p:=p) (k:=k)
 have hmul:k*(g.es.length+1)≤64*129:=Nat.mul_le_mul (by omega) (by omega)
 rcases Nat.lt_or_ge k g.n.toNat with hlt|hge
 ·have hb:decide ((k:Int)<(p.ord.length:Int))=true:=decide_eq_true (by omega)
  have Fo:=aI uB hlt
  have cO:=vl (g:=g) (p:=p) (k:=k)
  have Cv:fK g p (k+1)=(aA g (fK g p k) (az p k) (bt p (az p k))).2:=rfl
  have uA:dZ g p k=(aA g (fK g p k) (az p k) (bt p (az p k))).1.1:=rfl
  have hpk:=yH uB hlt
  have EE:=yI (g:=g) (p:=p) (k:=k)
  have hsk:xF g p k=false→R=(([], []),(3,(k:Int))):=fun h=>by
   rw [hR,nR.2 ⟨hlt,h,hok⟩]
  have lp:=iJ uB Fo.1 Fo.2
  have gP:p.ord.getD k 0=az p k:=rfl
  have EF:(fK g p k).pl.length≤64:=by
   rcases GR hi.todY with h|h
   ·omega
   ·rw [h];simp
  obtain ⟨x,hx⟩:∃x:Nat,az p k=x:=⟨(az p k).toNat,by omega⟩
  rw [hx] at gP Cv uA hpk EE Fo lp cO
  have hxl:x<p.outs.length:=by have:=uB.1;omega
  have hv:=gR hxl
  have hla:bt p (x:Int)=p.outs.getD x []:=by unfold bt;rw [Int.toNat_natCast]
  rw [hla] at Cv uA hpk EE lp
  rw [Int.toNat_natCast] at cO
  have jH:=qE g hm (fK g p k) hi (x:Int) (p.outs.getD x []) (by omega) (by omega) (by omega)
  have ck:=ED (ls:=eP g p k) (k:=x) (l:=dZ g p k)
  generalize p.outs.getD x []=o at hv Cv uA hpk EE jH
  rw [← cO] at ck
  generalize fK g p k=f at Cv uA hpk EE jH hi hrl EF
  have J4:x<(eP g p k).length:=by omega
  have hvl:(vT (eP g p k)).length=(eP g p k).length:=vT_length
  cases xk:xF g p k with
  |false=>
   rw [EE xk] at jH
   simp only at jH
   have Cw:=hsk xk
   subst Cw
   repeat' (first|((first|((with_reducible (first|apply oA|apply oB));exact rfl;intro K hK)|(refine hK _ ?_;clear hK K)|((with_reducible (first|apply oG|apply oH));iterate 3 exact rfl)|((with_reducible apply oI);(iterate 2 exact rfl);intro K hK)|(with_reducible (first|apply wI|apply wJ|apply wK)));try simp only [go_sem,simprocAttr,hb,gP,hv,fm,j6,List.map_nil])|(with_reducible (first|apply oC|apply oJ|exact oK|apply wA|apply wB|apply wC hX hC|apply wD hX hC|apply wE hX hC af|apply wF hX hC af|apply wG|apply wH|apply And.intro))|((with_reducible refine oD ?_ ?_);kernel_rfl)|((with_reducible (first|apply oE|apply oF));(iterate 3 exact rfl);all_goals (intro h;first|(exact absurd h (by decide))|((try simp only [go_sem,simprocAttr,hb,gP,hv,fm,j6,List.map_nil] at h);(try with_reducible intro K hK);simp only [go_sem,simprocAttr,hb,gP,hv,fm,j6,List.map_nil])))|((first|((with_reducible apply wL);exact rfl)|((with_reducible apply wM);exact rfl));all_goals (try ((with_reducible intro h);first|(exact absurd h (by decide))|(try simp only [go_sem,simprocAttr,hb,gP,hv,fm,j6,List.map_nil] at h))))|omega|((first|(refine aB hX hC hP [(10000,13),(10001,100),(10002,101)] (jH) rfl rfl rfl ?_ ?_ ?_ ?_ ?_ ?_ ?_ ?_ ?_ ?_ ?_ ?_ ?_ ?_;(focus (simp only [go_sem,simprocAttr,hb,gP,hv,fm,j6,List.map_nil];done));(iterate 12 (focus (simp [go_sem,simprocAttr,hb,gP,hv,fm,j6,List.map_nil];done)));simp only [go_sem,simprocAttr,hb,gP,hv,fm,j6,List.map_nil,List.map_cons,List.map_nil]));try simp only [go_sem,simprocAttr,hb,gP,hv,fm,j6,List.map_nil])|(intro h))
   all_goals rfl
  |true=>
   rw [hpk xk] at jH
   have eR:(aA g f (x:Int) o).1.2=0:=rfl
   rw [uA] at ck
   generalize aA g f (x:Int) o=su at Cv uA jH eR ck
   generalize OP:eP g p k=E at ck J4 hel hvl
   have vm:=fun d=>oY J4 d
   repeat' (first|((first|((with_reducible (first|apply oA|apply oB));exact rfl;intro K hK)|(refine hK _ ?_;clear hK K)|((with_reducible (first|apply oG|apply oH));iterate 3 exact rfl)|((with_reducible apply oI);(iterate 2 exact rfl);intro K hK)|(with_reducible (first|apply wI|apply wJ|apply wK)));try simp only [go_sem,simprocAttr,hb,gP,hv,fm,j6,eR,ck,vm,List.drop_succ_cons,List.drop_zero])|(show dK _ (.region 11 _ _) _ _;(refine iD hX 13 2 101 100 rfl rfl rfl (by first|exact .inl rfl|exact .inr rfl) (by decide) (by decide) ?_;simp only [LA.app,ASt.put,ASt.kill,subT,rmk,putM,rml,kl,AV.sub,AV.subs,AObj.sub,List.set_cons_zero,List.set_cons_succ,go_sem,simprocAttr,hb,gP,hv,fm,j6,eR,ck,vm,List.drop_succ_cons,List.drop_zero]))|(with_reducible (first|apply oC|apply oJ|exact oK|apply wA|apply wB|apply wC hX hC|apply wD hX hC|apply wE hX hC af|apply wF hX hC af|apply wG|apply wH|apply And.intro))|((with_reducible refine oD ?_ ?_);kernel_rfl)|((with_reducible (first|apply oE|apply oF));(iterate 3 exact rfl);all_goals (intro h;first|(exact absurd h (by decide))|((try simp only [go_sem,simprocAttr,hb,gP,hv,fm,j6,eR,ck,vm,List.drop_succ_cons,List.drop_zero] at h);(try with_reducible intro K hK);simp only [go_sem,simprocAttr,hb,gP,hv,fm,j6,eR,ck,vm,List.drop_succ_cons,List.drop_zero])))|((first|((with_reducible apply wL);exact rfl)|((with_reducible apply wM);exact rfl));all_goals (try ((with_reducible intro h);first|(exact absurd h (by decide))|(try simp only [go_sem,simprocAttr,hb,gP,hv,fm,j6,eR,ck,vm,List.drop_succ_cons,List.drop_zero] at h))))|omega|((first|(refine aB hX hC hP [(10000,13),(10001,100),(10002,101)] (jH) rfl rfl rfl ?_ ?_ ?_ ?_ ?_ ?_ ?_ ?_ ?_ ?_ ?_ ?_ ?_ ?_;(focus (simp only [go_sem,simprocAttr,hb,gP,hv,fm,j6,eR,ck,vm,List.drop_succ_cons,List.drop_zero];done));(iterate 12 (focus (simp [go_sem,simprocAttr,hb,gP,hv,fm,j6,eR,ck,vm,List.drop_succ_cons,List.drop_zero];done)));simp only [go_sem,simprocAttr,hb,gP,hv,fm,j6,eR,ck,vm,List.drop_succ_cons,List.drop_zero,List.map_cons,List.map_nil]));try simp only [go_sem,simprocAttr,hb,gP,hv,fm,j6,eR,ck,vm,List.drop_succ_cons,List.drop_zero])|(intro h))
   refine ⟨k+1,⟨by omega,fun j hj=> ?_⟩, ?_,by omega⟩
   ·by_cases e:j=k
    ·subst e;exact xk
    ·exact hok j (by omega)
   ·rw [Cv]
    have EG:(vT E).set x [D.sl 3 (List.map rT su.1.1)]=vT (eP g p (k+1)):=ck
    refine Le.of ?_ ?_<;>simp [go_sem,simprocAttr,hb,gP,hv,fm,j6,eR,ck,vm,List.drop_succ_cons,List.drop_zero,EG]
 have hb:decide ((k:Int)<(p.ord.length:Int))=false:=decide_eq_false (by omega)
 obtain rfl:k=g.n.toNat:=by omega
 rw [fC.2 hok] at hR
 subst hR
 repeat' (first|((first|((with_reducible (first|apply oA|apply oB));exact rfl;intro K hK)|(refine hK _ ?_;clear hK K)|((with_reducible (first|apply oG|apply oH));iterate 3 exact rfl)|((with_reducible apply oI);(iterate 2 exact rfl);intro K hK)|(with_reducible (first|apply wI|apply wJ|apply wK)));try simp only [go_sem,simprocAttr,hb])|(with_reducible (first|apply oC|apply oJ|exact oK|apply wA|apply wB|apply wC hX hC|apply wD hX hC|apply wE hX hC af|apply wF hX hC af|apply wG|apply wH|apply And.intro))|((with_reducible refine oD ?_ ?_);kernel_rfl)|((with_reducible (first|apply oE|apply oF));(iterate 3 exact rfl);all_goals (intro h;first|(exact absurd h (by decide))|((try simp only [go_sem,simprocAttr,hb] at h);(try with_reducible intro K hK);simp only [go_sem,simprocAttr,hb])))|((first|((with_reducible apply wL);exact rfl)|((with_reducible apply wM);exact rfl));all_goals (try ((with_reducible intro h);first|(exact absurd h (by decide))|(try simp only [go_sem,simprocAttr,hb] at h))))|omega|((first|(refine lJ hX hC hP 60 (Cg [vw g,sI (fK g p g.n.toNat).pl] (fK g p g.n.toNat).row (by omega)) rfl rfl rfl ?_ ?_ (by first|exact ⟨_,_,_,rfl,u9⟩|exact ⟨_,_,_,rfl,va⟩|exact ⟨_,_,_,rfl,ve⟩) rfl (by decide) ?_;(iterate 2 (focus (simp only [go_sem,simprocAttr,hb];done)));simp only [go_sem,simprocAttr,hb]));try simp only [go_sem,simprocAttr,hb])|(intro h))
end Go.Ab
end
section
namespace Go.Ab
open Go.Proofs
attribute [local congr] ACall.congr
set_option maxRecDepth 10000
set_option maxHeartbeats 8000000
def PY (n:Int) (es:List Edge) (ord:List Int) (O:List (List Int)):List (Nat × AObj):= [(10000, .box [eN n, .ref 10001, .ref 10002, .ref 10003]),(10001, .tip 73 2 (es.map rE)),(10002, .tip 3 1 (ord.map rI)),(10003, .own 31 1 (vI O))]
def PZ (n:Int) (es:List Edge) (ord:List Int) (O:List (List Int)):List (Nat × AObj):= [(10000, .box [eN n, .ref 10004, .ref 10002, .ref 10003]),(10004, .tip 73 2 (es.map rE)),(10002, .tip 3 1 (ord.map rI)),(10003, .own 31 1 (vI O))]
def OQ (x:Int) (items:List It):List Edge:=(loose items).map fun v=>(v,x)
end Go.Ab
end
section
namespace Go.Ab
open Go.Proofs
attribute [local congr] ACall.congr
set_option maxRecDepth 10000
set_option maxHeartbeats 16000000
def pz:Pl:=⟨[], []⟩
def OR (b:Bool) (g:Gr) (p:Pl):Gr × Pl × Int:=
 if (bL b g p).2.1≠0 then (gz,pz,1) else if 64<(Ex g p).n∨128<(Ex g p).es.length then (gz,pz,10) else (Ex g p,Mk g p,0)
theorem p9 {b:Bool} {g:Gr} {p:Pl} (hr:b=true↔(b9 g).1=0∧bp g p) (h:(bL b g p).2.1=0):bA g p∧bL b g p=((eP g p g.n.toNat,l9 g p),(0,0)):=by
 cases b with
 |false=>simp [bL] at h
 |true=>
  have hR:bL true g p=match js g p g.n.toNat with
   |some i=>(([], []),(3,(i:Int)))
   |none=>((eP g p g.n.toNat,(fK g p g.n.toNat).row),(0,0)):=rfl
  cases hs:js g p g.n.toNat with
  |some i=>rw [hR,hs] at h;simp at h
  |none=>
   obtain ⟨h1,h2⟩:=hr.1 rfl
   exact ⟨⟨h1,h2,fC.1 hs⟩,by rw [hR,hs];rfl⟩
end Go.Ab
end
section
namespace Go.Ab
open Go.Proofs
attribute [local congr] ACall.congr
set_option maxRecDepth 10000
set_option maxHeartbeats 16000000
def OS (p:Pl) (x:Gr) (k:Nat):List (List Int):=(List.range k).map fun v=>if 0<(p.outs.getD v []).length then p.outs.getD v [] else bE x (v:Int)
theorem z8 {g:Gr} {p:Pl} (hr:bA g p):∀t∈l9 g p,t.1<0:=by
 obtain ⟨hc,h,hok⟩:=hr
 have hm:=au hc
 have hn:=aL hm
 obtain ⟨hi,fG,_⟩:=cQ hm h (k:=g.n.toNat) (Nat.le_refl _) hok
 intro t ht
 refine Decidable.byContradiction fun h0=> ?_
 rcases hi.it t ht with ⟨h1,_⟩|⟨h1,h2,_,h4⟩
 ·omega
 ·have Nl:=(eS hm (k:=t.1.toNat) (by omega)).2
  rw [← h4] at Nl
  refine hi.head t ht h1 (gN hi.todY ?_ Nl)
  rw [fG,List.length_take,bY h];omega
end Go.Ab
end
section
namespace Go.Ab
open Go.Proofs
attribute [local congr] ACall.congr
set_option maxRecDepth 10000
set_option maxHeartbeats 8000000
def qQ (g:Gr) (p:Pl):Bool:=decide (200<g.es.length)||decide (100<p.ord.length)||decide (100<p.outs.length)||p.outs.any fun l=>decide (200<l.length)
theorem A6 {g:Gr} {p:Pl} (h:qQ g p=false):g.es.length≤200∧p.ord.length≤100∧p.outs.length≤100∧∀l∈p.outs,l.length≤200:=by
 simp only [qQ,Bool.or_eq_false_iff,decide_eq_false_iff_not,List.any_eq_false,decide_eq_true_eq] at h
 obtain ⟨⟨⟨h1,h2⟩,h3⟩,h4⟩:=h
 exact ⟨by omega,by omega,by omega,fun l hl=>by have:=h4 l hl;omega⟩
theorem tN {g:Gr} {p:Pl} (h:qQ g p=false):o8 p:=by
 obtain ⟨_,h1,h2,h3⟩:=A6 h
 exact ⟨by omega,by omega,fun l hl=>by have:=h3 l hl;omega⟩
structure A7 (p:Pl):Prop where
 ord:p.ord.length≤9223372036854775807
 outs:p.outs.length≤9223372036854775807
 each:∀l∈p.outs,l.length≤9223372036854775807
theorem xl (g:Gr) (p:Pl) (hl:g.es.length≤9223372036854775807) (hp:A7 p):Spec Tryz.prog 22 (Args [eG g,ePl p]) [] (eB (qQ g p)) []:=by
 have ho:=hp.ord
 have hu:=hp.outs
 (refine Spec.intro (C:=T.cfg [] []) (rs:= [.t 4]) (T.ai _ _) Tryz.func22 rfl rfl Tryz.ntmps22 Tryz.results22 (by simp [AObj.isNest]) (by simp [AObj.isNest]) (by kernel_rfl) ?_;intro X hX hP hC aG aH vals hA;refine ⟨_,by simp,hA, ?_⟩;have af:X.P.follows .mixedOrders=true:=(by rw [hP];exact T.mixed);clear aG aH)
 generalize hB:qQ g p=B
 by_cases h1:200<g.es.length
 ·have ak:decide (200<(g.es.length:Int))=true:=decide_eq_true (by omega)
  have:B=true:=by rw [← hB,qQ,decide_eq_true h1];rfl
  subst this
  repeat' (first|((first|((with_reducible (first|apply oA|apply oB));exact rfl;intro K hK)|(refine hK _ ?_;clear hK K)|((with_reducible (first|apply oG|apply oH));iterate 3 exact rfl)|((with_reducible apply oI);(iterate 2 exact rfl);intro K hK)|(with_reducible (first|apply wI|apply wJ|apply wK)));try simp only [go_sem,simprocAttr,ak])|(with_reducible (first|apply oC|apply oJ|exact oK|apply wA|apply wB|apply wC hX hC|apply wD hX hC|apply wE hX hC af|apply wF hX hC af|apply wG|apply wH|apply And.intro))|((with_reducible refine oD ?_ ?_);kernel_rfl)|((with_reducible (first|apply oE|apply oF));(iterate 3 exact rfl);all_goals (intro h;first|(exact absurd h (by decide))|((try simp only [go_sem,simprocAttr,ak] at h);(try with_reducible intro K hK);simp only [go_sem,simprocAttr,ak])))|((first|((with_reducible apply wL);exact rfl)|((with_reducible apply wM);exact rfl));all_goals (try ((with_reducible intro h);first|(exact absurd h (by decide))|(try simp only [go_sem,simprocAttr,ak] at h))))|omega|(intro h))
 have ak:decide (200<(g.es.length:Int))=false:=decide_eq_false (by omega)
 by_cases h2:100<p.ord.length
 ·have an:decide (100<(p.ord.length:Int))=true:=decide_eq_true (by omega)
  have:B=true:=by rw [← hB,qQ,decide_eq_true h2];simp
  subst this
  repeat' (first|((first|((with_reducible (first|apply oA|apply oB));exact rfl;intro K hK)|(refine hK _ ?_;clear hK K)|((with_reducible (first|apply oG|apply oH));iterate 3 exact rfl)|((with_reducible apply oI);(iterate 2 exact rfl);intro K hK)|(with_reducible (first|apply wI|apply wJ|apply wK)));try simp only [go_sem,simprocAttr,ak,an])|(with_reducible (first|apply oC|apply oJ|exact oK|apply wA|apply wB|apply wC hX hC|apply wD hX hC|apply wE hX hC af|apply wF hX hC af|apply wG|apply wH|apply And.intro))|((with_reducible refine oD ?_ ?_);kernel_rfl)|((with_reducible (first|apply oE|apply oF));(iterate 3 exact rfl);all_goals (intro h;first|(exact absurd h (by decide))|((try simp only [go_sem,simprocAttr,ak,an] at h);(try with_reducible intro K hK);simp only [go_sem,simprocAttr,ak,an])))|((first|((with_reducible apply wL);exact rfl)|((with_reducible apply wM);exact rfl));all_goals (try ((with_reducible intro h);first|(exact absurd h (by decide))|(try simp only [go_sem,simprocAttr,ak,an] at h))))|omega|(intro h))
 have an:decide (100<(p.ord.length:Int))=false:=decide_eq_false (by omega)
 by_cases h3:100<p.outs.length
 ·have bD:decide (100<(p.outs.length:Int))=true:=decide_eq_true (by omega)
  have:B=true:=by rw [← hB,qQ,decide_eq_true h3];simp
  subst this
  repeat' (first|((first|((with_reducible (first|apply oA|apply oB));exact rfl;intro K hK)|(refine hK _ ?_;clear hK K)|((with_reducible (first|apply oG|apply oH));iterate 3 exact rfl)|((with_reducible apply oI);(iterate 2 exact rfl);intro K hK)|(with_reducible (first|apply wI|apply wJ|apply wK)));try simp only [go_sem,simprocAttr,ak,an,bD])|(with_reducible (first|apply oC|apply oJ|exact oK|apply wA|apply wB|apply wC hX hC|apply wD hX hC|apply wE hX hC af|apply wF hX hC af|apply wG|apply wH|apply And.intro))|((with_reducible refine oD ?_ ?_);kernel_rfl)|((with_reducible (first|apply oE|apply oF));(iterate 3 exact rfl);all_goals (intro h;first|(exact absurd h (by decide))|((try simp only [go_sem,simprocAttr,ak,an,bD] at h);(try with_reducible intro K hK);simp only [go_sem,simprocAttr,ak,an,bD])))|((first|((with_reducible apply wL);exact rfl)|((with_reducible apply wM);exact rfl));all_goals (try ((with_reducible intro h);first|(exact absurd h (by decide))|(try simp only [go_sem,simprocAttr,ak,an,bD] at h))))|omega|(intro h))
 have bD:decide (100<(p.outs.length:Int))=false:=decide_eq_false (by omega)
 have ur:B=p.outs.any fun l=>decide (200<l.length):=by rw [← hB,qQ,decide_eq_false h1,decide_eq_false h2,decide_eq_false h3];simp
 clear hB
 repeat' (first|((first|((with_reducible (first|apply oA|apply oB));exact rfl;intro K hK)|(refine hK _ ?_;clear hK K)|((with_reducible (first|apply oG|apply oH));iterate 3 exact rfl)|((with_reducible apply oI);(iterate 2 exact rfl);intro K hK)|(with_reducible (first|apply wI|apply wJ|apply wK)));try simp only [go_sem,simprocAttr,ak,an,bD])|(with_reducible (first|apply oC|apply oJ|exact oK|apply wA|apply wB|apply wC hX hC|apply wD hX hC|apply wE hX hC af|apply wF hX hC af|apply wG|apply wH|apply And.intro))|((with_reducible refine oD ?_ ?_);kernel_rfl)|((with_reducible (first|apply oE|apply oF));(iterate 3 exact rfl);all_goals (intro h;first|(exact absurd h (by decide))|((try simp only [go_sem,simprocAttr,ak,an,bD] at h);(try with_reducible intro K hK);simp only [go_sem,simprocAttr,ak,an,bD])))|((first|((with_reducible apply wL);exact rfl)|((with_reducible apply wM);exact rfl));all_goals (try ((with_reducible intro h);first|(exact absurd h (by decide))|(try simp only [go_sem,simprocAttr,ak,an,bD] at h))))|omega|(intro h))
 refine aj (fun k:Nat=>k≤p.outs.length∧∀j,j<k→(p.outs.getD j []).length≤200) (fun k=>⟨[(24, .d (.sl 1 (vI p.outs))),(25,eN p.outs.length),(26,eN k)], []⟩) (fun k=>p.outs.length - k) 0 (by simp) ?_ ?_
 ·(refine Le.of ?_ ?_<;>simp [go_sem,simprocAttr])
 rintro k ⟨hk,hg⟩
 rcases Nat.lt_or_ge k p.outs.length with cz|GB
 ·have hb:decide ((k:Int)<(p.outs.length:Int))=true:=decide_eq_true (by omega)
  have hv:=gR cz
  have hm:=bz (d:= []) cz
  have lp:=hp.each _ hm
  by_cases h4:200<(p.outs.getD k []).length
  ·have hb4:decide (200<((p.outs.getD k []).length:Int))=true:=decide_eq_true (by omega)
   have:B=true:=by rw [ur,List.any_eq_true];exact ⟨_,hm,decide_eq_true h4⟩
   subst this
   repeat' (first|((first|((with_reducible (first|apply oA|apply oB));exact rfl;intro K hK)|(refine hK _ ?_;clear hK K)|((with_reducible (first|apply oG|apply oH));iterate 3 exact rfl)|((with_reducible apply oI);(iterate 2 exact rfl);intro K hK)|(with_reducible (first|apply wI|apply wJ|apply wK)));try simp only [go_sem,simprocAttr,hb,hv,hb4])|(with_reducible (first|apply oC|apply oJ|exact oK|apply wA|apply wB|apply wC hX hC|apply wD hX hC|apply wE hX hC af|apply wF hX hC af|apply wG|apply wH|apply And.intro))|((with_reducible refine oD ?_ ?_);kernel_rfl)|((with_reducible (first|apply oE|apply oF));(iterate 3 exact rfl);all_goals (intro h;first|(exact absurd h (by decide))|((try simp only [go_sem,simprocAttr,hb,hv,hb4] at h);(try with_reducible intro K hK);simp only [go_sem,simprocAttr,hb,hv,hb4])))|((first|((with_reducible apply wL);exact rfl)|((with_reducible apply wM);exact rfl));all_goals (try ((with_reducible intro h);first|(exact absurd h (by decide))|(try simp only [go_sem,simprocAttr,hb,hv,hb4] at h))))|omega|(intro h))
  ·have hb4:decide (200<((p.outs.getD k []).length:Int))=false:=decide_eq_false (by omega)
   repeat' (first|((first|((with_reducible (first|apply oA|apply oB));exact rfl;intro K hK)|(refine hK _ ?_;clear hK K)|((with_reducible (first|apply oG|apply oH));iterate 3 exact rfl)|((with_reducible apply oI);(iterate 2 exact rfl);intro K hK)|(with_reducible (first|apply wI|apply wJ|apply wK)));try simp only [go_sem,simprocAttr,hb,hv,hb4])|(with_reducible (first|apply oC|apply oJ|exact oK|apply wA|apply wB|apply wC hX hC|apply wD hX hC|apply wE hX hC af|apply wF hX hC af|apply wG|apply wH|apply And.intro))|((with_reducible refine oD ?_ ?_);kernel_rfl)|((with_reducible (first|apply oE|apply oF));(iterate 3 exact rfl);all_goals (intro h;first|(exact absurd h (by decide))|((try simp only [go_sem,simprocAttr,hb,hv,hb4] at h);(try with_reducible intro K hK);simp only [go_sem,simprocAttr,hb,hv,hb4])))|((first|((with_reducible apply wL);exact rfl)|((with_reducible apply wM);exact rfl));all_goals (try ((with_reducible intro h);first|(exact absurd h (by decide))|(try simp only [go_sem,simprocAttr,hb,hv,hb4] at h))))|omega|(intro h))
   refine ⟨k+1,⟨by omega,fun j hj=> ?_⟩, ?_,by omega⟩
   ·by_cases e:j=k
    ·subst e;omega
    ·exact hg j (by omega)
   ·(refine Le.of ?_ ?_<;>simp [go_sem,simprocAttr,hb,hv,hb4])
 ·have hb:decide ((k:Int)<(p.outs.length:Int))=false:=decide_eq_false (by omega)
  have:B=false:=by
   rw [ur,List.any_eq_false]
   intro l hl
   obtain ⟨j,hj,rfl⟩:=List.mem_iff_getElem.1 hl
   have:=hg j (by omega)
   rw [List.getD_eq_getElem?_getD,List.getElem?_eq_getElem hj,Option.getD_some] at this
   simp;omega
  subst this
  repeat' (first|((first|((with_reducible (first|apply oA|apply oB));exact rfl;intro K hK)|(refine hK _ ?_;clear hK K)|((with_reducible (first|apply oG|apply oH));iterate 3 exact rfl)|((with_reducible apply oI);(iterate 2 exact rfl);intro K hK)|(with_reducible (first|apply wI|apply wJ|apply wK)));try simp only [go_sem,simprocAttr,hb])|(with_reducible (first|apply oC|apply oJ|exact oK|apply wA|apply wB|apply wC hX hC|apply wD hX hC|apply wE hX hC af|apply wF hX hC af|apply wG|apply wH|apply And.intro))|((with_reducible refine oD ?_ ?_);kernel_rfl)|((with_reducible (first|apply oE|apply oF));(iterate 3 exact rfl);all_goals (intro h;first|(exact absurd h (by decide))|((try simp only [go_sem,simprocAttr,hb] at h);(try with_reducible intro K hK);simp only [go_sem,simprocAttr,hb])))|((first|((with_reducible apply wL);exact rfl)|((with_reducible apply wM);exact rfl));all_goals (try ((with_reducible intro h);first|(exact absurd h (by decide))|(try simp only [go_sem,simprocAttr,hb] at h))))|omega|(intro h))
def kz (g:Gr):Bool:=decide ((b9 g).1=0)&&decide ((bF (·.1) g).length=1)
theorem nU (g:Gr) (hl:g.es.length≤1000):Spec Tryz.prog 60 (Args [eG g]) [] (eB (kz g)) []:=by
 by_cases hc:(b9 g).1=0
 ·have hm:=au hc
  have ak:decide ((b9 g).1=0)=true:=decide_eq_true hc
  have hI:kz g=decide (((bF (·.1) g).length:Int)=1):=by
   unfold kz;rw [ak,Bool.true_and,decide_eq_decide];omega
  rw [hI]
  generalize jM:bF (·.1) g=bl
  have hS:=s7 g hm
  rw [jM] at hS
  (refine Spec.intro (C:=T.cfg [] []) (rs:= [.t 2]) (T.ai _ _) Tryz.func60 rfl rfl Tryz.ntmps60 Tryz.results60 (by simp [AObj.isNest]) (by simp [AObj.isNest]) (by kernel_rfl) ?_;intro X hX hP hC aG aH vals hA;refine ⟨_,by simp,hA, ?_⟩;have af:X.P.follows .mixedOrders=true:=(by rw [hP];exact T.mixed);clear aG aH)
  repeat' (first|((first|((with_reducible (first|apply oA|apply oB));exact rfl;intro K hK)|(refine hK _ ?_;clear hK K)|((with_reducible (first|apply oG|apply oH));iterate 3 exact rfl)|((with_reducible apply oI);(iterate 2 exact rfl);intro K hK)|(with_reducible (first|apply wI|apply wJ|apply wK)));try simp only [go_sem,simprocAttr,ak])|(with_reducible (first|apply oC|apply oJ|exact oK|apply wA|apply wB|apply wC hX hC|apply wD hX hC|apply wE hX hC af|apply wF hX hC af|apply wG|apply wH|apply And.intro))|((with_reducible refine oD ?_ ?_);kernel_rfl)|((with_reducible (first|apply oE|apply oF));(iterate 3 exact rfl);all_goals (intro h;first|(exact absurd h (by decide))|((try simp only [go_sem,simprocAttr,ak] at h);(try with_reducible intro K hK);simp only [go_sem,simprocAttr,ak])))|((first|((with_reducible apply wL);exact rfl)|((with_reducible apply wM);exact rfl));all_goals (try ((with_reducible intro h);first|(exact absurd h (by decide))|(try simp only [go_sem,simprocAttr,ak] at h))))|omega|((first|refine aa hX hC hP (kN g hl) rfl rfl rfl (by simp only [go_sem,simprocAttr,ak]) rfl ?_|refine aa hX hC hP (gQ g hm) rfl rfl rfl (by simp only [go_sem,simprocAttr,ak]) rfl ?_|refine aa hX hC hP (hS) rfl rfl rfl (by simp only [go_sem,simprocAttr,ak]) rfl ?_);try simp only [go_sem,simprocAttr,ak])|(intro h))
 ·have ak:decide ((b9 g).1=0)=false:=decide_eq_false hc
  have hI:kz g=false:=by unfold kz;rw [ak];rfl
  rw [hI]
  (refine Spec.intro (C:=T.cfg [] []) (rs:= [.t 2]) (T.ai _ _) Tryz.func60 rfl rfl Tryz.ntmps60 Tryz.results60 (by simp [AObj.isNest]) (by simp [AObj.isNest]) (by kernel_rfl) ?_;intro X hX hP hC aG aH vals hA;refine ⟨_,by simp,hA, ?_⟩;have af:X.P.follows .mixedOrders=true:=(by rw [hP];exact T.mixed);clear aG aH)
  repeat' (first|((first|((with_reducible (first|apply oA|apply oB));exact rfl;intro K hK)|(refine hK _ ?_;clear hK K)|((with_reducible (first|apply oG|apply oH));iterate 3 exact rfl)|((with_reducible apply oI);(iterate 2 exact rfl);intro K hK)|(with_reducible (first|apply wI|apply wJ|apply wK)));try simp only [go_sem,simprocAttr,ak])|(with_reducible (first|apply oC|apply oJ|exact oK|apply wA|apply wB|apply wC hX hC|apply wD hX hC|apply wE hX hC af|apply wF hX hC af|apply wG|apply wH|apply And.intro))|((with_reducible refine oD ?_ ?_);kernel_rfl)|((with_reducible (first|apply oE|apply oF));(iterate 3 exact rfl);all_goals (intro h;first|(exact absurd h (by decide))|((try simp only [go_sem,simprocAttr,ak] at h);(try with_reducible intro K hK);simp only [go_sem,simprocAttr,ak])))|((first|((with_reducible apply wL);exact rfl)|((with_reducible apply wM);exact rfl));all_goals (try ((with_reducible intro h);first|(exact absurd h (by decide))|(try simp only [go_sem,simprocAttr,ak] at h))))|omega|((first|refine aa hX hC hP (kN g hl) rfl rfl rfl (by simp only [go_sem,simprocAttr,ak]) rfl ?_);try simp only [go_sem,simprocAttr,ak])|(intro h))
theorem Aa (g:Gr) (hl:g.es.length≤1000):Spec Tryz.prog 23 (Args [eG g]) [] (eB (kz g)) []:=by
 by_cases hc:(b9 g).1=0
 ·have hm:=au hc
  have hn:=aL hm
  have ak:decide ((b9 g).1=0)=true:=decide_eq_true hc
  have hI:kz g=decide (((bF (·.1) g).length:Int)=1):=by
   unfold kz;rw [ak,Bool.true_and,decide_eq_decide];omega
  rw [hI]
  have hS:=cg g false hl (by omega)
  rw [show j4 (!false)=(·.1) from rfl] at hS
  generalize bF (·.1) g=bl at hS
  (refine Spec.intro (C:=T.cfg [] []) (rs:= [.t 2]) (T.ai _ _) Tryz.func23 rfl rfl Tryz.ntmps23 Tryz.results23 (by simp [AObj.isNest]) (by simp [AObj.isNest]) (by kernel_rfl) ?_;intro X hX hP hC aG aH vals hA;refine ⟨_,by simp,hA, ?_⟩;have af:X.P.follows .mixedOrders=true:=(by rw [hP];exact T.mixed);clear aG aH)
  repeat' (first|((first|((with_reducible (first|apply oA|apply oB));exact rfl;intro K hK)|(refine hK _ ?_;clear hK K)|((with_reducible (first|apply oG|apply oH));iterate 3 exact rfl)|((with_reducible apply oI);(iterate 2 exact rfl);intro K hK)|(with_reducible (first|apply wI|apply wJ|apply wK)));try simp only [go_sem,simprocAttr,ak])|(with_reducible (first|apply oC|apply oJ|exact oK|apply wA|apply wB|apply wC hX hC|apply wD hX hC|apply wE hX hC af|apply wF hX hC af|apply wG|apply wH|apply And.intro))|((with_reducible refine oD ?_ ?_);kernel_rfl)|((with_reducible (first|apply oE|apply oF));(iterate 3 exact rfl);all_goals (intro h;first|(exact absurd h (by decide))|((try simp only [go_sem,simprocAttr,ak] at h);(try with_reducible intro K hK);simp only [go_sem,simprocAttr,ak])))|((first|((with_reducible apply wL);exact rfl)|((with_reducible apply wM);exact rfl));all_goals (try ((with_reducible intro h);first|(exact absurd h (by decide))|(try simp only [go_sem,simprocAttr,ak] at h))))|omega|((first|refine aa hX hC hP (aU g (by omega)) rfl rfl rfl (by simp only [go_sem,simprocAttr,ak]) rfl ?_|refine aa hX hC hP (hS) rfl rfl rfl (by simp only [go_sem,simprocAttr,ak]) rfl ?_);try simp only [go_sem,simprocAttr,ak])|(intro h))
 ·have ak:decide ((b9 g).1=0)=false:=decide_eq_false hc
  have hI:kz g=false:=by unfold kz;rw [ak];rfl
  rw [hI]
  (refine Spec.intro (C:=T.cfg [] []) (rs:= [.t 2]) (T.ai _ _) Tryz.func23 rfl rfl Tryz.ntmps23 Tryz.results23 (by simp [AObj.isNest]) (by simp [AObj.isNest]) (by kernel_rfl) ?_;intro X hX hP hC aG aH vals hA;refine ⟨_,by simp,hA, ?_⟩;have af:X.P.follows .mixedOrders=true:=(by rw [hP];exact T.mixed);clear aG aH)
  repeat' (first|((first|((with_reducible (first|apply oA|apply oB));exact rfl;intro K hK)|(refine hK _ ?_;clear hK K)|((with_reducible (first|apply oG|apply oH));iterate 3 exact rfl)|((with_reducible apply oI);(iterate 2 exact rfl);intro K hK)|(with_reducible (first|apply wI|apply wJ|apply wK)));try simp only [go_sem,simprocAttr,ak])|(with_reducible (first|apply oC|apply oJ|exact oK|apply wA|apply wB|apply wC hX hC|apply wD hX hC|apply wE hX hC af|apply wF hX hC af|apply wG|apply wH|apply And.intro))|((with_reducible refine oD ?_ ?_);kernel_rfl)|((with_reducible (first|apply oE|apply oF));(iterate 3 exact rfl);all_goals (intro h;first|(exact absurd h (by decide))|((try simp only [go_sem,simprocAttr,ak] at h);(try with_reducible intro K hK);simp only [go_sem,simprocAttr,ak])))|((first|((with_reducible apply wL);exact rfl)|((with_reducible apply wM);exact rfl));all_goals (try ((with_reducible intro h);first|(exact absurd h (by decide))|(try simp only [go_sem,simprocAttr,ak] at h))))|omega|((first|refine aa hX hC hP (aU g (by omega)) rfl rfl rfl (by simp only [go_sem,simprocAttr,ak]) rfl ?_);try simp only [go_sem,simprocAttr,ak])|(intro h))
end Go.Ab
end
section
namespace Go.Ab
open Go.Proofs
attribute [local congr] ACall.congr
set_option maxRecDepth 10000
set_option maxHeartbeats 8000000
def P3:Gr:=⟨3, [(0,1),(0,2)]⟩
def P4:Pl:=⟨[0,1,2], [[0,1], [], []]⟩
def P5:Gr:=⟨4, [(0,1),(0,2),(1,3),(2,3)]⟩
def P6:Pl:=⟨[0,1,2,3], [[0,1], [2], [3], []]⟩
end Go.Ab
end
section
namespace Go.Ab
open Go.Proofs
attribute [local congr] ACall.congr
set_option maxRecDepth 10000
def P7 (l:List Int) (k:Nat):Bool:=(List.range k).all fun i=>decide (l.getD i 0=(i:Int))
def Gf (g:Gr) (names order:List Int) (k:Nat):List Edge:=(List.range k).map fun i=>(names.getD (g.es.getD (order.getD i 0).toNat (0,0)).1.toNat 0,names.getD (g.es.getD (order.getD i 0).toNat (0,0)).2.toNat 0)
def iq (g:Gr) (names order:List Int):Gr:=⟨g.n,Gf g names order order.length⟩
theorem yS {g:Gr} {names order:List Int} {k:Nat} :(Gf g names order k).length=k:=by simp [Gf]
def J5 (g:Gr) (names order:List Int):Bool:=aN g&&gB names g.n&&gB order g.es.length
def OU (g:Gr) (names order:List Int):Gr:=if J5 g names order then iq g names order else ⟨0, []⟩
end Go.Ab
end
section
namespace Go.Ab
def Ed (g:Gr) (a b:Int):Prop:=∃i,i<g.es.length∧tl g i=a∧hd g i=b
def KI (g:Gr) (l:List Int):Prop:=∀i,i<l.length→Ed g (l.getD i 0) (l.getD ((i+1) % l.length) 0)
def EH (g:Gr) (way:List Int) (at_:Int):Prop:=∀p,p<way.length→Ed g ((way++ [at_]).getD (p+1) 0) (way.getD p 0)
theorem qa {l:List Int} {a:Int} :(l++ [a]).getD l.length 0=a:=by
 rw [List.getD_eq_getElem?_getD,List.getElem?_append_right (Nat.le_refl _)];simp
theorem tO {g:Gr} (hm:aN g=true):∀(f:Nat) (way:List Int) (a:Nat),a<g.n.toNat→(a:Int)∉aP g→EH g way a→left g way≤f→
 EH g (kM g (cL g (aP g)) f way a).1 (kM g (cL g (aP g)) f way a).2∧0≤(kM g (cL g (aP g)) f way a).2∧(kM g (cL g (aP g)) f way a).2∈(kM g (cL g (aP g)) f way a).1
 |f,way,a,ha,hn,hc,hl=>by
  by_cases hmem:(a:Int)∈way
  ·rw [jY (.inr hmem)]
   exact ⟨hc,by simp only;omega,hmem⟩
  ·have hla:=iY ha hmem
   cases f with
   |zero=>omega
   |succ f=>
    obtain ⟨⟨i,hi,Ml,CT,JW⟩,_⟩:=tf hm (HR hm ha hn)
    have htr:=bS hm hi
    rw [CT] at htr
    obtain ⟨b,JX⟩:∃b:Nat,jr g (cL g (aP g)) a=b:=⟨(jr g (cL g (aP g)) a).toNat,by omega⟩
    rw [JX] at JW htr CT
    have e1:kM g (cL g (aP g)) (f+1) way a=kM g (cL g (aP g)) f (way++ [(a:Int)]) b:=by
     simp only [kM];rw [if_neg (by intro h;rcases h with h|h;omega;exact hmem h),JX]
    rw [e1]
    refine tO hm f (way++ [(a:Int)]) b (by omega) JW ?_ (by omega)
    intro p hp
    rw [List.length_append,List.length_singleton] at hp
    by_cases fG:p<way.length
    ·have:=hc p fG
     rw [lZ (by simp;omega),lZ fG]
     exact this
    ·have:p=way.length:=by omega
     subst this
     have e2:=qa (l:=way++ [(a:Int)]) (a:=(b:Int))
     rw [List.length_append,List.length_singleton] at e2
     rw [e2,qa]
     exact ⟨i,hi,CT,Ml⟩
theorem qb {l:List Int} {k p:Nat} :(l.drop k).getD p 0=l.getD (k+p) 0:=by
 rw [List.getD_eq_getElem?_getD,List.getElem?_drop, ← List.getD_eq_getElem?_getD]
theorem KI.Mm {g:Gr} {l:List Int} (h:∀p,p<l.length→Ed g (l.getD ((p+1) % l.length) 0) (l.getD p 0)) (h0:0<l.length):KI g (k8 l.reverse):=by
 have KH:0<l.reverse.length:=by simpa using h0
 obtain ⟨k,za,hk2,_⟩:=dG (iZ KH)
 rw [List.length_reverse] at hk2
 have e1:k8 l.reverse=l.reverse.drop k++l.reverse.take k:=by simp only [k8,za,Int.toNat_natCast]
 have hlen:(k8 l.reverse).length=l.length:=by rw [e1];simp;omega
 have hg:∀i,i<l.length→(k8 l.reverse).getD i 0=l.getD (l.length - 1 - (i+k) % l.length) 0:=by
  intro i hi
  rw [e1,List.getD_eq_getElem?_getD]
  by_cases hik:i<l.length - k
  ·rw [List.getElem?_append_left (by simp;omega),List.getElem?_drop,List.getElem?_reverse (by omega),Nat.mod_eq_of_lt (by omega), ← List.getD_eq_getElem?_getD]
   congr 1;omega
  ·rw [List.getElem?_append_right (by simp;omega),List.length_drop,List.length_reverse,List.getElem?_take,if_pos (by omega),List.getElem?_reverse (by omega), ← List.getD_eq_getElem?_getD]
   have:(i+k) % l.length=i+k - l.length:=by rw [Nat.mod_eq_sub_mod (by omega),Nat.mod_eq_of_lt (by omega)]
   rw [this];congr 1;omega
 intro i hi
 rw [hlen] at hi ⊢
 rw [hg i hi,hg _ (Nat.mod_lt _ h0)]
 have hmm:((i+1) % l.length+k) % l.length=((i+k) % l.length+1) % l.length:=by
  rw [Nat.mod_add_mod,Nat.mod_add_mod];congr 1;omega
 rw [hmm]
 have hj:=Nat.mod_lt (i+k) h0
 generalize (i+k) % l.length=j at hj ⊢
 by_cases vn:j+1<l.length
 ·rw [Nat.mod_eq_of_lt vn]
  have:=h (l.length - 1 - (j+1)) (by omega)
  rw [Nat.mod_eq_of_lt (by omega),show l.length - 1 - (j+1)+1=l.length - 1 - j from by omega] at this
  exact this
 ·have:j+1=l.length:=by omega
  rw [this,Nat.mod_self]
  have:=h (l.length - 1) (by omega)
  rw [show l.length - 1+1=l.length from by omega,Nat.mod_self] at this
  rw [show l.length - 1 - j=0 from by omega]
  exact this
def Mn (g:Gr):Prop:=∃r:Int→Nat,∀i,i<g.es.length→r (tl g i)<r (hd g i)
theorem A8 {g:Gr} (hm:aN g=true):CX g=true↔Mn g:=by
 constructor
 ·intro h
  refine ⟨fun v=>((yA g.n.toNat (aP g) (aP g).length).getD v.toNat 0).toNat,fun i hi=> ?_⟩
  have h1:=Eo (Ce hm h) hi
  have h2:=tq (n:=g.n.toNat) (l:=aP g) (k:=(aP g).length) (y:=(tl g i).toNat)
  simp only;omega
 ·rintro ⟨r,hr⟩
  cases h:CX g with
  |true=>rfl
  |false=>
   exfalso
   obtain ⟨y,hy,hn⟩:=AS hm h
   have key:∀(p:Nat) (y:Nat),y<g.n.toNat→(y:Int)∉aP g→r y=p→False:=by
    intro p
    induction p using Nat.strongRecOn with
    |_ p ih=>
     intro y hy hn hp
     obtain ⟨t,i,hi,h1,rfl,h2⟩:=HR hm hy hn
     have htr:=bS hm hi
     have hlt:=hr i hi
     rw [h1,hp] at hlt
     have e:((tl g i).toNat:Int)=tl g i:=by omega
     exact ih (r (tl g i)) hlt (tl g i).toNat (by omega) (by rw [e];exact h2) (by rw [e])
   exact key _ y hy hn rfl
theorem Gg {g:Gr} (hm:aN g=true) (h:CX g=true):jX g= []:=by
 have hall:=(bZ.1 (AR hm h)).2
 have hn:=aL hm
 rcases start_eq hm with ⟨h1,h2⟩|⟨a,ha,h1,h2,h3⟩
 ·have:jW g=([], -1):=by
   unfold jW;rw [h1];exact jY (.inl (by omega)) _
  simp only [jX,this]
  rw [if_pos (by omega)]
 ·exact absurd (hall a (dH.2 (by omega))) h3
theorem EI {g:Gr} (hm:aN g=true) (h:CX g=false):0<(jX g).length∧KI g (jX g):=by
 obtain ⟨y,hy,OV⟩:=AS hm h
 have hn:=aL hm
 rcases start_eq hm with ⟨h1,h2⟩|⟨a,ha,h1,h2,h3⟩
 ·exfalso
  rcases fy (f:=fun n:Int=>decide (0<n)) (l:=cL g (aP g)) 0 with ⟨_,h4⟩|⟨k,h4,_⟩
  ·have h5:=(pU hm hy).2 OV
   have h6:=h4 ((cL g (aP g)).getD y 0) (by rw [List.getD_eq_getElem?_getD,kK hy];exact List.mem_of_getElem? (kK hy))
   rw [lS hy] at h6
   exact absurd h5 (of_decide_eq_false h6)
  ·omega
 ·obtain ⟨h4,h5,h6⟩:=tO hm g.n.toNat [] a ha h3 (fun p hp=>by simp at hp) wZ
  have hw:jW g=kM g (cL g (aP g)) g.n.toNat [] a:=by unfold jW;rw [h1]
  rw [← hw] at h4 h5 h6
  obtain ⟨k,za,hk2,JU⟩:=dG h6
  have hc:jX g=k8 ((jW g).1.drop k).reverse:=by
   simp only [jX]
   rw [if_neg (by omega),za,Int.toNat_natCast]
  have hlen:((jW g).1.drop k).length=(jW g).1.length - k:=by simp
  have h0:0<((jW g).1.drop k).length:=by omega
  refine ⟨?_, ?_⟩
  ·rw [hc]
   simp only [k8,List.length_append,List.length_drop,List.length_take,List.length_reverse]
   omega
  ·rw [hc]
   refine KI.Mm (fun p hp=> ?_) h0
   rw [hlen] at hp ⊢
   have h7:=h4 (k+p) (by omega)
   rw [qb (p:=p)]
   by_cases vn:p+1<(jW g).1.length - k
   ·rw [Nat.mod_eq_of_lt vn,qb]
    rw [lZ (by omega)] at h7
    exact h7
   ·have:p+1=(jW g).1.length - k:=by omega
    rw [this,Nat.mod_self,qb,Nat.add_zero,JU]
    rw [show k+p+1=(jW g).1.length from by omega,qa] at h7
    exact h7
end Go.Ab
end
section
namespace Go.Ab
def nm (names:List Int) (v:Int):Int:=names.getD v.toNat 0
structure jt (g:Gr) (names order:List Int):Prop where
 may:aN g=true
 HX:gB names g.n=true
 ord:gB order (g.es.length:Int)=true
section
variable {g:Gr} {names order:List Int} (h:jt g names order)
include h
theorem jt.len:(iq g names order).es.length=g.es.length:=by
 have:=(bZ.1 h.ord).1
 simp only [iq,yS];omega
theorem jt.jz {i:Nat} (hi:i<g.es.length):∃j,j<g.es.length∧order.getD i 0=(j:Int)∧(iq g names order).es.getD i (0,0)=(nm names (tl g j),nm names (hd g j)):=by
 have qK:=(bZ.1 h.ord).1
 have:=tj h.ord _ (gW (l:=order) (m:=i) (by omega))
 refine ⟨(order.getD i 0).toNat,by omega,by omega, ?_⟩
 simp only [iq,Gf,nm,tl,hd]
 rw [List.getD_eq_getElem?_getD,List.getElem?_map,List.getElem?_range (by omega)]
 rfl
theorem jt.back {j:Nat} (hj:j<g.es.length):∃i,i<g.es.length∧order.getD i 0=(j:Int)∧(iq g names order).es.getD i (0,0)=(nm names (tl g j),nm names (hd g j)):=by
 obtain ⟨qK,hall⟩:=bZ.1 h.ord
 obtain ⟨i,hi,hil,he⟩:=dG (hall (j:Int) (dH.2 (by omega)))
 obtain ⟨j',_,h2,h3⟩:=h.jz (i:=i) (by omega)
 have:j'=j:=by omega
 subst this
 exact ⟨i,by omega,he,h3⟩
theorem jt.inj {a b:Int} (ha:0≤a∧a<g.n) (hb:0≤b∧b<g.n) (e:nm names a=nm names b):a=b:=by
 have hnl:=(bZ.1 h.HX).1
 have:=kP h.HX (i:=a.toNat) (j:=b.toNat) (by omega) (by omega) e
 omega
theorem jt.range {a:Int} (ha:0≤a∧a<g.n):0≤nm names a∧nm names a<g.n:=by
 have hnl:=(bZ.1 h.HX).1
 exact tj h.HX _ (gW (by omega))
theorem jt.inv {a:Int} (ha:0≤a∧a<g.n):dL names (nm names a)=a:=by
 have hnl:=(bZ.1 h.HX).1
 obtain ⟨k,hk,cz,he⟩:=dG (gW (l:=names) (m:=a.toNat) (by omega))
 have h2:=kP h.HX cz (j:=a.toNat) (by omega) he
 have h3:dL names (nm names a)=k:=hk
 omega
theorem jt.of {v:Int} (hv:0≤v∧v<g.n):∃a,(0≤a∧a<g.n)∧nm names a=v:=by
 obtain ⟨hnl,hall⟩:=bZ.1 h.HX
 obtain ⟨k,hk,cz,he⟩:=dG (hall v (dH.2 (by omega)))
 exact ⟨k,by omega,he⟩
theorem jt.may':aN (iq g names order)=true:=by
 have hn:=aL h.may
 have hlen:=h.len
 have hall:(iq g names order).es.any (oT (iq g names order))=false:=by
  rw [List.any_eq_false]
  intro e he
  obtain ⟨i,hi,rfl⟩:=List.getElem_of_mem he
  obtain ⟨j,hj,_,h3⟩:=h.jz (i:=i) (by omega)
  rw [List.getD_eq_getElem?_getD,List.getElem?_eq_getElem hi,Option.getD_some] at h3
  rw [h3]
  have h4:=h.range (bS h.may hj)
  have h5:=h.range (cm h.may hj)
  have e1:(iq g names order).n=g.n:=rfl
  simp only [oT,uu,e1,Bool.or_eq_true,decide_eq_true_eq]
  omega
 have e1:(iq g names order).n=g.n:=rfl
 simp only [aN,hall,e1,Bool.not_false,Bool.and_true,Bool.and_eq_true,decide_eq_true_eq]
 omega
omit h in
theorem qc {i j:Nat} (e:(iq g names order).es.getD i (0,0)=(nm names (tl g j),nm names (hd g j))):tl (iq g names order) i=nm names (tl g j)∧hd (iq g names order) i=nm names (hd g j):=⟨congrArg Prod.fst e,congrArg Prod.snd e⟩
theorem jt.loop:(0≤jZ (iq g names order))↔0≤jZ g:=by
 have key:∀g:Gr,(0≤jZ g)↔∃i,i<g.es.length∧tl g i=hd g i:=by
  intro g
  have:=iN (fun e:Edge=>decide (e.1=e.2)) g.es
  rw [show (0≤jZ g)↔g.es.any (fun e:Edge=>decide (e.1=e.2))=true from by rw [← this];simp [jZ],List.any_eq_true]
  constructor
  ·rintro ⟨e,he,h2⟩
   obtain ⟨i,hi,rfl⟩:=List.getElem_of_mem he
   refine ⟨i,hi, ?_⟩
   simpa [tl,hd,List.getD_eq_getElem?_getD,List.getElem?_eq_getElem hi] using h2
  ·rintro ⟨i,hi,h2⟩
   refine ⟨_,List.getElem_mem hi, ?_⟩
   simpa [tl,hd,List.getD_eq_getElem?_getD,List.getElem?_eq_getElem hi] using h2
 rw [key,key,h.len]
 constructor
 ·rintro ⟨i,hi,e⟩
  obtain ⟨j,hj,_,h3⟩:=h.jz hi
  obtain ⟨e1,e2⟩:=qc h3
  exact ⟨j,hj,h.inj (bS h.may hj) (cm h.may hj) (by rw [← e1, ← e2,e])⟩
 ·rintro ⟨j,hj,e⟩
  obtain ⟨i,hi,_,h3⟩:=h.back hj
  obtain ⟨e1,e2⟩:=qc h3
  exact ⟨i,hi,by rw [e1,e2,e]⟩
omit h in
theorem vo (g:Gr):(0≤fz g)↔∃i k,i<g.es.length∧k<g.es.length∧i≠k∧g.es.getD i (0,0)=g.es.getD k (0,0):=by
 have:=iN (nL g) (List.range g.es.length)
 rw [show (0≤fz g)↔(List.range g.es.length).any (nL g)=true from by rw [← this];simp [fz],List.any_eq_true]
 constructor
 ·rintro ⟨i,hi,h2⟩
  have hil:=List.mem_range.1 hi
  have h3:=of_decide_eq_true h2
  rw [List.mem_iff_getElem?] at h3
  obtain ⟨k,hk⟩:=h3
  rw [List.getElem?_take] at hk
  split at hk
  ·rename_i hki
   exact ⟨i,k,hil,by omega,by omega,by rw [List.getD_eq_getElem?_getD (i:=k),hk];rfl⟩
  ·cases hk
 ·rintro ⟨i,k,hi,hk,hne,e⟩
  have main:∀i k,k<i→i<g.es.length→g.es.getD i (0,0)=g.es.getD k (0,0)→nL g i=true:=by
   intro i k hki hi e
   refine decide_eq_true ?_
   rw [e,List.mem_iff_getElem?]
   refine ⟨k, ?_⟩
   rw [List.getElem?_take,if_pos hki,List.getD_eq_getElem?_getD,List.getElem?_eq_getElem (by omega)];rfl
  rcases Nat.lt_or_gt_of_ne hne with hlt|hgt
  ·exact ⟨k,List.mem_range.2 hk,main k i hlt hk e.symm⟩
  ·exact ⟨i,List.mem_range.2 hi,main i k hgt hi e⟩
theorem jt.J6:(0≤fz (iq g names order))↔0≤fz g:=by
 have qK:=(bZ.1 h.ord).1
 rw [vo,vo,h.len]
 constructor
 ·rintro ⟨i,k,hi,hk,hne,e⟩
  obtain ⟨j,hj,ho,h3⟩:=h.jz hi
  obtain ⟨j',hj',ho',FG⟩:=h.jz hk
  refine ⟨j,j',hj,hj',fun e'=> ?_, ?_⟩
  ·subst e'
   exact hne (kP h.ord (by omega) (by omega) (by rw [ho,ho']))
  ·rw [h3,FG,Prod.mk.injEq] at e
   have e1:=h.inj (bS h.may hj) (bS h.may hj') e.1
   have e2:=h.inj (cm h.may hj) (cm h.may hj') e.2
   exact Prod.ext e1 e2
 ·rintro ⟨j,j',hj,hj',hne,e⟩
  obtain ⟨i,hi,ho,h3⟩:=h.back hj
  obtain ⟨k,hk,ho',FG⟩:=h.back hj'
  refine ⟨i,k,hi,hk,fun e'=> ?_, ?_⟩
  ·subst e';omega
  ·have e1:tl g j=tl g j':=congrArg Prod.fst e
   have e2:hd g j=hd g j':=congrArg Prod.snd e
   rw [h3,FG,e1,e2]
theorem jt.Mo:CX (iq g names order)=CX g:=by
 rw [Bool.eq_iff_iff,A8 h.may',A8 h.may]
 constructor
 ·rintro ⟨r,hr⟩
  refine ⟨fun v=>r (nm names v),fun j hj=> ?_⟩
  obtain ⟨i,hi,_,h3⟩:=h.back hj
  obtain ⟨e1,e2⟩:=qc h3
  have:=hr i (by rw [h.len];exact hi)
  rwa [e1,e2] at this
 ·rintro ⟨r,hr⟩
  refine ⟨fun v=>r (dL names v),fun i hi=> ?_⟩
  rw [h.len] at hi
  obtain ⟨j,hj,_,h3⟩:=h.jz hi
  obtain ⟨e1,e2⟩:=qc h3
  have:=hr j hj
  rw [e1,e2];simp only;rw [h.inv (bS h.may hj),h.inv (cm h.may hj)]
  exact this
omit h in
theorem jf {g:Gr} {y:Int} :y∈bF (·.2) g↔(0≤y∧y<g.n)∧∀i,i<g.es.length→hd g i≠y:=by
 simp only [bF,iX,List.mem_map,List.mem_filter,List.mem_range,decide_eq_true_eq]
 have he:∀x:Nat,x<g.n.toNat→(((dm (·.2) g).getD x []).length=0↔∀i,i<g.es.length→hd g i≠(x:Int)):=by
  intro x hx
  have e:(dm (·.2) g).getD x []=bg (·.2) g.es g.es.length (x:Int):=by
   simp [dm,List.getD_eq_getElem?_getD,List.getElem?_range hx,lU]
  rw [e,List.length_eq_zero_iff]
  simp only [bg,List.map_eq_nil_iff,List.filter_eq_nil_iff,List.mem_range,decide_eq_true_eq]
  rfl
 constructor
 ·rintro ⟨x,⟨hx,h0⟩,rfl⟩
  refine ⟨by simp;omega,(he x hx).1 h0⟩
 ·rintro ⟨⟨h1,h2⟩,h3⟩
  have e:((y.toNat:Nat):Int)=y:=by omega
  exact ⟨y.toNat,⟨by omega,(he _ (by omega)).2 (by rw [e];exact h3)⟩,e⟩
omit h in
theorem nV {f:Edge→Int} {g:Gr} :(bF f g).Nodup:=by
 unfold bF iX
 refine List.Pairwise.map _ (fun a b h e=>h (Int.ofNat.inj e)) (List.Pairwise.filter _ List.nodup_range)
theorem jt.bare:(bF (·.2) (iq g names order)).length=(bF (·.2) g).length:=by
 have e1:(iq g names order).n=g.n:=rfl
 have h1:((bF (·.2) g).map (nm names)).length≤(bF (·.2) (iq g names order)).length:=by
  refine Nat.le_trans (count_le _ (bF (·.2) (iq g names order)) ?_ ?_) List.countP_le_length
  ·rw [List.nodup_iff_pairwise_ne]
   refine List.Pairwise.map _ (fun a b h=>h) ?_
   refine List.Pairwise.imp_of_mem ?_ nV
   intro a b ha hb hab e
   exact hab (h.inj (jf.1 ha).1 (jf.1 hb).1 e)
  ·intro v hv
   obtain ⟨y,hy,rfl⟩:=List.mem_map.1 hv
   obtain ⟨hy1,hy2⟩:=jf.1 hy
   refine jf.2 ⟨h.range hy1,fun i hi e=> ?_⟩
   rw [h.len] at hi
   obtain ⟨j,hj,_,h3⟩:=h.jz hi
   rw [(qc h3).2] at e
   exact hy2 j hj (h.inj (cm h.may hj) hy1 e)
 have h2:((bF (·.2) (iq g names order)).map (dL names)).length≤(bF (·.2) g).length:=by
  have hsplit:∀v∈bF (·.2) (iq g names order),∃a,(0≤a∧a<g.n)∧nm names a=v:=fun v hv=>h.of (jf.1 hv).1
  refine Nat.le_trans (count_le _ (bF (·.2) g) ?_ ?_) List.countP_le_length
  ·rw [List.nodup_iff_pairwise_ne]
   refine List.Pairwise.map _ (fun a b h=>h) ?_
   refine List.Pairwise.imp_of_mem ?_ nV
   intro a b ha hb hab e
   obtain ⟨a',LP,rfl⟩:=hsplit a ha
   obtain ⟨b',hb',rfl⟩:=hsplit b hb
   rw [h.inv LP,h.inv hb'] at e
   exact hab (by rw [e])
  ·intro v hv
   obtain ⟨y,hy,rfl⟩:=List.mem_map.1 hv
   obtain ⟨a,ha,rfl⟩:=hsplit y hy
   rw [h.inv ha]
   refine jf.2 ⟨ha,fun j hj e=> ?_⟩
   obtain ⟨i,hi,_,h3⟩:=h.back hj
   refine (jf.1 hy).2 i (by rw [h.len];exact hi) ?_
   rw [(qc h3).2,e]
 simp only [List.length_map] at h1 h2
 omega
theorem jt.kind:(b9 (iq g names order)).1=(b9 g).1:=by
 have hm:=h.may'
 have hc:(0<(jX (iq g names order)).length)↔0<(jX g).length:=by
  have key:∀g:Gr,aN g=true→((0<(jX g).length)↔CX g=false):=by
   intro g hm
   cases ho:CX g with
   |true=>rw [Gg hm ho];simp
   |false=>simp [(EI hm ho).1]
  rw [key _ hm,key _ h.may,h.Mo]
 have h1:=h.loop
 have h2:=h.J6
 have h3:=h.bare
 simp only [b9,iA,hm,h.may]
 simp only [Bool.true_eq_false,if_false,h1,h2,hc,h3]
 split
 ·rfl
 split
 ·rfl
 split
 ·rfl
 split<;>rfl
end
end Go.Ab
end
section
namespace Go.Ab
open Go.Proofs
set_option maxRecDepth 10000
def Nm:Nat→List Edge→Int→Option (Int × Int)
 |_, [],_=>none
 |m,e::N,v=>if e.1=v then some ((m:Int),e.2) else Nm (m+1) N v
def P8 (m:Nat) (N:List Edge) (t:It):It:=if 0≤t.1 then t else match Nm m N t.2.1 with
 |some (i,h)=>(i,t.2.1,h)
 |none=>t
structure Nn (g:Gr) (p:Pl):Prop where
 run:bA g p
 n:(Ex g p).n≤64
 es:(Ex g p).es.length≤128
variable {g:Gr} {p:Pl}
end Go.Ab
end
section
namespace Go.Ab
open Go.Proofs
set_option maxRecDepth 10000
variable {g:Gr} {p:Pl}
theorem A9 {p:Pl} {k:Nat} {v:Int} (hk:k≤p.ord.length) (h:v∈p.ord.take k):∃j,j<k∧az p j=v:=by
 obtain ⟨j,hj,e⟩:=List.mem_iff_getElem.1 h
 simp only [List.length_take] at hj
 refine ⟨j,by omega, ?_⟩
 rw [← e,az,List.getD_eq_getElem?_getD,List.getElem?_eq_getElem (by omega)]
 simp
end Go.Ab
end
section
namespace Go.Ab
open Go.Proofs
set_option maxRecDepth 10000
variable {g:Gr} {p:Pl}
theorem qd (hr:bA g p):bt p (az p (g.n.toNat - 1))= []∧az p (g.n.toNat - 1)∈loose (l9 g p):=by
 have hm:=au hr.1
 have hn:=aL hm
 obtain ⟨k,hk⟩:∃k,g.n.toNat=k+1:=⟨g.n.toNat - 1,by omega⟩
 obtain ⟨hi,_,_⟩:=cQ hm hr.2.1 (k:=k) (by omega) fun j hj=>hr.2.2 j (by omega)
 obtain ⟨A,X,C,hrw,_,_,_,hs⟩:=je hm hi.todY (hr.2.2 k (by omega))
 have hL:l9 g p=A++aO g (az p k) (bt p (az p k))++C:=by
  unfold l9;rw [hk]
  show (aA _ _ _ _).2.row=_
  rw [hs]
 have za:g.n.toNat - 1=k:=by omega
 rw [za]
 have lp:=z8 hr
 have hx:=aI hr.2.1 (k:=k) (by omega)
 have h0:bt p (az p k)= []:=by
  refine Decidable.byContradiction fun h0=> ?_
  have ha:aO g (az p k) (bt p (az p k))=(bt p (az p k)).map (fQ g (az p k)):=if_neg h0
  obtain ⟨i,hi'⟩:=List.exists_mem_of_ne_nil _ h0
  have h1:=lp (fQ g (az p k) i) (by rw [hL,ha];simp;exact .inr (.inl ⟨i,hi',rfl⟩))
  obtain ⟨e,rfl,_⟩:=j9 ((bC hr.2.1 hx.1 hx.2).mem_iff.1 hi')
  simp [fQ] at h1
  omega
 refine ⟨h0, ?_⟩
 have ha:aO g (az p k) (bt p (az p k))= [(-1,az p k, -1)]:=if_pos h0
 rw [hL,ha,vk,vk]
 simp [loose]
theorem mJ {f:Edge→Int} {g:Gr} {y:Int} :y∈bF f g↔(0≤y∧y<g.n)∧bg f g.es g.es.length y= []:=by
 simp only [bF,iX,List.mem_map,List.mem_filter,List.mem_range,decide_eq_true_eq]
 have he:∀x:Nat,x<g.n.toNat→(((dm f g).getD x []).length=0↔bg f g.es g.es.length (x:Int)= []):=by
  intro x hx
  have e:(dm f g).getD x []=bg f g.es g.es.length (x:Int):=by
   simp [dm,List.getD_eq_getElem?_getD,List.getElem?_range hx,lU]
  rw [e,List.length_eq_zero_iff]
 constructor
 ·rintro ⟨x,⟨hx,h0⟩,rfl⟩
  exact ⟨by simp;omega,(he x hx).1 h0⟩
 ·rintro ⟨⟨h1,h2⟩,h3⟩
  have e:((y.toNat:Nat):Int)=y:=by omega
  exact ⟨y.toNat,⟨by omega,(he _ (by omega)).2 (by rw [e];exact h3)⟩,e⟩
theorem HY {l:List Int} (hd:l.Nodup) {s:Int} (h:∀y∈l,y=s):l.length≤1:=by
 match l,hd,h with
 | [],_,_=>simp
 | [_],_,_=>simp
 |a::b::l,hd,h=>
  rw [List.nodup_cons] at hd
  exact absurd (by rw [h a (by simp),h b (by simp)];simp) hd.1
end Go.Ab
end
section
namespace Go.Ab
open Go.Proofs
set_option maxRecDepth 10000
def fE (l:List It):List It:=l.filter fun t=>decide (0≤t.1)
theorem kV {a b:List It} :fE (a++b)=fE a++fE b:=by simp [fE]
theorem gS {l:List It} {t:It} :t∈fE l↔t∈l∧0≤t.1:=by simp [fE]
theorem ru {x:Int} {l:List It} (h:fB x l):fB x (fE l):=fun t ht=>h t (gS.1 ht).1
def tP (x:Int) (l:List It):Prop:=∀t∈l,t.2.2=x
theorem kg {g:Gr} {x:Int} {o:List Int} (ho:∀i∈o,0≤i):fE (aO g x o)=o.map (fQ g x):=by
 unfold aO
 split
 ·rename_i h;subst h;rfl
 ·refine List.filter_eq_self.2 fun t ht=> ?_
  obtain ⟨i,hi,rfl⟩:=List.mem_map.1 ht
  exact decide_eq_true (ho i hi)
theorem vp {x:Int} :∀ {X Y c d:List It},tP x X→tP x Y→fB x c→fB x d→X++c=Y++d→X=Y∧c=d
 | [], [],c,d,_,_,_,_,e=>⟨rfl,e⟩
 | [],u::Y,c,d,_,hY,hc,_,e=>by
   simp only [List.nil_append] at e
   exact absurd (hY u (by simp)) (hc u (by rw [e];simp))
 |t::X, [],c,d,hX,_,_,hd,e=>by
  simp only [List.nil_append] at e
  exact absurd (hX t (by simp)) (hd t (by rw [← e];simp))
 |t::X,u::Y,c,d,hX,hY,hc,hd,e=>by
  simp only [List.cons_append,List.cons.injEq] at e
  obtain ⟨e1,e2⟩:=vp (fun s hs=>hX s (by simp [hs])) (fun s hs=>hY s (by simp [hs])) hc hd e.2
  exact ⟨by rw [e.1,e1],e2⟩
theorem yT {x:Int} :∀ {a b X Y c d:List It},fB x a→fB x b→tP x X→tP x Y→fB x c→fB x d→X≠ []→Y≠ []→a++X++c=b++Y++d→a=b∧X=Y∧c=d
 |t::a, [],X,u::Y,c,d,ha,_,_,hY,_,_,_,_,e=>by
  simp only [List.cons_append,List.nil_append,List.cons.injEq] at e
  exact absurd (by rw [e.1];exact hY u (by simp)) (ha t (by simp))
 | [],t::b,u::X,Y,c,d,_,hb,hX,_,_,_,_,_,e=>by
   simp only [List.cons_append,List.nil_append,List.cons.injEq] at e
   exact absurd (by rw [← e.1];exact hX u (by simp)) (hb t (by simp))
 |t::a,u::b,X,Y,c,d,ha,hb,hX,hY,hc,hd,nX,nY,e=>by
  simp only [List.cons_append,List.cons.injEq] at e
  obtain ⟨e1,e2,e3⟩:=yT (fun s hs=>ha s (by simp [hs])) (fun s hs=>hb s (by simp [hs])) hX hY hc hd nX nY e.2
  exact ⟨by rw [e.1,e1],e2,e3⟩
 | [], [],X,Y,c,d,_,_,hX,hY,hc,hd,_,_,e=>by
   refine ⟨rfl, ?_⟩
   simp only [List.nil_append] at e
   exact vp hX hY hc hd e
 | [],_::_, [],_,_,_,_,_,_,_,_,_,h,_,_=>absurd rfl h
 |_::_, [],_, [],_,_,_,_,_,_,_,_,_,h,_=>absurd rfl h
theorem EJ {g:Gr} (hm:aN g=true) {f:Fr} (hi:dY g f) {x:Int} (hR:aq g f x=true) (hn:bh g x≠0):
 ∃a X c,fE f.row=a++X++c∧fB x a∧fB x c∧tP x X∧X.length=bh g x∧∀o,fE (aA g f x o).2.row=a++fE (aO g x o)++c:=by
 obtain ⟨A,X,C,hr,hA,hC,hX,cX⟩:=cq hm hi hR hn
 have hx:=(aC hR).1
 have hmem:∀t∈X,t∈f.row:=fun t ht=>by rw [hr];simp [ht]
 have hiff:∀t∈X,(0≤t.1↔t.2.2=x):=fun t ht=>by
  have h1:=(hi.it t (hmem t ht)).head hm
  have h2:=hX.al t ht
  omega
 refine ⟨fE A,fE X,fE C,by rw [hr,kV,kV],ru hA,ru hC,fun t ht=> ?_, ?_,fun o=> ?_⟩
 ·obtain ⟨h1,h2⟩:=gS.1 ht
  exact (hiff t h1).1 h2
 ·rw [← cX,fE, ← List.countP_eq_length_filter]
  refine List.countP_congr fun t ht=> ?_
  simp only [lu,decide_eq_true_eq]
  exact hiff t ht
 ·rw [iI o hr hA hC hX]
  simp only [kV]
theorem Ba {g:Gr} (hm:aN g=true) {f:Fr} (hi:dY g f) {x:Int} (hR:aq g f x=true) (hn:bh g x≠0) {a X c:List It} (e:fE f.row=a++X++c) (ha:fB x a) (hc:fB x c) (hX:tP x X) (nX:X≠ []) (o:List Int):
 fE (aA g f x o).2.row=a++fE (aO g x o)++c:=by
 obtain ⟨b,Y,d,e',hb,hd,hY,lY,hs⟩:=EJ hm hi hR hn
 have nY:Y≠ []:=fun h=>hn (by rw [← lY,h];rfl)
 obtain ⟨e1,_,e3⟩:=yT hb ha hY hX hd hc nY nX (e'.symm.trans e)
 rw [hs o,e1,e3]
theorem yU {g:Gr} (hm:aN g=true) {f:Fr} (hi:dY g f) {x:Int} (h0:0≤x) (h1:x<g.n) (hp:x∉f.pl) {a X c:List It} (e:fE f.row=a++X++c) (ha:fB x a) (hc:fB x c) (hX:tP x X) (nX:X≠ []) (hl:X.length=bh g x):aq g f x=true:=by
 have hmem:∀j,j<f.row.length→Cj g (f.row.getD j (0,0,0)):=fun j hj=>hi.it _ (bz hj)
 have BK:f.row.countP (lu x)=X.length:=by
  have h2:f.row.countP (lu x)=(fE f.row).countP (lu x):=by
   rw [fE,List.countP_filter]
   refine List.countP_congr fun t ht=> ?_
   have:=(hi.it t ht).head hm
   simp only [lu,Bool.and_eq_true,decide_eq_true_eq]
   omega
  have c1:a.countP (lu x)=0:=List.countP_eq_zero.2 fun t ht=>by simp [lu,ha t ht]
  have c2:c.countP (lu x)=0:=List.countP_eq_zero.2 fun t ht=>by simp [lu,hc t ht]
  have c3:X.countP (lu x)=X.length:=List.countP_eq_length.2 fun t ht=>by simp [lu,hX t ht]
  rw [h2,e,List.countP_append,List.countP_append,c1,c2,c3]
  omega
 rw [← gX hm hi,eA,if_neg (by rintro (h|h|h);omega;omega;exact hp h),gM h0 h1,Bool.and_eq_true,decide_eq_true_eq]
 have hN:(bg (fun e=>e.2) g.es g.es.length x).length=bh g x:=rfl
 rw [hN]
 refine ⟨?_, ?_⟩
 ·unfold aW
  rw [j7,kS (Nat.le_refl _),List.take_length,BK,hl]
 ·rw [Bool.or_eq_true];right
  rcases dc (row:=f.row) (x:=x) f.row.length with ⟨hs,hno⟩|⟨p,q,n,hs,hab,jM,hc0,dW,hpx,Mp,hlo,hhi⟩
  ·have hs':aW f.row x=(-1,0,0):=hs
   rw [hs'];simp [qB]
  ·have hs':aW f.row x=((p:Int),(q:Int),(n:Int)):=hs
   rw [hs']
   simp only [Int.toNat_natCast,qB,Bool.not_eq_true']
   rw [← Bool.not_eq_true,vg jM]
   rintro ⟨j,h2,h3,h4⟩
   simp only [kQ,Bool.and_eq_true,decide_eq_true_eq] at h4
   have hja:p<j:=by
    refine Nat.lt_of_le_of_ne h2 fun e=> ?_
    subst e;exact h4.1 hpx
   have hjb:j<q - 1:=by
    refine Nat.lt_of_le_of_ne (by omega) fun e=> ?_
    subst e;exact h4.1 Mp
   have hsub:=((tG (i:=j+1) (j:=q - 1) (tG (i:=p+1) (j:=j) (tG (i:=0) (j:=p) (List.nil_sublist _) (by omega) (by omega)) (by omega) (by omega)) (by omega) (by omega)).trans (List.take_sublist _ f.row)).filter fun t=>decide (0≤t.1)
   have hp1:=(hmem p (by omega)).head hm
   have Mj:=(hmem j (by omega)).head hm
   have hq1:=(hmem (q - 1) (by omega)).head hm
   generalize f.row.getD p (0,0,0)=s1 at hsub hp1 hpx
   generalize f.row.getD j (0,0,0)=s2 at hsub Mj h4
   generalize f.row.getD (q - 1) (0,0,0)=s3 at hsub hq1 Mp
   have hf:([]++ [s1]++ [s2]++ [s3]).filter (fun t=>decide (0≤t.1))= [s1,s2,s3]:=List.filter_eq_self.2 fun t ht=>by
    simp only [List.nil_append,List.cons_append,List.mem_cons,List.not_mem_nil,or_false] at ht
    rcases ht with rfl|rfl|rfl
    ·exact decide_eq_true (hp1.1.2 (by omega))
    ·exact decide_eq_true (Mj.1.2 h4.2)
    ·exact decide_eq_true (hq1.1.2 (by omega))
   rw [hf] at hsub
   have hsub: [s1,s2,s3].Sublist (a++(X++c)):=by rw [← List.append_assoc, ← e];exact hsub
   rw [List.sublist_append_iff] at hsub
   obtain ⟨l1,l',el,k1,k'⟩:=hsub
   rw [List.sublist_append_iff] at k'
   obtain ⟨l2,l3,rfl,k2,k3⟩:=k'
   match l1,el,k1 with
   |t::l1,el,k1=>
    simp only [List.cons_append,List.cons.injEq] at el
    exact ha t (k1.subset (by simp)) (by rw [← el.1];exact hpx)
   | [],el,_=>
     match l2,el,k2 with
     | [],el,_=>
       simp only [List.nil_append] at el
       exact hc s1 (k3.subset (by rw [← el];simp)) hpx
     | [t],el,_=>
       simp only [List.nil_append,List.cons_append,List.cons.injEq] at el
       exact hc s3 (k3.subset (by rw [← el.2];simp)) Mp
     |t::u::l2,el,k2=>
      simp only [List.nil_append,List.cons_append,List.cons.injEq] at el
      exact h4.1 (by rw [el.2.1];exact hX u (k2.subset (by simp)))
end Go.Ab
end
section
namespace Go.Ab
open Go.Proofs
set_option maxRecDepth 10000
def J7 (gone:List Int) (i:Nat):Bool:= !decide ((i:Int)∈gone)
def Il (gone:List Int) (k:Nat):List Nat:=(List.range k).filter (J7 gone)
def OW (gone:List Int) (k:Nat):Nat:=(Il gone k).length
def Mq (gone:List Int) (es:List Edge) (k:Nat):List Edge:=(Il gone k).map fun i=>es.getD i (0,0)
def OX (g:Gr) (gone:List Int):Gr:=⟨g.n,Mq gone g.es g.es.length⟩
def No (gone:List Int) (i:Int):Int:=if i∈gone then -1 else (OW gone i.toNat:Int)
def Mr (gone:List Int) (l:List Int):List Int:=(l.filter fun i=>decide (i∉gone)).map (No gone)
def OY (p:Pl) (gone:List Int):Pl:=⟨p.ord,p.outs.map (Mr gone)⟩
variable {g:Gr} {p:Pl} {gone:List Int}
def OZ (gone:List Int) (t:It):It:=(No gone t.1,t.2.1,t.2.2)
def O0 (gone:List Int) (l:List It):List It:=(l.filter fun t=>decide (t.1∉gone)).map (OZ gone)
theorem cJ (hr:bA g p):bh g (az p 0)=0:=by
 have hm:=au hr.1
 have hn:=aL hm
 refine Decidable.byContradiction fun hnz=> ?_
 obtain ⟨A,X,C,hrw,_,_,hX,_⟩:=cq hm (xe g).todY (hr.2.2 0 (by omega)) hnz
 obtain ⟨q,X0,e1,_⟩:=hX.fst
 rw [e1] at hrw
 simp at hrw
end Go.Ab
end
section
namespace Go.Ab
open Go.Proofs
set_option maxRecDepth 10000
theorem ry {g:Gr} (hm:aN g=true) {f:Fr} (hi:dY g f) {x:Int} (hR:aq g f x=true) (hn:bh g x≠0) (o:List Int):
 ∃a c,fE f.row=a++fE (aA g f x o).1.1++c∧fB x a∧fB x c∧tP x (fE (aA g f x o).1.1)∧(fE (aA g f x o).1.1).length=bh g x∧fE (aA g f x o).2.row=a++fE (aO g x o)++c:=by
 obtain ⟨A,X,C,hr,hA,hC,hX,hc⟩:=cq hm hi hR hn
 have hx:=(aC hR).1
 have hmem:∀t∈X,t∈f.row:=fun t ht=>by rw [hr];simp [ht]
 have hiff:∀t∈X,(0≤t.1↔t.2.2=x):=fun t ht=>by
  have h1:=(hi.it t (hmem t ht)).head hm
  have h2:=hX.al t ht
  constructor
  ·intro h;rcases h2 with h2|h2
   ·exact h2
   ·exact absurd h2 (h1.1.1 h)
  ·intro h;exact h1.1.2 (by omega)
 rw [iI o hr hA hC hX]
 refine ⟨fE A,fE C,by rw [hr,kV,kV],ru hA,ru hC,fun t ht=> ?_, ?_,by simp only [kV]⟩
 ·obtain ⟨h1,h2⟩:=gS.1 ht
  exact (hiff t h1).1 h2
 ·rw [← hc,fE, ← List.countP_eq_length_filter]
  refine List.countP_congr fun t ht=> ?_
  simp only [lu,decide_eq_true_eq]
  exact hiff t ht
def cG (g:Gr) (p:Pl) (x:Int):List Int:=(fE ((eP g p g.n.toNat).getD x.toNat [])).map (·.1)
def mQ (g:Gr) (p:Pl) (f:Fr) (x:Int):List Int:=(fE (aA g f x (bt p x)).1.1).map (·.1)
def ng (g:Gr) (p:Pl):Nat→Fr→Prop
 |0,f=>(f.pl.length:Int)=g.n
 |m+1,f=>∃x,aq g f x=true∧mQ g p f x=cG g p x∧ng g p m (o6 g p f x)
theorem tQ {g:Gr} {p:Pl} :∀ {m:Nat} {f f':Fr},f.row=f'.row→f.pl.Perm f'.pl→ng g p m f→ng g p m f'
 |0,f,f',_,hp,h=>by
  have h:(f.pl.length:Int)=g.n:=h
  show (f'.pl.length:Int)=g.n
  rw [← hp.length_eq];exact h
 |m+1,f,f',hr,hp,⟨x,h1,h3,h2⟩=>by
  refine ⟨x,by rw [← qD hr hp];exact h1, ?_,tQ ?_ ?_ h2⟩
  ·simp only [mQ,aA,hr] at h3 ⊢;exact h3
  ·simp only [o6,aA,hr]
  ·exact hp.append_right _
theorem mK {g:Gr} (hc:(b9 g).1=0) {p:Pl} (hp:bp g p):∀ {m:Nat} {f:Fr},uh g f→(f.pl.length:Int)+(m+1:Nat)=g.n→ng g p (m+1) f→∀ {x:Int},aq g f x=true→mQ g p f x=cG g p x∧ng g p m (o6 g p f x)
 |m,f,hi,hl,⟨y,qP,KJ,hcan⟩,x,hR=>by
  have hm:=au hc
  by_cases hxy:x=y
  ·subst hxy;exact ⟨KJ,hcan⟩
  have py:=bC hp (aC qP).1 (aC qP).2.1
  have px:=bC hp (aC hR).1 (aC hR).2.1
  have i2:=gY hm hi qP py
  match m,hl,hcan with
  |0,hl,hcan=>
   exfalso
   have h1:=gN i2.todY (by show ((f.pl++ [y]).length:Int)=g.n;simp;omega) (x:=x) ⟨(aC hR).1,(aC hR).2.1⟩
   have h2:x∈f.pl++ [y]:=h1
   simp [(aC hR).2.2,hxy] at h2
  |m+1,hl,hcan=>
   obtain ⟨h4,h5,h6,h7,h8⟩:=vh hc hi hxy hR qP px py
   obtain ⟨h9,h3⟩:=mK hc hp i2 (by show (((f.pl++ [y]).length:Nat):Int)+_=_;simp;omega) hcan h5
   refine ⟨?_,y,h4, ?_,tQ h6.symm ?_ h3⟩
   ·unfold mQ at h9 ⊢;rw [h7];exact h9
   ·unfold mQ at KJ ⊢;rw [h8] at KJ;exact KJ
   show (f.pl++ [y]++ [x]).Perm (f.pl++ [x]++ [y])
   rw [List.append_assoc,List.append_assoc]
   exact List.Perm.append_left _ (List.Perm.swap ..)
theorem qe {g:Gr} {p:Pl} (h:bA g p):∀ {d k:Nat},k+d=g.n.toNat→ng g p d (fK g p k)
 |0,k,hk=>by
  have hn:=aL (au h.1)
  obtain ⟨_,fG,_⟩:=cQ (au h.1) h.2.1 (k:=k) (by omega) fun j hj=>h.2.2 j (by omega)
  show ((fK g p k).pl.length:Int)=g.n
  rw [fG,List.length_take,bY h.2.1];omega
 |d+1,k,hk=>⟨az p k,h.2.2 k (by omega),by
   unfold cG
   rw [o4 h.2.1 (Nat.le_refl _) (show k<g.n.toNat by omega)]
   rfl,qe h (k:=k+1) (by omega)⟩
theorem Bb {g:Gr} (hc:(b9 g).1=0) {p:Pl} (hp:bp g p):∀ {m:Nat} {f:Fr},uh g f→ng g p m f→∀ {i:Nat},i<g.es.length→tl g i∈f.pl→hd g i∉f.pl→∃t∈f.row,t.1=(i:Int)
 |0,f,hi,h,i,hil,_,hh=>by
  have hr:=cm (au hc) hil
  exact absurd (gN hi.todY h (x:=hd g i) hr) hh
 |m+1,f,hi,⟨x,hR,_,h⟩,i,hil,ht,hh=>by
  have hm:=au hc
  have px:=bC hp (aC hR).1 (aC hR).2.1
  by_cases hx:hd g i=x
  ·obtain ⟨t,h1,h2,_⟩:=xg hm hi hR hil hx
   exact ⟨t,h1,h2⟩
  ·obtain ⟨t,h1,h2⟩:=Bb hc hp (gY hm hi hR px) h hil (List.mem_append.2 (.inl ht)) (fun h1=>by
    rcases List.mem_append.1 h1 with h1|h1
    ·exact hh h1
    ·exact hx (by simpa using h1))
   obtain ⟨A,X,C,hr,_,_,_,hs⟩:=je hm hi.todY hR
   rw [hs] at h1
   simp only [List.mem_append] at h1
   rcases h1 with (h1|h1)|h1
   ·exact ⟨t,by rw [hr];simp [h1],h2⟩
   ·rcases ke (fun i hi=>px.mem_iff.1 hi) h1 with ⟨h3,_⟩|⟨k,h3,h4,h5,_,h6,_⟩
    ·omega
    ·have:k=i:=by omega
     subst this
     exact absurd (h6 ▸ ht) (aC hR).2.2
   ·exact ⟨t,by rw [hr];simp [h1],h2⟩
def qF (g:Gr) (e:Int):Int:=(g.es.getD e.toNat (0,0)).1
def CY (g:Gr) (e:Int):Int:=(g.es.getD e.toNat (0,0)).2
def ji (g:Gr) (x:Int):Prop:=0≤x∧x<g.n
instance {g:Gr} {x:Int} :Decidable (ji g x):=inferInstanceAs (Decidable (0≤x∧x<g.n))
def me (g:Gr) (p:Pl) (k:Nat) (W D:List Int):Prop:=∃f,uh g f∧f.pl=D∧W=(fE f.row).map (·.1)∧ng g p k f∧(D.length:Int)+k=g.n∧az p 0∈D
def EK (g:Gr) (p:Pl) (x:Int):Nat:=((yA g.n.toNat p.ord p.ord.length).getD x.toNat 0).toNat
def aZ (g:Gr) (p:Pl):PS:=
 {m:=g.es.length,src:=az p 0,HG:=az p (g.n.toNat - 1),tl:=qF g,hd:=CY g,ins:=fun x=>if ji g x then cG g p x else [],outs:=fun x=>if ji g x then bt p x else [],Fi:=EK g p,Row:=me g p,k0:=g.n.toNat - 1}
theorem fF {g:Gr} {p:Pl} {x:Int} (h:ji g x):(aZ g p).ins x=cG g p x:=if_pos h
theorem ju {g:Gr} {p:Pl} {x:Int} (h:¬ji g x):(aZ g p).ins x= []:=if_neg h
theorem dr {g:Gr} {p:Pl} {x:Int} (h:ji g x):(aZ g p).outs x=bt p x:=if_pos h
theorem ki {g:Gr} {p:Pl} {x:Int} (h:¬ji g x):(aZ g p).outs x= []:=if_neg h
theorem cB {f:Edge→Int} {es:List Edge} {x e:Int} :e∈bg f es es.length x↔(0≤e∧e<es.length)∧f (es.getD e.toNat (0,0))=x:=by
 refine ⟨fR,fun ⟨h1,h2⟩=> ?_⟩
 simp only [bg,List.mem_map,List.mem_filter,List.mem_range,decide_eq_true_eq]
 exact ⟨e.toNat,⟨by omega,h2⟩,by simp;omega⟩
section
variable {g:Gr} {p:Pl}
theorem Bc (hm:aN g=true) (hp:bp g p) {k:Nat} (hk:k<g.n.toNat):EK g p (az p k)=k:=by
 have hE:=((AZ hm).2 hp).1
 have:=w6 hE (p:=k) (k:=p.ord.length) (by rw [bY hp];exact hk) (Nat.le_refl _)
 unfold EK
 show ((yA _ _ _).getD (p.ord.getD k 0).toNat 0).toNat=k
 rw [this];simp
theorem qf (h:bA g p) {e:Int} (he:0≤e∧e<g.es.length) {k:Nat} (hk:k<g.n.toNat) (hx:CY g e=az p k):∃j,j<k∧az p j=qF g e:=by
 have hm:=au h.1
 obtain ⟨hi,fG,_⟩:=cQ hm h.2.1 (k:=k) (by omega) fun j hj=>h.2.2 j (by omega)
 obtain ⟨t,h1,h2,h3,_⟩:=xg hm hi (h.2.2 k hk) (i:=e.toNat) (by omega) hx
 have h4:=hi.tail t h1 (by omega)
 rw [h3,fG] at h4
 exact A9 (by rw [bY h.2.1];omega) h4
theorem mL (hm:aN g=true) {f:Fr} (hi:dY g f) {t:It} (ht:t∈fE f.row):(0≤t.1∧t.1<g.es.length)∧t.2.1=qF g t.1∧t.2.2=CY g t.1:=by
 obtain ⟨h1,h2⟩:=gS.1 ht
 rcases hi.it t h1 with h3|h3
 ·omega
 ·exact ⟨⟨h3.1,h3.2.1⟩,h3.2.2.1,h3.2.2.2⟩
theorem Bd {f:Fr} (hi:uh g f):((fE f.row).map (·.1)).Nodup:=by
 refine List.pairwise_map.2 ?_
 have:=hi.once.filter (fun t:It=>decide (0≤t.1))
 refine List.Pairwise.imp_of_mem (fun {s t} hs ht h1=>h1 (gS.1 hs).2) this
theorem Gh (hm:aN g=true) {f:Fr} (hi:uh g f) {x:Int} (hR:aq g f x=true):(mQ g p f x).Nodup∧∀e,e∈mQ g p f x↔(0≤e∧e<g.es.length)∧CY g e=x:=by
 by_cases hn:bh g x=0
 ·have hno:=tF hm hi.todY (aC hR).1 hn
  have e0:mQ g p f x= []:=by unfold mQ;rw [iR _ hno];rfl
  rw [e0]
  refine ⟨List.nodup_nil,fun e=>⟨fun h=>by (cases h),fun ⟨h1,h2⟩=> ?_⟩⟩
  have:=cB.2 ⟨h1,h2⟩
  have h3:bg (·.2) g.es g.es.length x= []:=List.eq_nil_of_length_eq_zero hn
  rw [h3] at this;cases this
 ·obtain ⟨a,c,e1,ha,hc,hX,hl,_⟩:=ry hm hi.todY hR hn (bt p x)
  have bT:=Bd hi
  have hmem:∀t∈fE (aA g f x (bt p x)).1.1,t∈fE f.row:=fun t ht=>by rw [e1];simp [ht]
  rw [e1,List.map_append,List.map_append,List.nodup_append] at bT
  have Np:(mQ g p f x).Nodup:=(List.nodup_append.1 bT.1).2.1
  have hsub:∀e∈mQ g p f x,e∈bg (·.2) g.es g.es.length x:=fun e he=>by
   obtain ⟨t,ht,rfl⟩:=List.mem_map.1 he
   obtain ⟨h1,_,h3⟩:=mL hm hi.todY (hmem t ht)
   exact cB.2 ⟨h1,by rw [← hX t ht,h3];rfl⟩
  have hlen:(bg (·.2) g.es g.es.length x).length=(mQ g p f x).length:=by
   unfold mQ;rw [List.length_map,hl];rfl
  exact ⟨Np,fun e=>⟨fun he=>cB.1 (hsub e he),fun he=>xd Np hsub hlen e (cB.2 he)⟩⟩
theorem rz (h:bA g p) {k:Nat} (hk:k<g.n.toNat):cG g p (az p k)=mQ g p (fK g p k) (az p k):=by
 unfold cG
 rw [o4 h.2.1 (Nat.le_refl _) hk];rfl
theorem kj (h:bA g p) {x:Int} (hx:ji g x):(cG g p x).Nodup∧∀e,e∈cG g p x↔(0≤e∧e<g.es.length)∧CY g e=x:=by
 obtain ⟨k,hk,rfl⟩:=ec h.2.1 hx.1 hx.2
 have hm:=au h.1
 obtain ⟨hi,_,_⟩:=cQ hm h.2.1 (k:=k) (by omega) fun j hj=>h.2.2 j (by omega)
 rw [rz h hk]
 exact Gh hm hi (h.2.2 k hk)
theorem gm (h:bA g p) {x:Int} (hx:ji g x):(cG g p x).length=bh g x:=by
 obtain ⟨h1,h2⟩:=kj h hx
 refine Nat.le_antisymm ?_ ?_
 ·exact fJ h1 fun e he=>cB.2 ((h2 e).1 he)
 ·exact fJ de fun e he=>(h2 e).2 (cB.1 he)
theorem dI (h:bA g p) (hI:kz g=true) {x:Int} (hx:ji g x):bt p x= []↔x=az p (g.n.toNat - 1):=by
 have hm:=au h.1
 have hn:=aL hm
 constructor
 ·intro h1
  have hs:=(qd h).1
  have hsi:=aI h.2.1 (k:=g.n.toNat - 1) (by omega)
  have b1:=mJ (f:=(·.1)) (g:=g) (y:=x) |>.2 ⟨hx,(o7 h.2.1 hx.1 hx.2).2 h1⟩
  have b2:=mJ (f:=(·.1)) (g:=g) (y:=az p (g.n.toNat - 1)) |>.2 ⟨hsi,(o7 h.2.1 hsi.1 hsi.2).2 hs⟩
  have hl:(bF (·.1) g).length=1:=by
   unfold kz at hI
   simp only [Bool.and_eq_true,decide_eq_true_eq] at hI
   exact hI.2
  obtain ⟨y,hy⟩:=List.length_eq_one_iff.1 hl
  rw [hy,List.mem_singleton] at b1 b2
  rw [b1,b2]
 ·rintro rfl;exact (qd h).1
theorem vq (h:bA g p) (hI:kz g=true) {f:Fr} (hi:uh g f):∀ {d k:Nat},k+d=g.n.toNat→k<g.n.toNat→az p k∉f.pl→az p (g.n.toNat - 1)∉f.pl
 |0,k,h1,h2,_=>by omega
 |d+1,k,h1,h2,h3=>by
  have hm:=au h.1
  have hx:=aI h.2.1 h2
  by_cases hs:bt p (az p k)= []
  ·rw [(dI h hI hx).1 hs] at h3;exact h3
  ·obtain ⟨e,u,he⟩:=dX hs
   have uf:e∈bE g (az p k):=(bC h.2.1 hx.1 hx.2).mem_iff.1 (by rw [he];simp)
   obtain ⟨om,xE⟩:=cB.1 uf
   have hh:=cm hm (i:=e.toNat) (by omega)
   obtain ⟨k',hk',e'⟩:=ec h.2.1 hh.1 hh.2
   obtain ⟨j,hj,e2⟩:=qf h om hk' e'.symm
   have:j=k:=cP h.2.1 (by omega) h2 (e2.trans xE)
   refine vq h hI hi (d:=g.n.toNat - k') (k:=k') (by omega) hk' fun h4=> ?_
   have:=hi.low e.toNat (by omega) (e' ▸ h4)
   have h5:tl g e.toNat=az p k:=xE
   exact h3 (h5 ▸ this)
 termination_by d=>d
theorem me.nd {k:Nat} {W D:List Int} (h:me g p k W D):W.Nodup:=by
 obtain ⟨f,hi,_,rfl,_⟩:=h;exact Bd hi
theorem me.mem (h:bA g p) {k:Nat} {W D:List Int} (hr:me g p k W D) (e:Int):e∈W↔(0≤e∧e<g.es.length)∧qF g e∈D∧CY g e∉D:=by
 have hm:=au h.1
 obtain ⟨f,hi,rfl,rfl,hc,_⟩:=hr
 constructor
 ·intro he
  obtain ⟨t,ht,rfl⟩:=List.mem_map.1 he
  obtain ⟨h1,h2,h3⟩:=mL hm hi.todY ht
  obtain ⟨h4,h5⟩:=gS.1 ht
  exact ⟨h1,h2 ▸ hi.tail t h4 h5,h3 ▸ hi.head t h4 h5⟩
 ·rintro ⟨h1,h2,h3⟩
  obtain ⟨t,h4,h5⟩:=Bb h.1 h.2.1 hi hc (i:=e.toNat) (by omega) h2 h3
  exact List.mem_map.2 ⟨t,gS.2 ⟨h4,by omega⟩,by omega⟩
theorem me.next (h:bA g p) {k:Nat} {W D:List Int} (hr:me g p (k+1) W D):∃x A C,W=A++(aZ g p).ins x++C∧(aZ g p).ins x≠ []:=by
 have hm:=au h.1
 obtain ⟨f,hi,rfl,rfl,⟨x,hR,hg,_⟩,_,hs⟩:=hr
 obtain ⟨x0,x1,x2⟩:=aC hR
 have hx:ji g x:=⟨x0,x1⟩
 have hn:bh g x≠0:=fun h0=>by
  have:=gl h.1 (x:=x) (y:=az p 0) hx (hi.Ep _ hs) h0 (cJ h)
  exact x2 (this ▸ hs)
 obtain ⟨a,c,e1,_,_,_,hl,_⟩:=ry hm hi.todY hR hn (bt p x)
 refine ⟨x,a.map (·.1),c.map (·.1), ?_, ?_⟩
 ·rw [fF hx, ← hg,e1,List.map_append,List.map_append];rfl
 ·rw [fF hx]
  intro h0
  have:=gm h hx
  rw [h0] at this
  exact hn this.symm
theorem me.step (h:bA g p) {k:Nat} {W D A C:List Int} {x:Int} (hr:me g p k W D) (hW:W=A++(aZ g p).ins x++C) (hI:(aZ g p).ins x≠ []):∃k',k=k'+1∧me g p k' (A++(aZ g p).outs x++C) (D++ [x]):=by
 have hm:=au h.1
 have hx:ji g x:=Decidable.byContradiction fun h0=>hI (ju h0)
 have bT:=hr.nd
 have hmem:=me.mem h hr
 rw [fF hx] at hW hI
 rw [dr hx]
 obtain ⟨i1,i2⟩:=kj h hx
 obtain ⟨e0,u0,F7⟩:=dX hI
 have CV:x∉D:=by
  have h1:=(i2 e0).1 (by rw [F7];simp)
  have h2:=(hmem e0).1 (by rw [hW,F7];simp)
  rw [h1.2] at h2;exact h2.2.2
 obtain ⟨f,hi,rfl,O2,hc,hD,hs⟩:=hr
 rw [O2] at hW bT
 obtain ⟨l1,c,e1,e2,e3⟩:=List.map_eq_append_iff.1 hW
 obtain ⟨a,X,e4,e5,e6⟩:=List.map_eq_append_iff.1 e2
 have hrow:fE f.row=a++X++c:=by rw [e1,e4]
 rw [hrow,List.map_append,List.map_append,e5,e6,e3] at bT
 have hit:∀t∈a++X++c,(0≤t.1∧t.1<g.es.length)∧t.2.1=qF g t.1∧t.2.2=CY g t.1:=fun t ht=>mL hm hi.todY (by rw [hrow];exact ht)
 have hX:tP x X:=fun t ht=>by
  have h1:t.1∈cG g p x:=by rw [← e6];exact List.mem_map_of_mem ht
  rw [(hit t (by simp [ht])).2.2,((i2 _).1 h1).2]
 have hin:∀t∈a++X++c,t.2.2=x→t.1∈cG g p x:=fun t ht e=>by
  obtain ⟨h1,_,h3⟩:=hit t ht
  exact (i2 _).2 ⟨h1,by rw [← h3,e]⟩
 have ha:fB x a:=fun t ht e=>by
  have h1:=hin t (by simp [ht]) e
  have h2:t.1∈A:=by rw [← e5];exact List.mem_map_of_mem ht
  exact (List.nodup_append.1 (List.nodup_append.1 bT).1).2.2 _ h2 _ h1 rfl
 have GS:fB x c:=fun t ht e=>by
  have h1:=hin t (by simp [ht]) e
  have h2:t.1∈C:=by rw [← e3];exact List.mem_map_of_mem ht
  exact (List.nodup_append.1 bT).2.2 _ (List.mem_append.2 (.inr h1)) _ h2 rfl
 have Iz:X.length=bh g x:=by rw [← gm h hx, ← e6,List.length_map]
 have nX:X≠ []:=fun h0=>hI (by rw [← e6,h0];rfl)
 have hR:=yU hm hi.todY hx.1 hx.2 CV hrow ha GS hX nX Iz
 have hn:bh g x≠0:=fun h0=>nX (List.eq_nil_of_length_eq_zero (Iz.trans h0))
 have px:=bC h.2.1 hx.1 hx.2
 cases k with
 |zero=>exact absurd (gN hi.todY (by omega) hx) CV
 |succ k=>
  refine ⟨k,rfl,o6 g p f x,gY hm hi hR px,rfl, ?_,(mK h.1 h.2.1 hi (by omega) hc hR).2, ?_,List.mem_append.2 (.inl hs)⟩
  ·have:=Ba hm hi.todY hR hn hrow ha GS hX nX (bt p x)
   show _=(fE (aA g f x (bt p x)).2.row).map (·.1)
   rw [this,List.map_append,List.map_append,e5,e3,kg (fun i hi=>by
    have:=cB.1 (px.mem_iff.1 hi);exact this.1.1),List.map_map]
   have e7:((fun t:It=>t.1) ∘ fQ g x)=id:=rfl
   rw [e7,List.map_id]
  ·show (((f.pl++ [x]).length:Nat):Int)+_=_
   rw [List.length_append,List.length_singleton];omega
theorem Cx (h:bA g p):me g p (g.n.toNat - 1) (bt p (az p 0)) [az p 0]:=by
 have hm:=au h.1
 have hn:=aL hm
 have hx:=aI h.2.1 (k:=0) (by omega)
 obtain ⟨hi,fG,_⟩:=cQ hm h.2.1 (k:=1) (by omega) fun j hj=>h.2.2 j (by omega)
 have px:=bC h.2.1 hx.1 hx.2
 have hno:fB (az p 0) (fK g p 0).row:=fun t ht=>by cases ht
 have hf:fK g p 1=⟨aO g (az p 0) (bt p (az p 0)), [az p 0]⟩:=by
  show (aA g (fK g p 0) (az p 0) _).2=_
  rw [iR _ hno]
  show (⟨_++ [], []++ [_]⟩:Fr)=_
  simp
 refine ⟨fK g p 1,hi,by rw [hf], ?_,qe h (by omega),by simp;omega,by simp⟩
 rw [hf]
 show _=(fE (aO g (az p 0) (bt p (az p 0)))).map (·.1)
 rw [kg (fun i hi=>(cB.1 (px.mem_iff.1 hi)).1.1),List.map_map]
 have e7:((fun t:It=>t.1) ∘ fQ g (az p 0))=id:=rfl
 rw [e7,List.map_id]
theorem nh (h:bA g p) (hI:kz g=true):(aZ g p).Ok:=by
 have hm:=au h.1
 have hn:=aL hm
 have h0:ji g (az p 0):=aI h.2.1 (by omega)
 exact {
  bR:=fun x e=>by
   show _↔(0≤e∧e<g.es.length)∧qF g e=x
   by_cases hx:ji g x
   ·rw [dr hx,(bC h.2.1 hx.1 hx.2).mem_iff];exact cB
   ·rw [ki hx]
    refine ⟨fun h=>by (cases h),fun ⟨h1,h2⟩=>absurd ?_ hx⟩
    rw [← h2];exact bS hm (i:=e.toNat) (by omega)
  cD:=fun x e=>by
   show _↔(0≤e∧e<g.es.length)∧CY g e=x
   by_cases hx:ji g x
   ·rw [fF hx];exact (kj h hx).2 e
   ·rw [ju hx]
    refine ⟨fun h=>by (cases h),fun ⟨h1,h2⟩=>absurd ?_ hx⟩
    rw [← h2];exact cm hm (i:=e.toNat) (by omega)
  oN:=fun x=>by
   by_cases hx:ji g x
   ·rw [dr hx,(bC h.2.1 hx.1 hx.2).nodup_iff];exact de
   ·rw [ki hx];exact List.nodup_nil
  zK:=fun x=>by
   by_cases hx:ji g x
   ·rw [fF hx];exact (kj h hx).1
   ·rw [ju hx];exact List.nodup_nil
  pM:=fun e he=>by
   have he:0≤e∧e<g.es.length:=he
   have hh:=cm hm (i:=e.toNat) (by omega)
   obtain ⟨k,hk,e1⟩:=ec h.2.1 hh.1 hh.2
   obtain ⟨j,hj,e2⟩:=qf h he hk e1.symm
   show EK g p (qF g e)<EK g p (CY g e)
   have e3:CY g e=az p k:=e1.symm
   rw [← e2,e3,Bc hm h.2.1 hk,Bc hm h.2.1 (by omega)]
   exact hj
  FX:=by
   show me g p (g.n.toNat - 1) ((aZ g p).outs (az p 0)) [az p 0]
   rw [dr h0];exact Cx h
  lM:=fun hr=>me.nd hr
  c7:=fun hr e=>me.mem h hr e
  lN:=fun hr=>me.next h hr
  oO:=fun hr h1 h2=>me.step h hr h1 h2
  mF:=fun {W D} hr e he=>by
   obtain ⟨f,hi,rfl,_,_,hD,_⟩:=hr
   exact gN hi.todY (by omega) (cm hm (i:=e.toNat) (by have:=he.1;have:=he.2;have:e<g.es.length:=he.2;omega))
  oP:=fun {k W D} hr=>by obtain ⟨f,hi,rfl,_,_,_,hs⟩:=hr;exact hs
  qX:=fun {k W D} hr hs=>by
   obtain ⟨f,hi,rfl,_,_,hD,_⟩:=hr
   refine Decidable.byContradiction fun hk=> ?_
   have:∃k',k'<g.n.toNat∧az p k'∉f.pl:=by
    refine Decidable.byContradiction fun hall=> ?_
    have hall:∀k',k'<g.n.toNat→az p k'∈f.pl:=fun k' hk'=>Decidable.byContradiction fun h1=>hall ⟨k',hk',h1⟩
    have:=fJ (l:=p.ord) (m:=f.pl) (nS h.2.1) fun x hx=>by
     have hx:=dH.1 (h.2.1.2.1.mem_iff.1 hx)
     obtain ⟨k',h1,rfl⟩:=ec h.2.1 hx.1 (by omega)
     exact hall k' h1
    rw [bY h.2.1] at this
    omega
   obtain ⟨k',h1,h2⟩:=this
   exact vq h hI hi (d:=g.n.toNat - k') (by omega) h1 h2 hs
  sR:=by
   show (aZ g p).ins (az p 0)= []
   rw [fF h0]
   have:=gm h h0
   rw [cJ h] at this
   exact List.eq_nil_of_length_eq_zero this
  oQ:=fun x hx=>by
   have Fm:ji g x:=Decidable.byContradiction fun h0=>hx (ju h0)
   rw [dr Fm]
   exact dI h hI Fm}
end
end Go.Ab
end
section
namespace Go.Ab
open Go.Proofs
set_option maxRecDepth 10000
set_option linter.unusedSectionVars false
section
variable (g:Gr) (p:Pl)
def cK:Nat→Nat
 |0=>1
 |k+1=>cK k+((bt p (az p k)).length - 1)
def HZ (e:Int):Nat:=(bt p (qF g e)).findIdx (fun i=>decide (i=e))
def fc (x:Int):Int:=(cG g p x).headD 0
def ni (x:Int):Int:=(cG g p x).getLastD 0
def LK:Nat→Int→Int
 |0,_=>0
 |k+1,e=>if qF g e=az p k then (if HZ g p e=0 then (if k=0 then 0 else LK k (fc g p (az p k))) else (cK p k:Int)+HZ g p e - 1) else LK k e
def RK (r:Int):Nat→Int→Int
 |0,_=>0
 |k+1,e=>if qF g e=az p k then (if HZ g p e+1<(bt p (az p k)).length then (cK p k:Int)+HZ g p e else (if k=0 then r else RK r k (ni g p (az p k)))) else RK r k e
def jg:Nat→List Int
 |0=> [az p 0]
 |k+1=>jg k++List.replicate ((bt p (az p k)).length - 1) (az p k)
end
section
variable {g:Gr} {p:Pl}
theorem hU:∀ {k:Nat},(jg p k).length=cK p k
 |0=>rfl
 |k+1=>by rw [jg,List.length_append,List.length_replicate,hU,cK]
theorem qg:∀ {k:Nat},0<cK p k
 |0=>by simp [cK]
 |k+1=>by rw [cK];have:= @qg k;omega
theorem rC {k:Nat} :∀ {d:Nat},cK p k≤cK p (k+d)
 |0=>Nat.le_refl _
 |d+1=>by
  have:= @rC k d
  show _≤cK p (k+d+1)
  rw [cK];omega
theorem vr {k:Nat} {f:Nat} (hf:f<cK p k):∀ {d:Nat},(jg p (k+d)).getD f 0=(jg p k).getD f 0
 |0=>rfl
 |d+1=>by
  show (jg p (k+d+1)).getD f 0=_
  have:=rC (p:=p) (k:=k) (d:=d)
  rw [jg,List.getD_eq_getElem?_getD,List.getElem?_append_left (by rw [hU];omega), ← List.getD_eq_getElem?_getD,vr hf]
theorem EL {k f:Nat} (h1:cK p k≤f) (h2:f<cK p (k+1)):(jg p (k+1)).getD f 0=az p k:=by
 rw [jg,List.getD_eq_getElem?_getD,List.getElem?_append_right (by rw [hU];exact h1),List.getElem?_replicate,hU,if_pos (by rw [cK] at h2;omega)]
 rfl
variable (h:bA g p)
include h
theorem nW {k:Nat} (hk:k<g.n.toNat) {u v:List Int} {e:Int} (he:bt p (az p k)=u++e::v):qF g e=az p k∧HZ g p e=u.length:=by
 have hx:=aI h.2.1 hk
 have px:=bC h.2.1 hx.1 hx.2
 have h1:=(cB.1 (px.mem_iff.1 (show e∈bt p (az p k) by rw [he];simp))).2
 have h1:qF g e=az p k:=h1
 refine ⟨h1, ?_⟩
 have bT:(bt p (az p k)).Nodup:=px.nodup_iff.2 de
 unfold HZ
 rw [h1,he]
 rw [he,List.nodup_append] at bT
 rw [List.findIdx_append]
 have h2:u.findIdx (fun i=>decide (i=e))=u.length:=by
  rw [List.findIdx_eq_length]
  intro i hi
  exact decide_eq_false fun e2=>bT.2.2 i hi e (by simp) e2
 rw [h2,if_neg (by omega)]
 simp [List.findIdx_cons]
theorem Be {e:Int} {k:Nat} (hk:k<g.n.toNat) (he:qF g e=az p k):∀ {d:Nat},k+1+d≤g.n.toNat→LK g p (k+1+d) e=LK g p (k+1) e
 |0,_=>rfl
 |d+1,hd=>by
  show LK g p (k+1+d+1) e=_
  rw [LK,if_neg (fun e2=>by have:=cP h.2.1 hk (show k+1+d<g.n.toNat by omega) (he.symm.trans e2);omega),Be hk he (by omega)]
theorem Bf {r:Int} {e:Int} {k:Nat} (hk:k<g.n.toNat) (he:qF g e=az p k):∀ {d:Nat},k+1+d≤g.n.toNat→RK g p r (k+1+d) e=RK g p r (k+1) e
 |0,_=>rfl
 |d+1,hd=>by
  show RK g p r (k+1+d+1) e=_
  rw [RK,if_neg (fun e2=>by have:=cP h.2.1 hk (show k+1+d<g.n.toNat by omega) (he.symm.trans e2);omega),Bf hk he (by omega)]
theorem mg {e:Int} {k:Nat} (hk:k<g.n.toNat) (he:qF g e=az p k) {j:Nat} (h1:k+1≤j) (h2:j≤g.n.toNat):LK g p j e=LK g p (k+1) e:=by
 obtain ⟨d,rfl⟩:=Nat.exists_eq_add_of_le h1
 exact Be h hk he h2
theorem ir {r:Int} {e:Int} {k:Nat} (hk:k<g.n.toNat) (he:qF g e=az p k) {j:Nat} (h1:k+1≤j) (h2:j≤g.n.toNat):RK g p r j e=RK g p r (k+1) e:=by
 obtain ⟨d,rfl⟩:=Nat.exists_eq_add_of_le h1
 exact Bf h hk he h2
theorem xm {k:Nat} (hk:k<g.n.toNat) {v:List Int} {e:Int} (he:bt p (az p k)=e::v) {j:Nat} (h1:k+1≤j) (h2:j≤g.n.toNat):LK g p j e=if k=0 then 0 else LK g p k (fc g p (az p k)):=by
 obtain ⟨a,b⟩:=nW h hk (u:= []) he
 rw [mg h hk a h1 h2,LK,if_pos a,if_pos (show HZ g p e=0 from b)]
theorem Bg {k:Nat} (hk:k<g.n.toNat) {u v:List Int} {e:Int} (he:bt p (az p k)=u++e::v) (hu:u≠ []) {j:Nat} (h1:k+1≤j) (h2:j≤g.n.toNat):LK g p j e=(cK p k:Int)+u.length - 1:=by
 obtain ⟨a,b⟩:=nW h hk he
 have:=List.length_pos_iff.2 hu
 rw [mg h hk a h1 h2,LK,if_pos a,if_neg (by omega),b]
theorem tR {r:Int} {k:Nat} (hk:k<g.n.toNat) {u:List Int} {e:Int} (he:bt p (az p k)=u++ [e]) {j:Nat} (h1:k+1≤j) (h2:j≤g.n.toNat):RK g p r j e=if k=0 then r else RK g p r k (ni g p (az p k)):=by
 obtain ⟨a,b⟩:=nW h hk he
 rw [ir h hk a h1 h2,RK,if_pos a,if_neg (by rw [b,he];simp)]
theorem jv {r:Int} {k:Nat} (hk:k<g.n.toNat) {u v:List Int} {e c:Int} (he:bt p (az p k)=u++e::c::v) {j:Nat} (h1:k+1≤j) (h2:j≤g.n.toNat):RK g p r j e=(cK p k:Int)+u.length:=by
 obtain ⟨a,b⟩:=nW h hk he
 rw [ir h hk a h1 h2,RK,if_pos a,if_pos (by rw [b,he];simp),b]
theorem qh {x:Int} {a:Int} {u:List Int} (hu:cG g p x=a::u):fc g p x=a:=by unfold fc;rw [hu];rfl
theorem mh {x:Int} {a:Int} {u:List Int} (hu:cG g p x=u++ [a]):ni g p x=a:=by unfold ni;rw [hu];simp
theorem Bh {k:Nat} (hk:k<g.n.toNat) (hI:cG g p (az p k)≠ []):k≠0:=fun h0=>by
 subst h0
 have:=gm h (aI h.2.1 hk)
 rw [cJ h] at this
 exact hI (List.eq_nil_of_length_eq_zero this)
theorem tS {k:Nat} (hk:k<g.n.toNat) {a:Int} (ha:a∈cG g p (az p k)):∃j,j<k∧qF g a=az p j:=by
 obtain ⟨h1,h2⟩:=((kj h (aI h.2.1 hk)).2 a).1 ha
 obtain ⟨j,h3,h4⟩:=qf h h1 hk h2
 exact ⟨j,h3,h4.symm⟩
def WK (g:Gr) (p:Pl) (k:Nat):List Int:=(fE (fK g p k).row).map (·.1)
theorem qi (hn:0<g.n.toNat):WK g p 1=bt p (az p 0):=by
 have hx:=aI h.2.1 hn
 have px:=bC h.2.1 hx.1 hx.2
 have hno:fB (az p 0) (fK g p 0).row:=fun t ht=>by cases ht
 have hf:(fK g p 1).row=aO g (az p 0) (bt p (az p 0)):=by
  show (aA g (fK g p 0) (az p 0) _).2.row=_
  rw [iR _ hno]
  show _++ []=_
  simp
 unfold WK
 rw [hf,kg (fun i hi=>(cB.1 (px.mem_iff.1 hi)).1.1),List.map_map]
 have e7:((fun t:It=>t.1) ∘ fQ g (az p 0))=id:=rfl
 rw [e7,List.map_id]
theorem mM {k:Nat} (h0:k≠0) (hk:k<g.n.toNat):∃A C,WK g p k=A++cG g p (az p k)++C∧cG g p (az p k)≠ []∧WK g p (k+1)=A++bt p (az p k)++C:=by
 have hm:=au h.1
 obtain ⟨hi,fG,_⟩:=cQ hm h.2.1 (k:=k) (by omega) fun j hj=>h.2.2 j (by omega)
 have hR:=h.2.2 k hk
 have hx:=aI h.2.1 hk
 have px:=bC h.2.1 hx.1 hx.2
 have hn:bh g (az p k)≠0:=fun hz=>by
  have O3:=aI h.2.1 (show 0<g.n.toNat by omega)
  have:=gl h.1 hx O3 hz (cJ h)
  exact h0 (cP h.2.1 hk (by omega) this)
 obtain ⟨a,c,e1,_,_,_,hl,e2⟩:=ry hm hi.todY hR hn (bt p (az p k))
 refine ⟨a.map (·.1),c.map (·.1), ?_, ?_, ?_⟩
 ·rw [rz h hk];unfold WK;rw [e1,List.map_append,List.map_append];rfl
 ·intro h1
  have:=gm h hx
  rw [h1] at this
  exact hn this.symm
 ·unfold WK
  show (fE (aA g (fK g p k) (az p k) _).2.row).map (·.1)=_
  rw [e2,List.map_append,List.map_append,kg (fun i hi=>(cB.1 (px.mem_iff.1 hi)).1.1),List.map_map]
  have e7:((fun t:It=>t.1) ∘ fQ g (az p k))=id:=rfl
  rw [e7,List.map_id]
theorem rD {k:Nat} (hk:k≤g.n.toNat) {a:Int} (ha:a∈WK g p k):∃j,j<k∧qF g a=az p j:=by
 have hm:=au h.1
 obtain ⟨hi,fG,_⟩:=cQ hm h.2.1 (k:=k) (by omega) fun j hj=>h.2.2 j (by omega)
 obtain ⟨t,ht,rfl⟩:=List.mem_map.1 ha
 obtain ⟨h1,h2,_⟩:=mL hm hi.todY ht
 obtain ⟨h4,h5⟩:=gS.1 ht
 have:=hi.tail t h4 h5
 rw [fG,h2] at this
 obtain ⟨j,hj,e⟩:=A9 (by rw [bY h.2.1];omega) this
 exact ⟨j,hj,e.symm⟩
theorem Bi {r:Int} {k:Nat} (hk:k<g.n.toNat) {j:Nat} (h1:k+1≤j) (h2:j≤g.n.toNat):gw (LK g p j) (RK g p r j) (if k=0 then 0 else LK g p k (fc g p (az p k))) (bt p (az p k)):=by
 refine oR (fun u a b v e=> ?_) fun a u e=>xm h hk e h1 h2
 rw [jv h hk e h1 h2,Bg h hk (u:=u++ [a]) (v:=v) (e:=b) (by rw [e];simp) (by simp) h1 h2]
 simp;omega
theorem Bj {r:Int} {k:Nat} (hk:k<g.n.toNat) {j:Nat} (h1:k+1≤j) (h2:j≤g.n.toNat) (hO:bt p (az p k)≠ []) (f:Int):iE (RK g p r j) f (bt p (az p k))=if k=0 then r else RK g p r k (ni g p (az p k)):=by
 obtain ⟨v,b,hv⟩:=cE hO
 rw [hv,cU,tR h hk hv h1 h2]
theorem mj {L R L' R':Int→Int} :∀ {W:List Int} {f:Int},(∀a∈W,L a=L' a∧R a=R' a)→(gw L R f W↔gw L' R' f W)
 | [],_,_=>Iff.rfl
 |a::W,f,hh=>by
  have h1:=hh a (List.mem_cons_self ..)
  simp only [gw,h1.1,h1.2,mj (W:=W) fun b hb=>hh b (List.mem_cons_of_mem _ hb)]
theorem tT {R R':Int→Int} :∀ {W:List Int} {f:Int},(∀a∈W,R a=R' a)→iE R f W=iE R' f W
 | [],_,_=>rfl
 |a::W,f,hh=>by
  simp only [iE,hh a (List.mem_cons_self ..),tT (W:=W) fun b hb=>hh b (List.mem_cons_of_mem _ hb)]
theorem Ac {r:Int} (hI:kz g=true):∀ {k:Nat},1≤k→k<g.n.toNat→WK g p k≠ []→gw (LK g p k) (RK g p r k) 0 (WK g p k)∧iE (RK g p r k) 0 (WK g p k)=r
 |0,h1,_,_=>by omega
 |k+1,_,hk,hW=>by
  by_cases h0:k=0
  ·subst h0
   rw [qi h (by omega)] at hW ⊢
   have a:=Bi (r:=r) h (k:=0) (by omega) (j:=1) (Nat.le_refl _) (by omega)
   have b:=Bj (r:=r) h (k:=0) (by omega) (j:=1) (Nat.le_refl _) (by omega) hW 0
   rw [if_pos rfl] at a b
   exact ⟨a,b⟩
  ·obtain ⟨A,C,e1,hne,e2⟩:=mM h h0 (show k<g.n.toNat by omega)
   obtain ⟨l1,l2⟩:=Ac hI (k:=k) (by omega) (by omega) (by rw [e1];simp [hne])
   have hO:bt p (az p k)≠ []:=fun h1=>by
    have:=(dI h hI (aI h.2.1 (show k<g.n.toNat by omega))).1 h1
    have:=cP h.2.1 (show k<g.n.toNat by omega) (by omega) this
    omega
   have Ad:∀a∈WK g p k,LK g p (k+1) a=LK g p k a∧RK g p r (k+1) a=RK g p r k a:=fun a ha=>by
    obtain ⟨j,hj,e⟩:=rD h (by omega) ha
    exact ⟨by rw [mg h (by omega) e (j:=k+1) (by omega) (by omega),mg h (by omega) e (j:=k) (by omega) (by omega)],by rw [ir h (by omega) e (j:=k+1) (by omega) (by omega),ir h (by omega) e (j:=k) (by omega) (by omega)]⟩
   rw [← mj h Ad] at l1
   rw [← tT h fun a ha=>(Ad a ha).2] at l2
   rw [e1] at l1 l2 Ad
   rw [e2]
   obtain ⟨a0,u0,FY⟩:=dX hne
   obtain ⟨u,a,hu⟩:=cE hne
   obtain ⟨l3,l5⟩:=bU.1 l1
   obtain ⟨l4,l6⟩:=bU.1 l3
   have O4:LK g p (k+1) a0=iE (RK g p r (k+1)) 0 A:=by rw [FY] at l6;exact l6.1
   have GL:∀f,iE (RK g p r (k+1)) f (cG g p (az p k))=RK g p r k (ni g p (az p k)):=fun f=>by
    rw [mh h hu,hu,cU,(Ad a (by rw [hu];simp)).2]
   have hlk:=Bi (r:=r) h (k:=k) (by omega) (j:=k+1) (Nat.le_refl _) (by omega)
   have Ms:=Bj (r:=r) h (k:=k) (by omega) (j:=k+1) (Nat.le_refl _) (by omega) hO
   rw [if_neg h0] at hlk Ms
   rw [qh h FY, ← (Ad a0 (by rw [FY];simp)).1,O4] at hlk
   refine ⟨?_, ?_⟩
   ·rw [bU,bU,cA,Ms]
    rw [cA,GL] at l5
    exact ⟨⟨l4,hlk⟩,l5⟩
   ·rw [cA,cA,Ms]
    rw [cA,cA,GL] at l2
    exact l2
theorem nZ (hI:kz g=true) {r:Int} (hr:r<0∨cK p g.n.toNat≤r):(aZ g p).eX (LK g p g.n.toNat) (RK g p r g.n.toNat) 0 r (fun f=>(jg p g.n.toNat).getD f.toNat 0):=by
 have hm:=au h.1
 have hn:=aL hm
 have zT:∀ {x:Int} {l:List Int},(aZ g p).outs x=l→l≠ []→∃k,k<g.n.toNat∧az p k=x∧bt p (az p k)=l:=fun {x l} h1 h2=>by
  by_cases hx:ji g x
  ·obtain ⟨k,hk,rfl⟩:=ec h.2.1 hx.1 hx.2
   exact ⟨k,hk,rfl,by rw [← h1,dr hx]⟩
  ·rw [ki hx] at h1;exact absurd h1.symm h2
 have Mt:∀ {x:Int} {l:List Int},(aZ g p).ins x=l→l≠ []→∃k,k<g.n.toNat∧az p k=x∧cG g p (az p k)=l:=fun {x l} h1 h2=>by
  by_cases hx:ji g x
  ·obtain ⟨k,hk,rfl⟩:=ec h.2.1 hx.1 hx.2
   exact ⟨k,hk,rfl,by rw [← h1,fF hx]⟩
  ·rw [ju hx] at h1;exact absurd h1.symm h2
 have h0:(aZ g p).src=az p 0:=rfl
 have I5:∀k,0<cK p k:=fun k=>qg
 exact {
  ne:=by have:=I5 g.n.toNat;omega
  fY:=fun {x u a b v} e=>by
   obtain ⟨k,hk,_,e2⟩:=zT e (by simp)
   rw [jv h hk e2 (by omega) (Nat.le_refl _),Bg h hk (u:=u++ [a]) (v:=v) (e:=b) (by rw [e2];simp) (by simp) (by omega) (Nat.le_refl _)]
   simp;omega
  nF:=fun {x u a b v} e=>by
   obtain ⟨k,hk,_,e2⟩:=Mt e (by simp)
   have xS:=Bh h hk (by rw [e2];simp)
   obtain ⟨A,C,e1,hne,_⟩:=mM h xS hk
   have l1:=(Ac (r:=r) h hI (k:=k) (by omega) hk (by rw [e1];simp [hne])).1
   have Ad:∀a∈WK g p k,LK g p g.n.toNat a=LK g p k a∧RK g p r g.n.toNat a=RK g p r k a:=fun a ha=>by
    obtain ⟨j,hj,e⟩:=rD h (by omega) ha
    exact ⟨by rw [mg h (by omega) e (j:=g.n.toNat) (by omega) (by omega),mg h (by omega) e (j:=k) (by omega) (by omega)],by rw [ir h (by omega) e (j:=g.n.toNat) (by omega) (by omega),ir h (by omega) e (j:=k) (by omega) (by omega)]⟩
   rw [← mj h Ad,e1,e2,show A++(u++a::b::v)++C=(A++u)++a::b::(v++C) by simp] at l1
   exact DR l1
  fst:=fun {x a u b v} e1 e2=>by
   obtain ⟨k,hk,hx,e3⟩:=zT e2 (by simp)
   have e4:cG g p (az p k)=a::u:=by
    have Fm:ji g x:=by rw [← hx];exact aI h.2.1 hk
    rw [hx, ← fF Fm];exact e1
   have xS:=Bh h hk (by rw [e4];simp)
   obtain ⟨j,hj,et⟩:=tS h hk (a:=a) (by rw [e4];simp)
   rw [xm h hk e3 (by omega) (Nat.le_refl _),if_neg xS,qh h e4,mg h (by omega) et (j:=g.n.toNat) (by omega) (Nat.le_refl _),mg h (by omega) et (j:=k) (by omega) (by omega)]
  BS:=fun {x a u b v} e1 e2=>by
   obtain ⟨k,hk,hx,e3⟩:=zT e2 (by simp)
   have e4:cG g p (az p k)=u++ [a]:=by
    have Fm:ji g x:=by rw [← hx];exact aI h.2.1 hk
    rw [hx, ← fF Fm];exact e1
   have xS:=Bh h hk (by rw [e4];simp)
   obtain ⟨j,hj,et⟩:=tS h hk (a:=a) (by rw [e4];simp)
   rw [tR h hk e3 (by omega) (Nat.le_refl _),if_neg xS,mh h e4,ir h (by omega) et (j:=g.n.toNat) (by omega) (Nat.le_refl _),ir h (by omega) et (j:=k) (by omega) (by omega)]
  s0:=fun {b v} e=>by
   obtain ⟨k,hk,hx,e3⟩:=zT e (by simp)
   have:k=0:=cP h.2.1 hk (by omega) hx
   rw [xm h hk e3 (by omega) (Nat.le_refl _),if_pos this]
  s1:=fun {b v} e=>by
   obtain ⟨k,hk,hx,e3⟩:=zT e (by simp)
   have:k=0:=cP h.2.1 hk (by omega) hx
   rw [tR h hk e3 (by omega) (Nat.le_refl _),if_pos this]
  new:=fun {x u a b v} e=>by
   obtain ⟨k,hk,hx,e3⟩:=zT e (by simp)
   have hR:=jv (r:=r) h hk e3 (j:=g.n.toNat) (by omega) (Nat.le_refl _)
   have hl:(bt p (az p k)).length=u.length+(v.length+2):=by rw [e3];simp
   have Fk:cK p (k+1)=cK p k+((bt p (az p k)).length - 1):=rfl
   obtain ⟨d,hd⟩:=Nat.exists_eq_add_of_le (show k+1≤g.n.toNat by omega)
   have hmo:=rC (p:=p) (k:=k+1) (d:=d)
   rw [← hd] at hmo
   have:=I5 k
   refine ⟨?_,by omega,by omega⟩
   show (jg p g.n.toNat).getD (RK g p r g.n.toNat a).toNat 0=x
   rw [hR,show ((cK p k:Int)+(u.length:Int)).toNat=cK p k+u.length by omega,hd,vr (by omega),EL (by omega) (by omega),hx]
  new1:=fun {x u a b v u' a' b' v'} e1 e2 e3=>by
   obtain ⟨k,hk,hx,e4⟩:=zT e1 (by simp)
   have e5:bt p (az p k)=u'++a'::b'::v':=by
    have Fm:ji g x:=by rw [← hx];exact aI h.2.1 hk
    rw [hx, ← dr Fm];exact e2
   rw [jv h hk e4 (by omega) (Nat.le_refl _),jv h hk e5 (by omega) (Nat.le_refl _)] at e3
   have hl:u.length=u'.length:=by omega
   rw [e4] at e5
   have:=(List.append_inj e5 hl).2
   simp only [List.cons.injEq] at this
   exact this.1}
end
end Go.Ab
end
section
namespace Go.Ab
open Go.Proofs
set_option maxRecDepth 10000
set_option linter.unusedSectionVars false
section
variable {g:Gr} {p:Pl} (h:bA g p)
include h
theorem vt {f:Fr} (hi:uh g f) {A C:List Int} {x:Int} (hW:(fE f.row).map (·.1)=A++(aZ g p).ins x++C) (hI:(aZ g p).ins x≠ []) (CV:x∉f.pl):
 aq g f x=true∧ji g x∧bh g x≠0∧∃a X c,fE f.row=a++X++c∧a.map (·.1)=A∧X.map (·.1)=(aZ g p).ins x∧c.map (·.1)=C∧fB x a∧fB x c∧tP x X∧X≠ []:=by
 have hm:=au h.1
 have hx:ji g x:=Decidable.byContradiction fun h0=>hI (ju h0)
 have bT:((fE f.row).map (·.1)).Nodup:=Bd hi
 rw [fF hx] at hW hI ⊢
 obtain ⟨i1,i2⟩:=kj h hx
 rw [hW] at bT
 obtain ⟨l1,c,e1,e2,e3⟩:=List.map_eq_append_iff.1 hW
 obtain ⟨a,X,e4,e5,e6⟩:=List.map_eq_append_iff.1 e2
 have hrow:fE f.row=a++X++c:=by rw [e1,e4]
 have hit:∀t∈a++X++c,(0≤t.1∧t.1<g.es.length)∧t.2.1=qF g t.1∧t.2.2=CY g t.1:=fun t ht=>mL hm hi.todY (by rw [hrow];exact ht)
 have hX:tP x X:=fun t ht=>by
  have h1:t.1∈cG g p x:=by rw [← e6];exact List.mem_map_of_mem ht
  rw [(hit t (by simp [ht])).2.2,((i2 _).1 h1).2]
 have hin:∀t∈a++X++c,t.2.2=x→t.1∈cG g p x:=fun t ht e=>by
  obtain ⟨h1,_,h3⟩:=hit t ht
  exact (i2 _).2 ⟨h1,by rw [← h3,e]⟩
 have ha:fB x a:=fun t ht e=>by
  have h1:=hin t (by simp [ht]) e
  have h2:t.1∈A:=by rw [← e5];exact List.mem_map_of_mem ht
  exact (List.nodup_append.1 (List.nodup_append.1 bT).1).2.2 _ h2 _ h1 rfl
 have GS:fB x c:=fun t ht e=>by
  have h1:=hin t (by simp [ht]) e
  have h2:t.1∈C:=by rw [← e3];exact List.mem_map_of_mem ht
  exact (List.nodup_append.1 bT).2.2 _ (List.mem_append.2 (.inr h1)) _ h2 rfl
 have Iz:X.length=bh g x:=by rw [← gm h hx, ← e6,List.length_map]
 have nX:X≠ []:=fun h0=>hI (by rw [← e6,h0];rfl)
 have hR:=yU hm hi.todY hx.1 hx.2 CV hrow ha GS hX nX Iz
 have hn:bh g x≠0:=fun h0=>nX (List.eq_nil_of_length_eq_zero (Iz.trans h0))
 exact ⟨hR,hx,hn,a,X,c,hrow,e5,e6,e3,ha,GS,hX,nX⟩
theorem Ae {f:Fr} (hi:uh g f) {k:Nat} (hc:ng g p (k+1) f) (hlen:(f.pl.length:Int)+(k+1:Nat)=g.n) {A C:List Int} {x:Int} (hW:(fE f.row).map (·.1)=A++(aZ g p).ins x++C) (hI:(aZ g p).ins x≠ []) (CV:x∉f.pl) (hs:az p 0∈f.pl)
 (hno:∀z,(aZ g p).ins z≠ []→¬(aZ g p).ins z<:+:A):dg g f false=x:=by
 have hm:=au h.1
 obtain ⟨hR,hx,hn,a,X,c,hrow,e5,e6,e3,ha,GS,hX,nX⟩:=vt h hi hW hI CV
 unfold dg gC
 simp only [Bool.false_eq_true,if_false]
 cases hf:f.row.find? (fun t=>aq g f t.2.2) with
 |none=>
  exfalso
  obtain ⟨t,X',rfl⟩:∃t X',X=t::X':=by
   cases X with
   |nil=>exact absurd rfl nX
   |cons t X'=>exact ⟨t,X',rfl⟩
  have h1:t∈f.row:=(gS.1 (by rw [hrow];simp)).1
  have h2:=List.find?_eq_none.1 hf t h1
  rw [hX t (by simp)] at h2
  exact h2 hR
 |some t=>
  show t.2.2=x
  obtain ⟨ht,l,r,hlr,hl⟩:=List.find?_eq_some_iff_append.1 hf
  refine Decidable.byContradiction fun Mu=> ?_
  have hz:=aC ht
  have Mv:0≤t.1:=by
   have:=(hi.it t (by rw [hlr];simp)).head hm
   exact this.1.2 (by omega)
  have O5:fE f.row=fE l++t::fE r:=by rw [hlr,kV];simp [fE,Mv]
  have Mw:∀s∈fE l,s.2.2≠x:=fun s hs e=>by
   have:=hl s (gS.1 hs).1
   rw [e,hR] at this;cases this
  have O6:t∈a:=by
   have he:fE l++t::fE r=a++(X++c):=by rw [← O5,hrow,List.append_assoc]
   rcases List.append_eq_append_iff.1 he with ⟨q,h1,h2⟩|⟨q,h1,h2⟩
   ·cases q with
    |nil=>
     exfalso
     cases X with
     |nil=>exact nX rfl
     |cons u X'=>
      have:t=u:=by simpa using (List.cons.inj h2).1
      exact Mu (this ▸ hX u (by simp))
    |cons u q=>
     have:t=u:=(List.cons.inj h2).1
     rw [h1,this];simp
   ·cases q with
    |nil=>
     exfalso
     cases X with
     |nil=>exact nX rfl
     |cons u X'=>
      have:u=t:=by simpa using (List.cons.inj h2).1
      exact Mu (this ▸ hX u (by simp))
    |cons u q=>
     exfalso
     cases X with
     |nil=>exact nX rfl
     |cons u' X'=>
      have:u'=u:=(List.cons.inj h2).1
      exact Mw u (by rw [h1];simp) (this ▸ hX u' (by simp))
  have hnz:bh g t.2.2≠0:=fun h0=>by
   have:=gl h.1 (x:=t.2.2) (y:=az p 0) ⟨hz.1,hz.2.1⟩ (hi.Ep _ hs) h0 (cJ h)
   exact hz.2.2 (this ▸ hs)
  obtain ⟨b,d,g1,g2,g3,g4,g5,_⟩:=ry hm hi.todY ht hnz (bt p t.2.2)
  have zJ:(fE (aA g f t.2.2 (bt p t.2.2)).1.1).map (·.1)=(aZ g p).ins t.2.2:=by
   rw [fF ⟨hz.1,hz.2.1⟩];exact (mK h.1 h.2.1 hi hlen hc ht).1
  generalize fE (aA g f t.2.2 (bt p t.2.2)).1.1=Y at g1 g4 g5 zJ
  have nY:Y≠ []:=fun h0=>hnz (by rw [← g5,h0];rfl)
  have O7:Y<:+:a:=by
   have he:b++(Y++d)=a++(X++c):=by rw [← List.append_assoc, ← g1,hrow,List.append_assoc]
   rcases List.append_eq_append_iff.1 he with ⟨q,h1,h2⟩|⟨q,h1,h2⟩
   ·rcases List.append_eq_append_iff.1 h2 with ⟨q2,h3,h4⟩|⟨q2,h3,h4⟩
    ·exact ⟨b,q2,by rw [h1,h3,List.append_assoc]⟩
    ·cases q2 with
     |nil=>exact ⟨b, [],by rw [h1,h3];simp⟩
     |cons u q2=>
      exfalso
      cases X with
      |nil=>exact nX rfl
      |cons u' X'=>
       have e1:u'=u:=(List.cons.inj h4).1
       have h5:=g4 u (by rw [h3];simp)
       exact Mu (by rw [← h5, ← e1];exact hX u' (by simp))
   ·exfalso
    exact g2 t (by rw [h1];simp [O6]) rfl
  refine hno t.2.2 (fun h0=>nY (by rw [← zJ] at h0;simpa using h0)) ?_
  rw [← zJ, ← e5]
  obtain ⟨u,v,huv⟩:=O7
  exact ⟨u.map (·.1),v.map (·.1),by rw [← huv];simp⟩
theorem vu:∀ {k:Nat},k≤g.n.toNat→ng g p (g.n.toNat - k) (aQ g p false k)
 |0,_=>qe h (k:=0) (by omega)
 |k+1,hk=>by
  have ih:=vu (k:=k) (by omega)
  obtain ⟨h1,h2,_,_⟩:=e9 h false (k:=k) (by omega)
  have hR:=(kT h false (k:=k) (by omega)).1
  rw [show g.n.toNat - k=(g.n.toNat - (k+1))+1 by omega] at ih
  exact (mK h.1 h.2.1 h1 (by omega) ih hR).2
variable (hI:kz g=true)
include hI
theorem tU:∀ {j:Nat},j≤g.es.length→∃k,1≤k∧k≤g.n.toNat∧(aQ g p false k).pl=((aZ g p).st j).D∧(fE (aQ g p false k).row).map (·.1)=((aZ g p).st j).A++((aZ g p).st j).B
 |0,_=>by
  have hm:=au h.1
  have hn:=aL hm
  have hq:=mI h false
  have h0:=aI h.2.1 (k:=0) (by omega)
  have FT:=aI hq.2.1 (k:=0) (by omega)
  have he:az (⟨fD g p false,p.outs⟩:Pl) 0=az p 0:=gl h.1 FT h0 (cJ hq) (cJ h)
  have hp:dg g (aQ g p false 0) false=az p 0:=by
   rw [← he]
   show _=(fD g p false).getD 0 0
   rw [fD,List.getD_eq_getElem?_getD,List.getElem?_map,List.getElem?_range (by omega)];rfl
  have hw:aQ g p false 1=fK g p 1:=by
   show o6 g p (aQ g p false 0) (dg g (aQ g p false 0) false)=_
   rw [hp];rfl
  refine ⟨1,by omega,by omega, ?_, ?_⟩
  ·rw [hw];rfl
  ·have:=qi h (by omega)
   unfold WK at this
   rw [hw,this]
   show _= []++(aZ g p).outs (az p 0)
   rw [dr h0];rfl
 |j+1,hj=>by
  have hm:=au h.1
  obtain ⟨k,k1,k2,k3,k4⟩:=tU (j:=j) (by omega)
  have hok:=nh h hI
  obtain ⟨B,hB,hc⟩:=jq hok (j:=j) (by show j<g.es.length;omega)
  rcases hc with ⟨A',h1,h2,h3⟩|⟨h1,h3⟩
  rotate_left
  ·refine ⟨k,k1,k2,by rw [h3];exact k3, ?_⟩
   rw [h3,k4,hB];simp
  obtain ⟨i1,i2,_,_⟩:=e9 h false (k:=k) k2
  have hinv:=(aZ g p).inv hok j (by show j≤g.es.length;omega)
  have hW:(fE (aQ g p false k).row).map (·.1)=A'++(aZ g p).ins ((aZ g p).hd ((aZ g p).sh j))++B:=by rw [k4,hB, ← h1];simp
  have CV:(aZ g p).hd ((aZ g p).sh j)∉(aQ g p false k).pl:=by
   rw [k3]
   obtain ⟨r,hr⟩:=jA hok (j:=j) (by show j≤g.es.length;omega)
   exact ((hok.c7 hr ((aZ g p).sh j)).1 (by rw [hB];simp)).2.2
  obtain ⟨hR,hx,hn,a,X,c,hrow,e5,e6,e3,ha,GS,hX,nX⟩:=vt h i1 hW h2 CV
  have hkn:k<g.n.toNat:=by
   refine Decidable.byContradiction fun hge=>CV ?_
   exact gN i1.todY (by omega) hx
  have hcmp:=vu h (k:=k) k2
  rw [show g.n.toNat - k=(g.n.toNat - k - 1)+1 by omega] at hcmp
  have hsrc:az p 0∈(aQ g p false k).pl:=by
   rw [k3]
   obtain ⟨r,hr⟩:=jA hok (j:=j) (by show j≤g.es.length;omega)
   exact hok.oP hr
  have hpk:=Ae h i1 hcmp (by omega) hW h2 CV hsrc fun z hz hA=>hinv.no z hz (by
   obtain ⟨u,w,Cy⟩:=hA
   rcases List.eq_nil_or_concat ((aZ g p).ins ((aZ g p).hd ((aZ g p).sh j))) with g0|⟨I',b,g0⟩
   ·exact absurd g0 h2
   ·rw [g0,List.concat_eq_append, ← List.append_assoc] at h1
    have h5:=(List.append_inj' h1 rfl).1
    exact ⟨u,w++I',by rw [h5, ← Cy];simp⟩)
  have px:=bC h.2.1 hx.1 hx.2
  refine ⟨k+1,by omega,by omega, ?_, ?_⟩
  ·show (aQ g p false k).pl++ [dg g (aQ g p false k) false]=_
   rw [hpk,k3,h3]
  ·show (fE (aA g (aQ g p false k) (dg g (aQ g p false k) false) (bt p (dg g (aQ g p false k) false))).2.row).map (·.1)=_
   rw [hpk,Ba hm i1.todY hR hn hrow ha GS hX nX (bt p _),h3,List.map_append,List.map_append,e5,e3,kg (fun i hi=>by
    have:=cB.1 (px.mem_iff.1 hi);exact this.1.1),List.map_map,dr hx]
   have e7:((fun t:It=>t.1) ∘ fQ g ((aZ g p).hd ((aZ g p).sh j)))=id:=rfl
   rw [e7,List.map_id,List.append_assoc]
end
end Go.Ab
end
section
namespace Go.Ab
open Go.Proofs
attribute [local congr] ACall.congr
set_option maxRecDepth 10000
set_option maxHeartbeats 8000000
def ko (A o:List Int) (f:Nat→Int):Nat→List Int
 |0=>A
 |j+1=>(ko A o f j).set (o.getD j 0).toNat (f j)
theorem gO {A o:List Int} {f:Nat→Int} :∀ {j:Nat},(ko A o f j).length=A.length
 |0=>rfl
 |j+1=>by rw [ko,List.length_set,gO]
def nj (A o:List Int) (left:Int) (c:Nat) (j:Nat):List Int:=ko A o (fun j=>if j=0 then left else (c:Int)+j - 1) j
def nk (A o:List Int) (right:Int) (c:Nat) (j:Nat):List Int:=ko A o (fun j=>if j+1<o.length then (c:Int)+j else right) j
theorem Cz {A o:List Int} {left:Int} {c:Nat} {j:Nat} :(nj A o left c j).length=A.length:=gO
theorem CA {A o:List Int} {left:Int} {c:Nat} {j:Nat} :(nk A o left c j).length=A.length:=gO
theorem vv {A o:List Int} {f:Nat→Int} {e:Nat} :∀ {j:Nat},(∀i,i<j→(o.getD i 0).toNat≠e)→(ko A o f j).getD e 0=A.getD e 0
 |0,_=>rfl
 |j+1,h=>by
  have h1:=h j (by omega)
  rw [ko,List.getD_eq_getElem?_getD,List.getElem?_set,if_neg h1, ← List.getD_eq_getElem?_getD,vv fun i hi=>h i (by omega)]
theorem yV {A o:List Int} {f:Nat→Int} {i:Nat} (hA:(o.getD i 0).toNat<A.length):∀ {j:Nat},i<j→(∀k,k<j→(o.getD k 0).toNat=(o.getD i 0).toNat→k=i)→(ko A o f j).getD (o.getD i 0).toNat 0=f i
 |0,h,_=>by omega
 |j+1,h,hn=>by
  rw [ko,List.getD_eq_getElem?_getD,List.getElem?_set]
  by_cases e:(o.getD j 0).toNat=(o.getD i 0).toNat
  ·have:=hn j (by omega) e
   subst this
   rw [if_pos rfl,if_pos (by rw [gO];exact hA)];rfl
  ·have hji:j≠i:=fun e2=>e (by rw [e2])
   rw [if_neg e, ← List.getD_eq_getElem?_getD,yV hA (by omega) fun k hk=>hn k (by omega)]
def fS (c k:Nat):List Int:=(List.range k).map fun i:Nat=>((c+i:Nat):Int)
theorem Af {c k:Nat} :fS c (k+1)=fS c k++ [((c+k:Nat):Int)]:=by simp [fS,List.range_succ]
theorem kq {c k:Nat} :(fS c k).length=k:=by simp [fS]
def Gi (left:Int) (c d j:Nat):Int:=if min j (d - 1)=0 then left else (c:Int)+(min j (d - 1):Nat) - 1
def ID (ed gp:D) (A B lo hi:List Int):List (Nat × AObj):= [(10000, .box [.d ed, .d gp, .ref 10001, .ref 10002, .ref 10003, .ref 10004]),(10001, .own 3 1 (A.map rI)),(10002, .own 3 1 (B.map rI)),(10003, .tip 3 1 (lo.map rI)),(10004, .own 3 1 (hi.map rI))]
def IE (ed gp:D) (A B lo hi:List Int):List (Nat × AObj):= [(10000, .box [.d ed, .d gp, .ref 10001, .ref 10002, .ref 10005, .ref 10006]),(10001, .own 3 1 (A.map rI)),(10002, .own 3 1 (B.map rI)),(10005, .tip 3 1 (lo.map rI)),(10006, .own 3 1 (hi.map rI))]
theorem vA (x left right:Int) (o:List Int) (ed gp:D) (A B lo hi:List Int) (ho:o.length≤100000) (hO:∀i∈o,0≤i∧i<A.length) (hB:B.length=A.length) (hlo:lo.length≤100000) (hhi:hi.length≤100000):
 Spec Tryz.prog 70 (Args [.ptr 10000 0,eN x, .d (sI o),eN left,eN right]) (ID ed gp A B lo hi)
  (.d (sI (fS lo.length (o.length - 1)))) (IE ed gp (nj A o left lo.length o.length) (nk B o right lo.length o.length) (lo++List.replicate (o.length - 1) x) (hi++List.replicate (o.length - 1) 0)):=by
 unfold ID IE
 generalize hc:lo.length=c at*
 (refine Spec.dQ (C:=T.cfg [] []) (rs:= [.t 10]) [(10005,200),(10006,201)] (T.ai _ _) Tryz.func70 rfl rfl Tryz.ntmps70 Tryz.results70 (by simp [AObj.isNest]) (by simp [AObj.isNest]) (by first|(simp [look];done)|(simp [asN];done)|(intro l hl;simp only [asN];repeat (rw [if_neg (fun e=>by subst e;simp [look] at hl)]))) (by first|(simp [look];done)|(simp [asN];done)|(intro l hl;simp only [asN];repeat (rw [if_neg (fun e=>by subst e;simp [look] at hl)]))) (by kernel_rfl) ?_;intro X hX hP hC aG aH vals hA;refine ⟨_,by simp,hA, ?_⟩;have af:X.P.follows .mixedOrders=true:=(by rw [hP];exact T.mixed);clear aG aH)
 repeat' (first|((first|((with_reducible (first|apply oA|apply oB));exact rfl;intro K hK)|(refine hK _ ?_;clear hK K)|((with_reducible (first|apply oG|apply oH));iterate 3 exact rfl)|((with_reducible apply oI);(iterate 2 exact rfl);intro K hK)|(with_reducible (first|apply wI|apply wJ|apply wK)));try simp only [go_sem,simprocAttr])|(show dK _ (.seq (.region 1 _ _) _) _ _;(refine fX hX 10 202 (.tip 3 1 []) (by simp only [go_sem,simprocAttr]) (by simp only [go_sem,simprocAttr]) (by decide) ⟨3,1,by decide, .inr rfl⟩ ?_;simp only [go_sem,simprocAttr]);(refine iD hX 10000 4 10003 200 rfl rfl rfl (by first|exact .inl rfl|exact .inr rfl) (by decide) (by decide) ?_;simp only [LA.app,ASt.put,ASt.kill,subT,rmk,putM,rml,kl,AV.sub,AV.subs,AObj.sub,List.set_cons_zero,List.set_cons_succ,go_sem,simprocAttr]);(refine iD hX 10000 5 10004 201 rfl rfl rfl (by first|exact .inl rfl|exact .inr rfl) (by decide) (by decide) ?_;simp only [LA.app,ASt.put,ASt.kill,subT,rmk,putM,rml,kl,AV.sub,AV.subs,AObj.sub,List.set_cons_zero,List.set_cons_succ,go_sem,simprocAttr]))|(with_reducible (first|apply oC|apply oJ|exact oK|apply wA|apply wB|apply wC hX hC|apply wD hX hC|apply wE hX hC af|apply wF hX hC af|apply wG|apply wH|apply And.intro))|((with_reducible refine oD ?_ ?_);kernel_rfl)|((with_reducible (first|apply oE|apply oF));(iterate 3 exact rfl);all_goals (intro h;first|(exact absurd h (by decide))|((try simp only [go_sem,simprocAttr] at h);(try with_reducible intro K hK);simp only [go_sem,simprocAttr])))|((first|((with_reducible apply wL);exact rfl)|((with_reducible apply wM);exact rfl));all_goals (try ((with_reducible intro h);first|(exact absurd h (by decide))|(try simp only [go_sem,simprocAttr] at h))))|omega|(intro h))
 refine aj (fun j:Nat=>j≤o.length) (fun j=>⟨[(0, .ptr 10000 0),(1,eN x),(2, .d (sI o)),(3,eN (Gi left c o.length j)),(4,eN right),(10, .ref 202),(13, .d (sI o)),(14,eN o.length),(15,eN j)], [(10000, .box [.d ed, .d gp, .ref 10001, .ref 10002, .ref 200, .ref 201]),(10001, .own 3 1 ((nj A o left c j).map rI)),(10002, .own 3 1 ((nk B o right c j).map rI)),(200, .tip 3 1 ((lo++List.replicate (min j (o.length - 1)) x).map rI)),(201, .own 3 1 ((hi++List.replicate (min j (o.length - 1)) 0).map rI)),(202, .tip 3 1 ((fS c (min j (o.length - 1))).map rI))]⟩) (fun j=>o.length - j) 0 (by omega) ?_ ?_
 ·refine Le.of ?_ ?_<;>simp [go_sem,simprocAttr,Gi,nj,nk,ko,fS]
 rintro j hj
 rcases Nat.lt_or_ge j o.length with hjl|KG
 rotate_left
 ·have hb:decide ((j:Int)<(o.length:Int))=false:=decide_eq_false (by omega)
  obtain rfl:j=o.length:=by omega
  have hmin:min o.length (o.length - 1)=o.length - 1:=by omega
  rw [hmin]
  repeat' (first|((first|((with_reducible (first|apply oA|apply oB));exact rfl;intro K hK)|(refine hK _ ?_;clear hK K)|((with_reducible (first|apply oG|apply oH));iterate 3 exact rfl)|((with_reducible apply oI);(iterate 2 exact rfl);intro K hK)|(with_reducible (first|apply wI|apply wJ|apply wK)));try simp only [go_sem,simprocAttr,hb])|(with_reducible (first|apply oC|apply oJ|exact oK|apply wA|apply wB|apply wC hX hC|apply wD hX hC|apply wE hX hC af|apply wF hX hC af|apply wG|apply wH|apply And.intro))|((with_reducible refine oD ?_ ?_);kernel_rfl)|((with_reducible (first|apply oE|apply oF));(iterate 3 exact rfl);all_goals (intro h;first|(exact absurd h (by decide))|((try simp only [go_sem,simprocAttr,hb] at h);(try with_reducible intro K hK);simp only [go_sem,simprocAttr,hb])))|((first|((with_reducible apply wL);exact rfl)|((with_reducible apply wM);exact rfl));all_goals (try ((with_reducible intro h);first|(exact absurd h (by decide))|(try simp only [go_sem,simprocAttr,hb] at h))))|omega|(intro h))
 have hb:decide ((j:Int)<(o.length:Int))=true:=decide_eq_true (by omega)
 have hin:=hO _ (bz (d:=0) hjl)
 have ug:=Cz (A:=A) (o:=o) (left:=left) (c:=c) (j:=j)
 have jM:=CA (A:=B) (o:=o) (left:=right) (c:=c) (j:=j)
 have H6:nj A o left c (j+1)=(nj A o left c j).set (o.getD j 0).toNat (if j=0 then left else (c:Int)+j - 1):=rfl
 have CB:nk B o right c (j+1)=(nk B o right c j).set (o.getD j 0).toNat (if j+1<o.length then (c:Int)+j else right):=rfl
 have uf:min j (o.length - 1)=j:=by omega
 have hlf:Gi left c o.length j=if j=0 then left else (c:Int)+j - 1:=by unfold Gi;rw [uf]
 rw [uf,hlf]
 generalize vB:o.getD j 0=v at hin H6 CB
 obtain ⟨i,rfl⟩:∃i:Nat,v=i:=⟨v.toNat,by omega⟩
 rw [Int.toNat_natCast] at H6 CB
 generalize (if j=0 then left else (c:Int)+j - 1)=lv at H6 hlf ⊢
 by_cases hj2:j+1<o.length
 ·have an:decide ((j:Int)+1<(o.length:Int))=true:=decide_eq_true (by omega)
  have hm2:min (j+1) (o.length - 1)=j+1:=by omega
  rw [if_pos hj2] at CB
  have H7:Gi left c o.length (j+1)=((c+j:Nat):Int):=by unfold Gi;rw [hm2,if_neg (by omega)];omega
  have lp:(lo++List.replicate j x).length=c+j:=by rw [List.length_append,List.length_replicate,hc]
  have uC:(hi++List.replicate j (0:Int)).length=hi.length+j:=by rw [List.length_append,List.length_replicate]
  have J8:lo++List.replicate (j+1) x=(lo++List.replicate j x)++ [x]:=by rw [List.replicate_succ', ← List.append_assoc]
  have J9:hi++List.replicate (j+1) (0:Int)=(hi++List.replicate j 0)++ [0]:=by rw [List.replicate_succ', ← List.append_assoc]
  have ue:=kq (c:=c) (k:=j)
  have zJ:=Af (c:=c) (k:=j)
  generalize lo++List.replicate j x=P9 at lp J8
  generalize hi++List.replicate j (0:Int)=hi1 at uC J9
  generalize fS c j=gs at ue zJ
  generalize nj A o left c j=A1 at ug H6
  generalize nk B o right c j=B1 at jM CB
  repeat' (first|((first|((with_reducible (first|apply oA|apply oB));exact rfl;intro K hK)|(refine hK _ ?_;clear hK K)|((with_reducible (first|apply oG|apply oH));iterate 3 exact rfl)|((with_reducible apply oI);(iterate 2 exact rfl);intro K hK)|(with_reducible (first|apply wI|apply wJ|apply wK)));try simp only [go_sem,simprocAttr,hb,an,vB,ug,jM,lp,uC,ue])|(show dK _ (.seq (.region 8 _ _) _) _ _;(refine iD hX 10000 4 48 200 rfl rfl rfl (by first|exact .inl rfl|exact .inr rfl) (by decide) (by decide) ?_;simp only [LA.app,ASt.put,ASt.kill,subT,rmk,putM,rml,kl,AV.sub,AV.subs,AObj.sub,List.set_cons_zero,List.set_cons_succ,go_sem,simprocAttr,hb,an,vB,ug,jM,lp,uC,ue]);(refine iD hX 10000 5 55 201 rfl rfl rfl (by first|exact .inl rfl|exact .inr rfl) (by decide) (by decide) ?_;simp only [LA.app,ASt.put,ASt.kill,subT,rmk,putM,rml,kl,AV.sub,AV.subs,AObj.sub,List.set_cons_zero,List.set_cons_succ,go_sem,simprocAttr,hb,an,vB,ug,jM,lp,uC,ue]))|(show dK _ (.region 9 _ _) _ _;(refine lI hX 10 65 202 (by simp only [go_sem,simprocAttr,hb,an,vB,ug,jM,lp,uC,ue]) rfl (by first|exact .inl rfl|exact .inr rfl) (by decide) ?_;simp only [go_sem,simprocAttr,hb,an,vB,ug,jM,lp,uC,ue]))|(with_reducible (first|apply oC|apply oJ|exact oK|apply wA|apply wB|apply wC hX hC|apply wD hX hC|apply wE hX hC af|apply wF hX hC af|apply wG|apply wH|apply And.intro))|((with_reducible refine oD ?_ ?_);kernel_rfl)|((with_reducible (first|apply oE|apply oF));(iterate 3 exact rfl);all_goals (intro h;first|(exact absurd h (by decide))|((try simp only [go_sem,simprocAttr,hb,an,vB,ug,jM,lp,uC,ue] at h);(try with_reducible intro K hK);simp only [go_sem,simprocAttr,hb,an,vB,ug,jM,lp,uC,ue])))|((first|((with_reducible apply wL);exact rfl)|((with_reducible apply wM);exact rfl));all_goals (try ((with_reducible intro h);first|(exact absurd h (by decide))|(try simp only [go_sem,simprocAttr,hb,an,vB,ug,jM,lp,uC,ue] at h))))|omega|(intro h))
  refine ⟨j+1,by omega, ?_,by omega⟩
  rw [H6,CB,hm2,J8,J9,zJ,H7]
  refine Le.of ?_ ?_<;>simp [go_sem,simprocAttr,hb,an,vB,ug,jM,lp,uC,ue,rI]
 ·have an:decide ((j:Int)+1<(o.length:Int))=false:=decide_eq_false (by omega)
  have hm2:min (j+1) (o.length - 1)=j:=by omega
  have H7:Gi left c o.length (j+1)=Gi left c o.length j:=by unfold Gi;rw [hm2,uf]
  rw [if_neg hj2] at CB
  generalize nj A o left c j=A1 at ug H6
  generalize nk B o right c j=B1 at jM CB
  repeat' (first|((first|((with_reducible (first|apply oA|apply oB));exact rfl;intro K hK)|(refine hK _ ?_;clear hK K)|((with_reducible (first|apply oG|apply oH));iterate 3 exact rfl)|((with_reducible apply oI);(iterate 2 exact rfl);intro K hK)|(with_reducible (first|apply wI|apply wJ|apply wK)));try simp only [go_sem,simprocAttr,hb,an,vB,ug,jM])|(with_reducible (first|apply oC|apply oJ|exact oK|apply wA|apply wB|apply wC hX hC|apply wD hX hC|apply wE hX hC af|apply wF hX hC af|apply wG|apply wH|apply And.intro))|((with_reducible refine oD ?_ ?_);kernel_rfl)|((with_reducible (first|apply oE|apply oF));(iterate 3 exact rfl);all_goals (intro h;first|(exact absurd h (by decide))|((try simp only [go_sem,simprocAttr,hb,an,vB,ug,jM] at h);(try with_reducible intro K hK);simp only [go_sem,simprocAttr,hb,an,vB,ug,jM])))|((first|((with_reducible apply wL);exact rfl)|((with_reducible apply wM);exact rfl));all_goals (try ((with_reducible intro h);first|(exact absurd h (by decide))|(try simp only [go_sem,simprocAttr,hb,an,vB,ug,jM] at h))))|omega|(intro h))
  refine ⟨j+1,by omega, ?_,by omega⟩
  rw [H6,CB,hm2,H7,hlf]
  refine Le.of ?_ ?_<;>simp [go_sem,simprocAttr,hb,an,vB,ug,jM,rI]
end Go.Ab
end
