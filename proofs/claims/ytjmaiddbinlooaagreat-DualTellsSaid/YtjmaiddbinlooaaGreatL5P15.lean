/- A part of the proof. -/
import Derived.Test.YtjmaiddbinlooaaGreatL5P14
set_option linter.unusedSimpArgs false
set_option linter.unusedVariables false
section
namespace Go.Ab
open Go.Proofs
attribute [local congr] ACall.congr
set_option maxRecDepth 10000
set_option maxHeartbeats 8000000
def mL (m:Nat) (fl:List Int):List Int:=(List.range m).map fun i:Nat=>if (i:Int)∈fl then (1:Int) else 0
theorem wV {m:Nat} {fl:List Int} :(mL m fl).length=m:=by simp [mL]
theorem Ar {m:Nat} :mL m []=List.replicate m 0:=by
 refine List.ext_getElem (by simp [mL]) fun i h1 h2=> ?_
 simp [mL]
theorem yX {m:Nat} {fl:List Int} {i:Nat} (h:i<m):(mL m fl).getD i 0=if (i:Int)∈fl then 1 else 0:=by
 simp [mL,List.getD_eq_getElem?_getD,List.getElem?_range h]
theorem Cw {m:Nat} {fl:List Int} {i:Nat} (h:i<m):(mL m fl).set i 1=mL m (fl++ [(i:Int)]):=by
 refine List.ext_getElem (by simp [mL]) fun j h1 h2=> ?_
 rw [List.getElem_set]
 simp only [mL,List.getElem_map,List.getElem_range,List.mem_append,List.mem_singleton]
 by_cases e:i=j
 ·subst e;simp
 ·rw [if_neg e]
  have:¬(j:Int)=(i:Int):=by omega
  simp [this]
theorem Cx {outs:List (List Int)} {x k:Nat} (hx:x<outs.length):((outs.take x).flatten++(outs.getD x []).take k).Sublist outs.flatten:=by
 have e:outs=outs.take x++outs.getD x []::outs.drop (x+1):=by
  conv=>lhs;rw [← List.take_append_drop x outs]
  congr 1
  rw [List.drop_eq_getElem_cons hx,List.getD_eq_getElem?_getD,List.getElem?_eq_getElem hx]
  rfl
 conv=>rhs;rw [e]
 rw [List.flatten_append,List.flatten_cons]
 exact List.Sublist.append (List.Sublist.refl _) ((List.take_sublist _ _).trans (List.sublist_append_left _ _))
theorem x8 {l:List Int} {k:Nat} (h:k<l.length):l.take (k+1)=l.take k++ [l.getD k 0]:=by
 rw [List.take_add_one,List.getD_eq_getElem?_getD,List.getElem?_eq_getElem h];rfl
theorem nO {g:Gr} {x i:Int} :i∈bu g x↔(0≤i∧i<g.es.length)∧(g.es.getD i.toNat (0,0)).1=x:=by
 constructor
 ·exact ig
 ·rintro ⟨⟨h1,h2⟩,h3⟩
  simp only [bu,bg,List.mem_map,List.mem_filter,List.mem_range,decide_eq_true_eq]
  exact ⟨i.toNat,⟨by omega,h3⟩,by simp;omega⟩
theorem Cy (g:Gr) (hl:g.es.length≤9223372036854775807) (p:Pl) (hp:pI p) (res:Bool) (hr:res=true↔(cr g).1=0∧bF g p):Spec Tryz.prog 117 (Args [eG g,ePl p]) [] (eB res) []:=by
 have ho:p.ord.length≤9223372036854775807:=by have:=hp.ord;omega
 have Gw:=hp.outs
 by_cases hc:(cr g).1=0
 rotate_left
 ·have hres:res=false:=by
   rw [← Bool.not_eq_true,hr]
   rintro ⟨h,_⟩
   exact hc h
  subst hres
  have an:decide ((cr g).1=0)=false:=decide_eq_false hc
  (refine Spec.intro (C:=T.cfg [] []) (rs:= [.t 4]) (T.aq _ _) Tryz.func117 rfl rfl Tryz.ntmps117 Tryz.results117 (by simp [AObj.isNest]) (by simp [AObj.isNest]) (by kernel_rfl) ?_;intro X hX hP hC aN aO vals hA;refine ⟨_,by simp,hA, ?_⟩;have af:X.P.follows .mixedOrders=true:=(by rw [hP];exact T.mixed);clear aN aO)
  repeat' (first|fail|((first|((with_reducible (first|apply oA|apply oB));exact rfl;intro K hK)|(refine hK _ ?_;clear hK K)|((with_reducible (first|apply oG|apply oH));iterate 3 exact rfl)|((with_reducible apply oI);(iterate 2 exact rfl);intro K hK)|(with_reducible (first|apply wI|apply wJ|apply wK)));try simp only [go_sem,simprocAttr,an])|fail|(with_reducible (first|apply oC|apply oJ|exact oK|apply wA|apply wB|apply wC hX hC|apply wD hX hC|apply wE hX hC af|apply wF hX hC af|apply wG|apply wH|apply And.intro))|((with_reducible refine oD ?_ ?_);first|fail|kernel_rfl)|((with_reducible (first|apply oE|apply oF));(iterate 3 exact rfl);all_goals (intro h;first|(exact absurd h (by decide))|((try simp only [go_sem,simprocAttr,an] at h);(try with_reducible intro K hK);simp only [go_sem,simprocAttr,an])))|((first|((with_reducible apply wL);exact rfl)|((with_reducible apply wM);exact rfl));all_goals (try ((with_reducible intro h);first|(exact absurd h (by decide))|(try simp only [go_sem,simprocAttr,an] at h))))|omega|((first|first|refine aa hX hC hP (aQ g hl) rfl rfl rfl (by simp only [go_sem,simprocAttr,an]) rfl ?_);try simp only [go_sem,simprocAttr,an])|(intro h))
 have an:decide ((cr g).1=0)=true:=decide_eq_true hc
 have hm:=aE hc
 have hn:=aZ hm
 have hr:res=true↔bF g p:=by rw [hr];exact ⟨fun h=>h.2,fun h=>⟨hc,h⟩⟩
 rw [← yV hm] at hr
 by_cases he:ga p.ord g.n=true∧p.outs.length=g.n.toNat
 rotate_left
 ·have hres:res=false:=by
   rw [← Bool.not_eq_true,hr]
   rintro ⟨h2,h3,_⟩
   exact he ⟨h2,h3⟩
  subst hres
  cases h2:ga p.ord g.n with
  |false=>
   (refine Spec.intro (C:=T.cfg [] []) (rs:= [.t 4]) (T.aq _ _) Tryz.func117 rfl rfl Tryz.ntmps117 Tryz.results117 (by simp [AObj.isNest]) (by simp [AObj.isNest]) (by kernel_rfl) ?_;intro X hX hP hC aN aO vals hA;refine ⟨_,by simp,hA, ?_⟩;have af:X.P.follows .mixedOrders=true:=(by rw [hP];exact T.mixed);clear aN aO)
   repeat' (first|fail|((first|((with_reducible (first|apply oA|apply oB));exact rfl;intro K hK)|(refine hK _ ?_;clear hK K)|((with_reducible (first|apply oG|apply oH));iterate 3 exact rfl)|((with_reducible apply oI);(iterate 2 exact rfl);intro K hK)|(with_reducible (first|apply wI|apply wJ|apply wK)));try simp only [go_sem,simprocAttr,an,h2])|fail|(with_reducible (first|apply oC|apply oJ|exact oK|apply wA|apply wB|apply wC hX hC|apply wD hX hC|apply wE hX hC af|apply wF hX hC af|apply wG|apply wH|apply And.intro))|((with_reducible refine oD ?_ ?_);first|fail|kernel_rfl)|((with_reducible (first|apply oE|apply oF));(iterate 3 exact rfl);all_goals (intro h;first|(exact absurd h (by decide))|((try simp only [go_sem,simprocAttr,an,h2] at h);(try with_reducible intro K hK);simp only [go_sem,simprocAttr,an,h2])))|((first|((with_reducible apply wL);exact rfl)|((with_reducible apply wM);exact rfl));all_goals (try ((with_reducible intro h);first|(exact absurd h (by decide))|(try simp only [go_sem,simprocAttr,an,h2] at h))))|omega|((first|first|refine aa hX hC hP (aQ g hl) rfl rfl rfl (by simp only [go_sem,simprocAttr,an,h2]) rfl ?_|refine aa hX hC hP (cn p.ord g.n ho) rfl rfl rfl (by simp only [go_sem,simprocAttr,an,h2]) rfl ?_);try simp only [go_sem,simprocAttr,an,h2])|(intro h))
  |true=>
   have aj:decide ((p.outs.length:Int)=g.n)=false:=decide_eq_false fun h3=>he ⟨h2,by omega⟩
   (refine Spec.intro (C:=T.cfg [] []) (rs:= [.t 4]) (T.aq _ _) Tryz.func117 rfl rfl Tryz.ntmps117 Tryz.results117 (by simp [AObj.isNest]) (by simp [AObj.isNest]) (by kernel_rfl) ?_;intro X hX hP hC aN aO vals hA;refine ⟨_,by simp,hA, ?_⟩;have af:X.P.follows .mixedOrders=true:=(by rw [hP];exact T.mixed);clear aN aO)
   repeat' (first|fail|((first|((with_reducible (first|apply oA|apply oB));exact rfl;intro K hK)|(refine hK _ ?_;clear hK K)|((with_reducible (first|apply oG|apply oH));iterate 3 exact rfl)|((with_reducible apply oI);(iterate 2 exact rfl);intro K hK)|(with_reducible (first|apply wI|apply wJ|apply wK)));try simp only [go_sem,simprocAttr,an,h2,aj])|fail|(with_reducible (first|apply oC|apply oJ|exact oK|apply wA|apply wB|apply wC hX hC|apply wD hX hC|apply wE hX hC af|apply wF hX hC af|apply wG|apply wH|apply And.intro))|((with_reducible refine oD ?_ ?_);first|fail|kernel_rfl)|((with_reducible (first|apply oE|apply oF));(iterate 3 exact rfl);all_goals (intro h;first|(exact absurd h (by decide))|((try simp only [go_sem,simprocAttr,an,h2,aj] at h);(try with_reducible intro K hK);simp only [go_sem,simprocAttr,an,h2,aj])))|((first|((with_reducible apply wL);exact rfl)|((with_reducible apply wM);exact rfl));all_goals (try ((with_reducible intro h);first|(exact absurd h (by decide))|(try simp only [go_sem,simprocAttr,an,h2,aj] at h))))|omega|((first|first|refine aa hX hC hP (aQ g hl) rfl rfl rfl (by simp only [go_sem,simprocAttr,an,h2,aj]) rfl ?_|refine aa hX hC hP (cn p.ord g.n ho) rfl rfl rfl (by simp only [go_sem,simprocAttr,an,h2,aj]) rfl ?_);try simp only [go_sem,simprocAttr,an,h2,aj])|(intro h))
 obtain ⟨mZ,vi⟩:=he
 have aj:decide ((p.outs.length:Int)=g.n)=true:=decide_eq_true (by omega)
 (refine Spec.intro (C:=T.cfg [] []) (rs:= [.t 4]) (T.aq _ _) Tryz.func117 rfl rfl Tryz.ntmps117 Tryz.results117 (by simp [AObj.isNest]) (by simp [AObj.isNest]) (by kernel_rfl) ?_;intro X hX hP hC aN aO vals hA;refine ⟨_,by simp,hA, ?_⟩;have af:X.P.follows .mixedOrders=true:=(by rw [hP];exact T.mixed);clear aN aO)
 repeat' (first|fail|((first|((with_reducible (first|apply oA|apply oB));exact rfl;intro K hK)|(refine hK _ ?_;clear hK K)|((with_reducible (first|apply oG|apply oH));iterate 3 exact rfl)|((with_reducible apply oI);(iterate 2 exact rfl);intro K hK)|(with_reducible (first|apply wI|apply wJ|apply wK)));try simp only [go_sem,simprocAttr,an,mZ,aj])|fail|(with_reducible (first|apply oC|apply oJ|exact oK|apply wA|apply wB|apply wC hX hC|apply wD hX hC|apply wE hX hC af|apply wF hX hC af|apply wG|apply wH|apply And.intro))|((with_reducible refine oD ?_ ?_);first|fail|kernel_rfl)|((with_reducible (first|apply oE|apply oF));(iterate 3 exact rfl);all_goals (intro h;first|(exact absurd h (by decide))|((try simp only [go_sem,simprocAttr,an,mZ,aj] at h);(try with_reducible intro K hK);simp only [go_sem,simprocAttr,an,mZ,aj])))|((first|((with_reducible apply wL);exact rfl)|((with_reducible apply wM);exact rfl));all_goals (try ((with_reducible intro h);first|(exact absurd h (by decide))|(try simp only [go_sem,simprocAttr,an,mZ,aj] at h))))|omega|((first|first|refine aa hX hC hP (aQ g hl) rfl rfl rfl (by simp only [go_sem,simprocAttr,an,mZ,aj]) rfl ?_|refine aa hX hC hP (cn p.ord g.n ho) rfl rfl rfl (by simp only [go_sem,simprocAttr,an,mZ,aj]) rfl ?_);try simp only [go_sem,simprocAttr,an,mZ,aj])|(intro h))
 clear an aj
 have As:List.replicate g.es.length [D.sc (.int .i64 0)]=(mL g.es.length []).map rI:=by rw [Ar,List.map_replicate];rfl
 rw [As]
 clear As
 refine ak (fun x:Nat=>x≤p.outs.length∧(p.outs.take x).flatten.Nodup∧∀y:Nat,y<x→∀i∈p.outs.getD y [],i∈bu g y) (fun x=>⟨[(2, .ptr 2 0),(3, .ptr 3 0),(5, .ref 32),(6,eN x)], [(32, .own 3 1 ((mL g.es.length (p.outs.take x).flatten).map rI)),(3, .box [.d (sI p.ord), .d (.sl 1 (vI p.outs))]),(2, .box [eN g.n, .d (sE g.es)])]⟩) (fun x=>p.outs.length - x) 0 (by simp) ?_ ?_
 ·refine Le.of ?_ ?_<;>simp [go_sem,simprocAttr]
 rintro x ⟨hx,cg,uU⟩
 rcases Nat.lt_or_ge x p.outs.length with hxl|Dl
 ·have hb:decide ((x:Int)<(p.outs.length:Int))=true:=decide_eq_true (by omega)
  have hv:=iV hxl
  have hle:=hp.each _ (aK (d:= []) hxl)
  have hpre:=fun k=>Cx (k:=k) hxl
  have hnext:(p.outs.take (x+1)).flatten=(p.outs.take x).flatten++p.outs.getD x []:=by
   rw [List.take_add_one,List.flatten_append,List.getD_eq_getElem?_getD,List.getElem?_eq_getElem hxl];simp
  have jd:∀i∈p.outs.getD x [],i∉bu g x→res=false:=fun i hi hn=>by
   rw [← Bool.not_eq_true,hr]
   rintro ⟨_,_,h3,_⟩
   exact hn (h3 x hxl i hi)
  have xm:∀k,¬((p.outs.take x).flatten++(p.outs.getD x []).take k).Nodup→res=false:=fun k hn=>by
   rw [← Bool.not_eq_true,hr]
   rintro ⟨_,_,_,h4,_⟩
   exact hn (List.Nodup.sublist (hpre k) h4)
  have BM:(∀i∈p.outs.getD x [],i∈bu g x)→∀y:Nat,y<x+1→∀i∈p.outs.getD y [],i∈bu g y:=fun h y hy=>by
   by_cases e:y=x
   ·subst e;exact h
   ·exact uU y (by omega)
  generalize p.outs.getD x []=l at hv hle hpre hnext jd xm BM
  generalize (p.outs.take x).flatten=fl at cg hpre hnext xm
  clear hpre
  repeat' (first|fail|((first|((with_reducible (first|apply oA|apply oB));exact rfl;intro K hK)|(refine hK _ ?_;clear hK K)|((with_reducible (first|apply oG|apply oH));iterate 3 exact rfl)|((with_reducible apply oI);(iterate 2 exact rfl);intro K hK)|(with_reducible (first|apply wI|apply wJ|apply wK)));try simp only [go_sem,simprocAttr,hb,hv])|fail|(with_reducible (first|apply oC|apply oJ|exact oK|apply wA|apply wB|apply wC hX hC|apply wD hX hC|apply wE hX hC af|apply wF hX hC af|apply wG|apply wH|apply And.intro))|((with_reducible refine oD ?_ ?_);first|fail|kernel_rfl)|((with_reducible (first|apply oE|apply oF));(iterate 3 exact rfl);all_goals (intro h;first|(exact absurd h (by decide))|((try simp only [go_sem,simprocAttr,hb,hv] at h);(try with_reducible intro K hK);simp only [go_sem,simprocAttr,hb,hv])))|((first|((with_reducible apply wL);exact rfl)|((with_reducible apply wM);exact rfl));all_goals (try ((with_reducible intro h);first|(exact absurd h (by decide))|(try simp only [go_sem,simprocAttr,hb,hv] at h))))|omega|((first|first|refine aa hX hC hP (aQ g hl) rfl rfl rfl (by simp only [go_sem,simprocAttr,hb,hv]) rfl ?_|refine aa hX hC hP (cn p.ord g.n ho) rfl rfl rfl (by simp only [go_sem,simprocAttr,hb,hv]) rfl ?_);try simp only [go_sem,simprocAttr,hb,hv])|(intro h))
  clear hb
  refine ak (fun k:Nat=>k≤l.length∧(fl++l.take k).Nodup∧∀i∈l.take k,i∈bu g x) (fun k=>⟨[(2, .ptr 2 0),(3, .ptr 3 0),(5, .ref 32),(6,eN x),(7,eN k)], [(32, .own 3 1 ((mL g.es.length (fl++l.take k)).map rI)),(3, .box [.d (sI p.ord), .d (.sl 1 (vI p.outs))]),(2, .box [eN g.n, .d (sE g.es)])]⟩) (fun k=>l.length - k) 0 (by simpa using cg) ?_ ?_
  ·refine Le.of ?_ ?_<;>simp [go_sem,simprocAttr]
  rintro k ⟨hk,zG,Gl⟩
  rcases Nat.lt_or_ge k l.length with cu|EB
  ·have bP:decide ((k:Int)<(l.length:Int))=true:=decide_eq_true (by omega)
   have uR:=x8 cu
   have him:=aK (d:=0) cu
   have dL:=wV (m:=g.es.length) (fl:=fl++l.take k)
   generalize hi:l.getD k 0=i at uR him
   by_cases h0:i<0
   ·have hres:=jd i him (fun h=>by have:=(nO.1 h).1;omega)
    subst hres
    have an:decide (i<0)=true:=decide_eq_true h0
    repeat' (first|fail|((first|((with_reducible (first|apply oA|apply oB));exact rfl;intro K hK)|(refine hK _ ?_;clear hK K)|((with_reducible (first|apply oG|apply oH));iterate 3 exact rfl)|((with_reducible apply oI);(iterate 2 exact rfl);intro K hK)|(with_reducible (first|apply wI|apply wJ|apply wK)));try simp only [go_sem,simprocAttr,bP,hv,hi,an])|fail|(with_reducible (first|apply oC|apply oJ|exact oK|apply wA|apply wB|apply wC hX hC|apply wD hX hC|apply wE hX hC af|apply wF hX hC af|apply wG|apply wH|apply And.intro))|((with_reducible refine oD ?_ ?_);first|fail|kernel_rfl)|((with_reducible (first|apply oE|apply oF));(iterate 3 exact rfl);all_goals (intro h;first|(exact absurd h (by decide))|((try simp only [go_sem,simprocAttr,bP,hv,hi,an] at h);(try with_reducible intro K hK);simp only [go_sem,simprocAttr,bP,hv,hi,an])))|((first|((with_reducible apply wL);exact rfl)|((with_reducible apply wM);exact rfl));all_goals (try ((with_reducible intro h);first|(exact absurd h (by decide))|(try simp only [go_sem,simprocAttr,bP,hv,hi,an] at h))))|omega|((first|first|refine aa hX hC hP (aQ g hl) rfl rfl rfl (by simp only [go_sem,simprocAttr,bP,hv,hi,an]) rfl ?_|refine aa hX hC hP (cn p.ord g.n ho) rfl rfl rfl (by simp only [go_sem,simprocAttr,bP,hv,hi,an]) rfl ?_);try simp only [go_sem,simprocAttr,bP,hv,hi,an])|(intro h))
   have an:decide (i<0)=false:=decide_eq_false h0
   by_cases h1:(g.es.length:Int)≤i
   ·have hres:=jd i him (fun h=>by have:=(nO.1 h).1;omega)
    subst hres
    have aj:decide ((g.es.length:Int)≤i)=true:=decide_eq_true h1
    repeat' (first|fail|((first|((with_reducible (first|apply oA|apply oB));exact rfl;intro K hK)|(refine hK _ ?_;clear hK K)|((with_reducible (first|apply oG|apply oH));iterate 3 exact rfl)|((with_reducible apply oI);(iterate 2 exact rfl);intro K hK)|(with_reducible (first|apply wI|apply wJ|apply wK)));try simp only [go_sem,simprocAttr,bP,hv,hi,an,aj,dL])|fail|(with_reducible (first|apply oC|apply oJ|exact oK|apply wA|apply wB|apply wC hX hC|apply wD hX hC|apply wE hX hC af|apply wF hX hC af|apply wG|apply wH|apply And.intro))|((with_reducible refine oD ?_ ?_);first|fail|kernel_rfl)|((with_reducible (first|apply oE|apply oF));(iterate 3 exact rfl);all_goals (intro h;first|(exact absurd h (by decide))|((try simp only [go_sem,simprocAttr,bP,hv,hi,an,aj,dL] at h);(try with_reducible intro K hK);simp only [go_sem,simprocAttr,bP,hv,hi,an,aj,dL])))|((first|((with_reducible apply wL);exact rfl)|((with_reducible apply wM);exact rfl));all_goals (try ((with_reducible intro h);first|(exact absurd h (by decide))|(try simp only [go_sem,simprocAttr,bP,hv,hi,an,aj,dL] at h))))|omega|((first|first|refine aa hX hC hP (aQ g hl) rfl rfl rfl (by simp only [go_sem,simprocAttr,bP,hv,hi,an,aj,dL]) rfl ?_|refine aa hX hC hP (cn p.ord g.n ho) rfl rfl rfl (by simp only [go_sem,simprocAttr,bP,hv,hi,an,aj,dL]) rfl ?_);try simp only [go_sem,simprocAttr,bP,hv,hi,an,aj,dL])|(intro h))
   have aj:decide ((g.es.length:Int)≤i)=false:=decide_eq_false h1
   obtain ⟨e,rfl⟩:∃e:Nat,i=e:=⟨i.toNat,by omega⟩
   have hel:e<g.es.length:=by omega
   by_cases h2:(g.es.getD e (0,0)).1=x
   rotate_left
   ·have hres:=jd _ him (fun h=>h2 (by have:=(nO.1 h).2;rwa [Int.toNat_natCast] at this))
    subst hres
    have bt:decide ((g.es.getD e (0,0)).1=(x:Int))=false:=decide_eq_false h2
    repeat' (first|fail|((first|((with_reducible (first|apply oA|apply oB));exact rfl;intro K hK)|(refine hK _ ?_;clear hK K)|((with_reducible (first|apply oG|apply oH));iterate 3 exact rfl)|((with_reducible apply oI);(iterate 2 exact rfl);intro K hK)|(with_reducible (first|apply wI|apply wJ|apply wK)));try simp only [go_sem,simprocAttr,bP,hv,hi,an,aj,bt,dL])|fail|(with_reducible (first|apply oC|apply oJ|exact oK|apply wA|apply wB|apply wC hX hC|apply wD hX hC|apply wE hX hC af|apply wF hX hC af|apply wG|apply wH|apply And.intro))|((with_reducible refine oD ?_ ?_);first|fail|kernel_rfl)|((with_reducible (first|apply oE|apply oF));(iterate 3 exact rfl);all_goals (intro h;first|(exact absurd h (by decide))|((try simp only [go_sem,simprocAttr,bP,hv,hi,an,aj,bt,dL] at h);(try with_reducible intro K hK);simp only [go_sem,simprocAttr,bP,hv,hi,an,aj,bt,dL])))|((first|((with_reducible apply wL);exact rfl)|((with_reducible apply wM);exact rfl));all_goals (try ((with_reducible intro h);first|(exact absurd h (by decide))|(try simp only [go_sem,simprocAttr,bP,hv,hi,an,aj,bt,dL] at h))))|omega|((first|first|refine aa hX hC hP (aQ g hl) rfl rfl rfl (by simp only [go_sem,simprocAttr,bP,hv,hi,an,aj,bt,dL]) rfl ?_|refine aa hX hC hP (cn p.ord g.n ho) rfl rfl rfl (by simp only [go_sem,simprocAttr,bP,hv,hi,an,aj,bt,dL]) rfl ?_);try simp only [go_sem,simprocAttr,bP,hv,hi,an,aj,bt,dL])|(intro h))
   have bt:decide ((g.es.getD e (0,0)).1=(x:Int))=true:=decide_eq_true h2
   have ld:=yX (fl:=fl++l.take k) hel
   by_cases h3:(e:Int)∈fl++l.take k
   ·have hres:=xm (k+1) (fun h=>by
     rw [uR, ← List.append_assoc,List.nodup_append] at h
     exact h.2.2 _ h3 _ (List.mem_singleton.2 rfl) rfl)
    subst hres
    rw [if_pos h3] at ld
    repeat' (first|fail|((first|((with_reducible (first|apply oA|apply oB));exact rfl;intro K hK)|(refine hK _ ?_;clear hK K)|((with_reducible (first|apply oG|apply oH));iterate 3 exact rfl)|((with_reducible apply oI);(iterate 2 exact rfl);intro K hK)|(with_reducible (first|apply wI|apply wJ|apply wK)));try simp only [go_sem,simprocAttr,bP,hv,hi,an,aj,bt,dL,ld])|fail|(with_reducible (first|apply oC|apply oJ|exact oK|apply wA|apply wB|apply wC hX hC|apply wD hX hC|apply wE hX hC af|apply wF hX hC af|apply wG|apply wH|apply And.intro))|((with_reducible refine oD ?_ ?_);first|fail|kernel_rfl)|((with_reducible (first|apply oE|apply oF));(iterate 3 exact rfl);all_goals (intro h;first|(exact absurd h (by decide))|((try simp only [go_sem,simprocAttr,bP,hv,hi,an,aj,bt,dL,ld] at h);(try with_reducible intro K hK);simp only [go_sem,simprocAttr,bP,hv,hi,an,aj,bt,dL,ld])))|((first|((with_reducible apply wL);exact rfl)|((with_reducible apply wM);exact rfl));all_goals (try ((with_reducible intro h);first|(exact absurd h (by decide))|(try simp only [go_sem,simprocAttr,bP,hv,hi,an,aj,bt,dL,ld] at h))))|omega|((first|first|refine aa hX hC hP (aQ g hl) rfl rfl rfl (by simp only [go_sem,simprocAttr,bP,hv,hi,an,aj,bt,dL,ld]) rfl ?_|refine aa hX hC hP (cn p.ord g.n ho) rfl rfl rfl (by simp only [go_sem,simprocAttr,bP,hv,hi,an,aj,bt,dL,ld]) rfl ?_);try simp only [go_sem,simprocAttr,bP,hv,hi,an,aj,bt,dL,ld])|(intro h))
   ·rw [if_neg h3] at ld
    have cw:=Cw (fl:=fl++l.take k) hel
    rw [List.append_assoc, ← uR] at cw
    repeat' (first|fail|((first|((with_reducible (first|apply oA|apply oB));exact rfl;intro K hK)|(refine hK _ ?_;clear hK K)|((with_reducible (first|apply oG|apply oH));iterate 3 exact rfl)|((with_reducible apply oI);(iterate 2 exact rfl);intro K hK)|(with_reducible (first|apply wI|apply wJ|apply wK)));try simp only [go_sem,simprocAttr,bP,hv,hi,an,aj,bt,dL,ld])|fail|(with_reducible (first|apply oC|apply oJ|exact oK|apply wA|apply wB|apply wC hX hC|apply wD hX hC|apply wE hX hC af|apply wF hX hC af|apply wG|apply wH|apply And.intro))|((with_reducible refine oD ?_ ?_);first|fail|kernel_rfl)|((with_reducible (first|apply oE|apply oF));(iterate 3 exact rfl);all_goals (intro h;first|(exact absurd h (by decide))|((try simp only [go_sem,simprocAttr,bP,hv,hi,an,aj,bt,dL,ld] at h);(try with_reducible intro K hK);simp only [go_sem,simprocAttr,bP,hv,hi,an,aj,bt,dL,ld])))|((first|((with_reducible apply wL);exact rfl)|((with_reducible apply wM);exact rfl));all_goals (try ((with_reducible intro h);first|(exact absurd h (by decide))|(try simp only [go_sem,simprocAttr,bP,hv,hi,an,aj,bt,dL,ld] at h))))|omega|((first|first|refine aa hX hC hP (aQ g hl) rfl rfl rfl (by simp only [go_sem,simprocAttr,bP,hv,hi,an,aj,bt,dL,ld]) rfl ?_|refine aa hX hC hP (cn p.ord g.n ho) rfl rfl rfl (by simp only [go_sem,simprocAttr,bP,hv,hi,an,aj,bt,dL,ld]) rfl ?_);try simp only [go_sem,simprocAttr,bP,hv,hi,an,aj,bt,dL,ld])|(intro h))
    refine ⟨k+1,⟨by omega, ?_, ?_⟩, ?_,by omega⟩
    ·rw [uR, ← List.append_assoc,List.nodup_append]
     exact ⟨zG,by simp,fun a ha b hb h=>h3 (by rw [List.mem_singleton] at hb;rw [← hb, ← h];exact ha)⟩
    ·intro j hj
     rw [uR,List.mem_append,List.mem_singleton] at hj
     rcases hj with hj|rfl
     ·exact Gl j hj
     ·exact nO.2 ⟨⟨by omega,by omega⟩,by rw [Int.toNat_natCast];exact h2⟩
    ·rw [← cw]
     refine Le.of ?_ ?_<;>simp [go_sem,simprocAttr,bP,hv,hi,an,aj,bt,dL,ld,rI]
  ·have bP:decide ((k:Int)<(l.length:Int))=false:=decide_eq_false (by omega)
   obtain rfl:k=l.length:=by omega
   rw [List.take_length] at zG Gl
   repeat' (first|fail|((first|((with_reducible (first|apply oA|apply oB));exact rfl;intro K hK)|(refine hK _ ?_;clear hK K)|((with_reducible (first|apply oG|apply oH));iterate 3 exact rfl)|((with_reducible apply oI);(iterate 2 exact rfl);intro K hK)|(with_reducible (first|apply wI|apply wJ|apply wK)));try simp only [go_sem,simprocAttr,bP,hv])|fail|(with_reducible (first|apply oC|apply oJ|exact oK|apply wA|apply wB|apply wC hX hC|apply wD hX hC|apply wE hX hC af|apply wF hX hC af|apply wG|apply wH|apply And.intro))|((with_reducible refine oD ?_ ?_);first|fail|kernel_rfl)|((with_reducible (first|apply oE|apply oF));(iterate 3 exact rfl);all_goals (intro h;first|(exact absurd h (by decide))|((try simp only [go_sem,simprocAttr,bP,hv] at h);(try with_reducible intro K hK);simp only [go_sem,simprocAttr,bP,hv])))|((first|((with_reducible apply wL);exact rfl)|((with_reducible apply wM);exact rfl));all_goals (try ((with_reducible intro h);first|(exact absurd h (by decide))|(try simp only [go_sem,simprocAttr,bP,hv] at h))))|omega|((first|first|refine aa hX hC hP (aQ g hl) rfl rfl rfl (by simp only [go_sem,simprocAttr,bP,hv]) rfl ?_|refine aa hX hC hP (cn p.ord g.n ho) rfl rfl rfl (by simp only [go_sem,simprocAttr,bP,hv]) rfl ?_);try simp only [go_sem,simprocAttr,bP,hv])|(intro h))
   refine ⟨x+1,⟨by omega,by rw [hnext];exact zG,BM Gl⟩, ?_,by omega⟩
   rw [hnext]
   refine Le.of ?_ ?_<;>simp [go_sem,simprocAttr,bP,hv]
 have hb:decide ((x:Int)<(p.outs.length:Int))=false:=decide_eq_false (by omega)
 obtain rfl:x=p.outs.length:=by omega
 rw [List.take_length] at cg
 rw [List.take_length]
 have dL:=wV (m:=g.es.length) (fl:=p.outs.flatten)
 repeat' (first|fail|((first|((with_reducible (first|apply oA|apply oB));exact rfl;intro K hK)|(refine hK _ ?_;clear hK K)|((with_reducible (first|apply oG|apply oH));iterate 3 exact rfl)|((with_reducible apply oI);(iterate 2 exact rfl);intro K hK)|(with_reducible (first|apply wI|apply wJ|apply wK)));try simp only [go_sem,simprocAttr,hb])|fail|(with_reducible (first|apply oC|apply oJ|exact oK|apply wA|apply wB|apply wC hX hC|apply wD hX hC|apply wE hX hC af|apply wF hX hC af|apply wG|apply wH|apply And.intro))|((with_reducible refine oD ?_ ?_);first|fail|kernel_rfl)|((with_reducible (first|apply oE|apply oF));(iterate 3 exact rfl);all_goals (intro h;first|(exact absurd h (by decide))|((try simp only [go_sem,simprocAttr,hb] at h);(try with_reducible intro K hK);simp only [go_sem,simprocAttr,hb])))|((first|((with_reducible apply wL);exact rfl)|((with_reducible apply wM);exact rfl));all_goals (try ((with_reducible intro h);first|(exact absurd h (by decide))|(try simp only [go_sem,simprocAttr,hb] at h))))|omega|((first|first|refine aa hX hC hP (aQ g hl) rfl rfl rfl (by simp only [go_sem,simprocAttr,hb]) rfl ?_|refine aa hX hC hP (cn p.ord g.n ho) rfl rfl rfl (by simp only [go_sem,simprocAttr,hb]) rfl ?_);try simp only [go_sem,simprocAttr,hb])|(intro h))
 clear hb
 refine ak (fun k:Nat=>k≤g.es.length∧∀i:Nat,i<k→(i:Int)∈p.outs.flatten) (fun k=>⟨[(5, .ref 32),(9,eN k)], [(32, .own 3 1 ((mL g.es.length p.outs.flatten).map rI))]⟩) (fun k=>g.es.length - k) 0 (by simp) ?_ ?_
 ·refine Le.of ?_ ?_<;>simp [go_sem,simprocAttr]
 rintro k ⟨hk,Gl⟩
 rcases Nat.lt_or_ge k g.es.length with cu|EB
 ·have bP:decide ((k:Int)<(g.es.length:Int))=true:=decide_eq_true (by omega)
  have ld:=yX (fl:=p.outs.flatten) cu
  by_cases h3:(k:Int)∈p.outs.flatten
  ·rw [if_pos h3] at ld
   repeat' (first|fail|((first|((with_reducible (first|apply oA|apply oB));exact rfl;intro K hK)|(refine hK _ ?_;clear hK K)|((with_reducible (first|apply oG|apply oH));iterate 3 exact rfl)|((with_reducible apply oI);(iterate 2 exact rfl);intro K hK)|(with_reducible (first|apply wI|apply wJ|apply wK)));try simp only [go_sem,simprocAttr,bP,dL,ld])|fail|(with_reducible (first|apply oC|apply oJ|exact oK|apply wA|apply wB|apply wC hX hC|apply wD hX hC|apply wE hX hC af|apply wF hX hC af|apply wG|apply wH|apply And.intro))|((with_reducible refine oD ?_ ?_);first|fail|kernel_rfl)|((with_reducible (first|apply oE|apply oF));(iterate 3 exact rfl);all_goals (intro h;first|(exact absurd h (by decide))|((try simp only [go_sem,simprocAttr,bP,dL,ld] at h);(try with_reducible intro K hK);simp only [go_sem,simprocAttr,bP,dL,ld])))|((first|((with_reducible apply wL);exact rfl)|((with_reducible apply wM);exact rfl));all_goals (try ((with_reducible intro h);first|(exact absurd h (by decide))|(try simp only [go_sem,simprocAttr,bP,dL,ld] at h))))|omega|((first|first|refine aa hX hC hP (aQ g hl) rfl rfl rfl (by simp only [go_sem,simprocAttr,bP,dL,ld]) rfl ?_|refine aa hX hC hP (cn p.ord g.n ho) rfl rfl rfl (by simp only [go_sem,simprocAttr,bP,dL,ld]) rfl ?_);try simp only [go_sem,simprocAttr,bP,dL,ld])|(intro h))
   refine ⟨k+1,⟨by omega,fun i hi=> ?_⟩, ?_,by omega⟩
   ·by_cases e:i=k
    ·subst e;exact h3
    ·exact Gl i (by omega)
   ·(refine Le.of ?_ ?_<;>simp [go_sem,simprocAttr,bP,dL,ld])
  ·rw [if_neg h3] at ld
   have hres:res=false:=by
    rw [← Bool.not_eq_true,hr]
    rintro ⟨_,_,_,_,h5⟩
    exact h3 (h5 k cu)
   subst hres
   repeat' (first|fail|((first|((with_reducible (first|apply oA|apply oB));exact rfl;intro K hK)|(refine hK _ ?_;clear hK K)|((with_reducible (first|apply oG|apply oH));iterate 3 exact rfl)|((with_reducible apply oI);(iterate 2 exact rfl);intro K hK)|(with_reducible (first|apply wI|apply wJ|apply wK)));try simp only [go_sem,simprocAttr,bP,dL,ld])|fail|(with_reducible (first|apply oC|apply oJ|exact oK|apply wA|apply wB|apply wC hX hC|apply wD hX hC|apply wE hX hC af|apply wF hX hC af|apply wG|apply wH|apply And.intro))|((with_reducible refine oD ?_ ?_);first|fail|kernel_rfl)|((with_reducible (first|apply oE|apply oF));(iterate 3 exact rfl);all_goals (intro h;first|(exact absurd h (by decide))|((try simp only [go_sem,simprocAttr,bP,dL,ld] at h);(try with_reducible intro K hK);simp only [go_sem,simprocAttr,bP,dL,ld])))|((first|((with_reducible apply wL);exact rfl)|((with_reducible apply wM);exact rfl));all_goals (try ((with_reducible intro h);first|(exact absurd h (by decide))|(try simp only [go_sem,simprocAttr,bP,dL,ld] at h))))|omega|((first|first|refine aa hX hC hP (aQ g hl) rfl rfl rfl (by simp only [go_sem,simprocAttr,bP,dL,ld]) rfl ?_|refine aa hX hC hP (cn p.ord g.n ho) rfl rfl rfl (by simp only [go_sem,simprocAttr,bP,dL,ld]) rfl ?_);try simp only [go_sem,simprocAttr,bP,dL,ld])|(intro h))
 ·have bP:decide ((k:Int)<(g.es.length:Int))=false:=decide_eq_false (by omega)
  obtain rfl:k=g.es.length:=by omega
  have hres:res=true:=hr.2 ⟨mZ,vi,uU,cg,Gl⟩
  subst hres
  repeat' (first|fail|((first|((with_reducible (first|apply oA|apply oB));exact rfl;intro K hK)|(refine hK _ ?_;clear hK K)|((with_reducible (first|apply oG|apply oH));iterate 3 exact rfl)|((with_reducible apply oI);(iterate 2 exact rfl);intro K hK)|(with_reducible (first|apply wI|apply wJ|apply wK)));try simp only [go_sem,simprocAttr,bP,dL])|fail|(with_reducible (first|apply oC|apply oJ|exact oK|apply wA|apply wB|apply wC hX hC|apply wD hX hC|apply wE hX hC af|apply wF hX hC af|apply wG|apply wH|apply And.intro))|((with_reducible refine oD ?_ ?_);first|fail|kernel_rfl)|((with_reducible (first|apply oE|apply oF));(iterate 3 exact rfl);all_goals (intro h;first|(exact absurd h (by decide))|((try simp only [go_sem,simprocAttr,bP,dL] at h);(try with_reducible intro K hK);simp only [go_sem,simprocAttr,bP,dL])))|((first|((with_reducible apply wL);exact rfl)|((with_reducible apply wM);exact rfl));all_goals (try ((with_reducible intro h);first|(exact absurd h (by decide))|(try simp only [go_sem,simprocAttr,bP,dL] at h))))|omega|((first|first|refine aa hX hC hP (aQ g hl) rfl rfl rfl (by simp only [go_sem,simprocAttr,bP,dL]) rfl ?_|refine aa hX hC hP (cn p.ord g.n ho) rfl rfl rfl (by simp only [go_sem,simprocAttr,bP,dL]) rfl ?_);try simp only [go_sem,simprocAttr,bP,dL])|(intro h))
end Go.Ab
end
section
namespace Go.Ab
open Go.Proofs
attribute [local congr] ACall.congr
set_option maxRecDepth 10000
set_option maxHeartbeats 8000000
def bK (b:Bool) (g:Gr) (p:Pl):(List (List It) × List It) × Int × Int:=
 if b=false then (([], []),(1,0)) else
 match iW g p g.n.toNat with
 |some i=>(([], []),(3,(i:Int)))
 |none=>((eH g p g.n.toNat,(fK g p g.n.toNat).row),(0,0))
theorem Cz {n:Nat} :List.replicate n [D.sl 3 []]=vT (List.replicate n []):=by simp [vT,sT]
theorem CA {ls:List (List It)} {k:Nat} {l:List It} :(vT ls).set k [sT l]=vT (ls.set k l):=by simp [vT,List.map_set]
theorem tu {g:Gr} {p:Pl} {k:Nat} :eH g p (k+1)=(eH g p k).set (au p k).toNat (fF g p k):=rfl
theorem wW (g:Gr) (hl:g.es.length≤9223372036854775807) (p:Pl) (hp:pI p) (b:Bool) (hr:b=true↔(cr g).1=0∧bF g p):
 Spec Tryz.prog 88 (Args [eG g,ePl p]) [] (.tup [.d (.sl 1 (vT (bK b g p).1.1)), .d (sT (bK b g p).1.2),eN (bK b g p).2.1,eN (bK b g p).2.2]) []:=by
 have hO:=Cy g hl p hp b hr
 cases b with
 |false=>
  have hR:bK false g p=(([], []),(1,0)):=rfl
  rw [hR]
  (refine Spec.intro (C:=T.cfg [] []) (rs:= [.t 4, .t 5, .t 6, .t 7]) (T.aq _ _) Tryz.func88 rfl rfl Tryz.ntmps88 Tryz.results88 (by simp [AObj.isNest]) (by simp [AObj.isNest]) (by kernel_rfl) ?_;intro X hX hP hC aN aO vals hA;refine ⟨_,by simp,hA, ?_⟩;have af:X.P.follows .mixedOrders=true:=(by rw [hP];exact T.mixed);clear aN aO)
  repeat' (first|fail|((first|((with_reducible (first|apply oA|apply oB));exact rfl;intro K hK)|(refine hK _ ?_;clear hK K)|((with_reducible (first|apply oG|apply oH));iterate 3 exact rfl)|((with_reducible apply oI);(iterate 2 exact rfl);intro K hK)|(with_reducible (first|apply wI|apply wJ|apply wK)));try simp only [go_sem,simprocAttr,vT,List.map_nil])|fail|(with_reducible (first|apply oC|apply oJ|exact oK|apply wA|apply wB|apply wC hX hC|apply wD hX hC|apply wE hX hC af|apply wF hX hC af|apply wG|apply wH|apply And.intro))|((with_reducible refine oD ?_ ?_);first|fail|kernel_rfl)|((with_reducible (first|apply oE|apply oF));(iterate 3 exact rfl);all_goals (intro h;first|(exact absurd h (by decide))|((try simp only [go_sem,simprocAttr,vT,List.map_nil] at h);(try with_reducible intro K hK);simp only [go_sem,simprocAttr,vT,List.map_nil])))|((first|((with_reducible apply wL);exact rfl)|((with_reducible apply wM);exact rfl));all_goals (try ((with_reducible intro h);first|(exact absurd h (by decide))|(try simp only [go_sem,simprocAttr,vT,List.map_nil] at h))))|omega|((first|first|refine aa hX hC hP (hO) rfl rfl rfl (by simp only [go_sem,simprocAttr,vT,List.map_nil]) rfl ?_);try simp only [go_sem,simprocAttr,vT,List.map_nil])|(intro h))
 |true=>
 obtain ⟨hc,Au⟩:=hr.1 rfl
 have hm:=aE hc
 have hn:=aZ hm
 have hle:=bW Au
 have hR:bK true g p=match iW g p g.n.toNat with
  |some i=>(([], []),(3,(i:Int)))
  |none=>((eH g p g.n.toNat,(fK g p g.n.toNat).row),(0,0)):=rfl
 generalize bK true g p=R at hR
 (refine Spec.intro (C:=T.cfg [] []) (rs:= [.t 4, .t 5, .t 6, .t 7]) (T.aq _ _) Tryz.func88 rfl rfl Tryz.ntmps88 Tryz.results88 (by simp [AObj.isNest]) (by simp [AObj.isNest]) (by kernel_rfl) ?_;intro X hX hP hC aN aO vals hA;refine ⟨_,by simp,hA, ?_⟩;have af:X.P.follows .mixedOrders=true:=(by rw [hP];exact T.mixed);clear aN aO)
 repeat' (first|fail|((first|((with_reducible (first|apply oA|apply oB));exact rfl;intro K hK)|(refine hK _ ?_;clear hK K)|((with_reducible (first|apply oG|apply oH));iterate 3 exact rfl)|((with_reducible apply oI);(iterate 2 exact rfl);intro K hK)|(with_reducible (first|apply wI|apply wJ|apply wK)));try simp only [go_sem,simprocAttr])|(show cH _ (.seq (.region 4 _ _) _) _ _;(refine nu 20 2 3 rfl rfl rfl ?_;simp only [LA.app,ASt.put,ASt.kill,putM,rml,List.set_cons_zero,List.set_cons_succ,go_sem,simprocAttr]);(refine nu 20 3 1 rfl rfl rfl ?_;simp only [LA.app,ASt.put,ASt.kill,putM,rml,List.set_cons_zero,List.set_cons_succ,go_sem,simprocAttr]))|(with_reducible (first|apply oC|apply oJ|exact oK|apply wA|apply wB|apply wC hX hC|apply wD hX hC|apply wE hX hC af|apply wF hX hC af|apply wG|apply wH|apply And.intro))|((with_reducible refine oD ?_ ?_);first|fail|kernel_rfl)|((with_reducible (first|apply oE|apply oF));(iterate 3 exact rfl);all_goals (intro h;first|(exact absurd h (by decide))|((try simp only [go_sem,simprocAttr] at h);(try with_reducible intro K hK);simp only [go_sem,simprocAttr])))|((first|((with_reducible apply wL);exact rfl)|((with_reducible apply wM);exact rfl));all_goals (try ((with_reducible intro h);first|(exact absurd h (by decide))|(try simp only [go_sem,simprocAttr] at h))))|omega|((first|first|refine aa hX hC hP (hO) rfl rfl rfl (by simp only [go_sem,simprocAttr]) rfl ?_);try simp only [go_sem,simprocAttr])|(intro h))
 rw [Cz]
 refine ak (fun k:Nat=>k≤g.n.toNat∧∀j,j<k→x7 g p j=true) (fun k=>⟨[(2, .ptr 2 0),(3, .ptr 3 0),(8, .ptr 20 0),(9, .ref 23),(10,eN k)], [(23, .own 80 1 (vT (eH g p k))),(20, .box (e9 g (fK g p k))),(3, .box [.d (sI p.ord), .d (.sl 1 (vI p.outs))]),(2, .box [eN g.n, .d (sE g.es)])]⟩) (fun k=>g.n.toNat - k) 0 (by simp) ?_ ?_
 ·refine Le.of ?_ ?_<;>simp [go_sem,simprocAttr,e9,fK,eH]
 rintro k ⟨hk,hok⟩
 obtain ⟨hi,_,hrl⟩:=c9 hm Au hk hok
 have hel:=k8 (g:=g) (p:=p) (k:=k)
 rcases Nat.lt_or_ge k g.n.toNat with hlt|hge
 ·have hb:decide ((k:Int)<(p.ord.length:Int))=true:=decide_eq_true (by omega)
  have Dm:=aG Au hlt
  have dQ:=tu (g:=g) (p:=p) (k:=k)
  have Av:fK g p (k+1)=(aA g (fK g p k) (au p k) (aW p (au p k))).2:=rfl
  have uU:fF g p k=(aA g (fK g p k) (au p k) (aW p (au p k))).1.1:=rfl
  have hpk:=wR Au hlt
  have CB:=wS (g:=g) (p:=p) (k:=k)
  have hsk:x7 g p k=false→R=(([], []),(3,(k:Int))):=fun h=>by
   rw [hR,mK.2 ⟨hlt,h,hok⟩]
  have hmul:k*(g.es.length+1)≤64*129:=Nat.mul_le_mul (by omega) (by omega)
  have kJ:=iX Au Dm.1 Dm.2
  have gw:p.ord.getD k 0=au p k:=rfl
  have CC:(fK g p k).pl.length≤64:=by
   rcases EU hi.togP with h|h
   ·omega
   ·rw [h];simp
  obtain ⟨x,hx⟩:∃x:Nat,au p k=x:=⟨(au p k).toNat,by omega⟩
  rw [hx] at gw Av uU hpk CB Dm kJ dQ
  have hxl:x<p.outs.length:=by have:=Au.1;omega
  have hv:=iV hxl
  have hla:aW p (x:Int)=p.outs.getD x []:=by unfold aW;rw [Int.toNat_natCast]
  rw [hla] at Av uU hpk CB kJ
  rw [Int.toNat_natCast] at dQ
  have kK:=wz g (by omega) (fK g p k) (x:Int) (p.outs.getD x []) (by omega) (by omega) (by omega)
  have cw:=CA (ls:=eH g p k) (k:=x) (l:=fF g p k)
  generalize p.outs.getD x []=o at hv Av uU hpk CB kK
  rw [← dQ] at cw
  generalize fK g p k=f at Av uU hpk CB kK hi hrl CC
  cases uV:x7 g p k with
  |false=>
   rw [CB uV] at kK
   have FP:=hsk uV
   subst FP
   repeat' (first|fail|((first|((with_reducible (first|apply oA|apply oB));exact rfl;intro K hK)|(refine hK _ ?_;clear hK K)|((with_reducible (first|apply oG|apply oH));iterate 3 exact rfl)|((with_reducible apply oI);(iterate 2 exact rfl);intro K hK)|(with_reducible (first|apply wI|apply wJ|apply wK)));try simp only [go_sem,simprocAttr,hb,gw,hv,e9,vT,List.map_nil])|fail|(with_reducible (first|apply oC|apply oJ|exact oK|apply wA|apply wB|apply wC hX hC|apply wD hX hC|apply wE hX hC af|apply wF hX hC af|apply wG|apply wH|apply And.intro))|((with_reducible refine oD ?_ ?_);first|fail|kernel_rfl)|((with_reducible (first|apply oE|apply oF));(iterate 3 exact rfl);all_goals (intro h;first|(exact absurd h (by decide))|((try simp only [go_sem,simprocAttr,hb,gw,hv,e9,vT,List.map_nil] at h);(try with_reducible intro K hK);simp only [go_sem,simprocAttr,hb,gw,hv,e9,vT,List.map_nil])))|((first|((with_reducible apply wL);exact rfl)|((with_reducible apply wM);exact rfl));all_goals (try ((with_reducible intro h);first|(exact absurd h (by decide))|(try simp only [go_sem,simprocAttr,hb,gw,hv,e9,vT,List.map_nil] at h))))|omega|((first|first|(refine az hX hC hP [(10000,20)] (kK) rfl rfl rfl ?_ ?_ ?_ ?_ ?_ ?_ ?_ ?_ ?_ ?_ ?_ ?_ ?_ ?_;(focus (simp only [go_sem,simprocAttr,hb,gw,hv,e9,vT,List.map_nil];done));(iterate 12 (focus (simp [go_sem,simprocAttr,hb,gw,hv,e9,vT,List.map_nil];done)));simp only [go_sem,simprocAttr,hb,gw,hv,e9,vT,List.map_nil,List.map_cons,List.map_nil]));try simp only [go_sem,simprocAttr,hb,gw,hv,e9,vT,List.map_nil])|(intro h))
  |true=>
   rw [hpk uV] at kK
   have eL:(aA g f (x:Int) o).1.2=0:=rfl
   rw [uU] at cw
   generalize aA g f (x:Int) o=su at Av uU kK eL cw
   have wX:x<(eH g p k).length:=by omega
   generalize Oz:eH g p k=E at cw wX hel
   have hvl:(vT E).length=E.length:=vT_length
   have tv:=fun d=>nG wX d
   repeat' (first|fail|((first|((with_reducible (first|apply oA|apply oB));exact rfl;intro K hK)|(refine hK _ ?_;clear hK K)|((with_reducible (first|apply oG|apply oH));iterate 3 exact rfl)|((with_reducible apply oI);(iterate 2 exact rfl);intro K hK)|(with_reducible (first|apply wI|apply wJ|apply wK)));try simp only [go_sem,simprocAttr,hb,gw,hv,e9,eL,cw,tv,List.drop_succ_cons,List.drop_zero])|fail|(with_reducible (first|apply oC|apply oJ|exact oK|apply wA|apply wB|apply wC hX hC|apply wD hX hC|apply wE hX hC af|apply wF hX hC af|apply wG|apply wH|apply And.intro))|((with_reducible refine oD ?_ ?_);first|fail|kernel_rfl)|((with_reducible (first|apply oE|apply oF));(iterate 3 exact rfl);all_goals (intro h;first|(exact absurd h (by decide))|((try simp only [go_sem,simprocAttr,hb,gw,hv,e9,eL,cw,tv,List.drop_succ_cons,List.drop_zero] at h);(try with_reducible intro K hK);simp only [go_sem,simprocAttr,hb,gw,hv,e9,eL,cw,tv,List.drop_succ_cons,List.drop_zero])))|((first|((with_reducible apply wL);exact rfl)|((with_reducible apply wM);exact rfl));all_goals (try ((with_reducible intro h);first|(exact absurd h (by decide))|(try simp only [go_sem,simprocAttr,hb,gw,hv,e9,eL,cw,tv,List.drop_succ_cons,List.drop_zero] at h))))|omega|((first|first|(refine az hX hC hP [(10000,20)] (kK) rfl rfl rfl ?_ ?_ ?_ ?_ ?_ ?_ ?_ ?_ ?_ ?_ ?_ ?_ ?_ ?_;(focus (simp only [go_sem,simprocAttr,hb,gw,hv,e9,eL,cw,tv,List.drop_succ_cons,List.drop_zero];done));(iterate 12 (focus (simp [go_sem,simprocAttr,hb,gw,hv,e9,eL,cw,tv,List.drop_succ_cons,List.drop_zero];done)));simp only [go_sem,simprocAttr,hb,gw,hv,e9,eL,cw,tv,List.drop_succ_cons,List.drop_zero,List.map_cons,List.map_nil]));try simp only [go_sem,simprocAttr,hb,gw,hv,e9,eL,cw,tv,List.drop_succ_cons,List.drop_zero])|(intro h))
   refine ⟨k+1,⟨by omega,fun j hj=> ?_⟩, ?_,by omega⟩
   ·by_cases e:j=k
    ·subst e;exact uV
    ·exact hok j (by omega)
   ·rw [Av]
    have CD:(vT E).set x [D.sl 3 (List.map rT su.1.1)]=vT (eH g p (k+1)):=cw
    refine Le.of ?_ ?_<;>simp [go_sem,simprocAttr,hb,gw,hv,e9,eL,cw,tv,List.drop_succ_cons,List.drop_zero,CD]
 have hb:decide ((k:Int)<(p.ord.length:Int))=false:=decide_eq_false (by omega)
 obtain rfl:k=g.n.toNat:=by omega
 rw [fu.2 hok] at hR
 subst hR
 repeat' (first|fail|((first|((with_reducible (first|apply oA|apply oB));exact rfl;intro K hK)|(refine hK _ ?_;clear hK K)|((with_reducible (first|apply oG|apply oH));iterate 3 exact rfl)|((with_reducible apply oI);(iterate 2 exact rfl);intro K hK)|(with_reducible (first|apply wI|apply wJ|apply wK)));try simp only [go_sem,simprocAttr,hb,e9])|fail|(with_reducible (first|apply oC|apply oJ|exact oK|apply wA|apply wB|apply wC hX hC|apply wD hX hC|apply wE hX hC af|apply wF hX hC af|apply wG|apply wH|apply And.intro))|((with_reducible refine oD ?_ ?_);first|fail|kernel_rfl)|((with_reducible (first|apply oE|apply oF));(iterate 3 exact rfl);all_goals (intro h;first|(exact absurd h (by decide))|((try simp only [go_sem,simprocAttr,hb,e9] at h);(try with_reducible intro K hK);simp only [go_sem,simprocAttr,hb,e9])))|((first|((with_reducible apply wL);exact rfl)|((with_reducible apply wM);exact rfl));all_goals (try ((with_reducible intro h);first|(exact absurd h (by decide))|(try simp only [go_sem,simprocAttr,hb,e9] at h))))|omega|((first|fail);try simp only [go_sem,simprocAttr,hb,e9])|(intro h))
end Go.Ab
end
section
namespace Go.Ab
open Go.Proofs
attribute [local congr] ACall.congr
set_option maxRecDepth 10000
set_option maxHeartbeats 8000000
theorem mj (g:Gr) (hl:g.es.length≤1000) (p:Pl) (hp:pI p) (b:Bool) (hr:b=true↔(cr g).1=0∧bF g p):
 Spec Tryz.prog 46 (Args [eG g,ePl p]) [] (.tup [.d (.sl 1 (vT (bK b g p).1.1)), .d (sT (bK b g p).1.2),eF ((bK b g p).2.1,(bK b g p).2.2, [])]) []:=by
 by_cases hc:(cr g).1=0
 rotate_left
 ·obtain rfl:b=false:=by
   rw [← Bool.not_eq_true,hr]
   exact fun h=>hc h.1
  have hR:bK false g p=(([], []),(1,0)):=rfl
  rw [hR]
  (refine Spec.intro (C:=T.cfg [] []) (rs:= [.t 4, .t 5, .c 6 82]) (T.aq _ _) Tryz.func46 rfl rfl Tryz.ntmps46 Tryz.results46 (by simp [AObj.isNest]) (by simp [AObj.isNest]) (by kernel_rfl) ?_;intro X hX hP hC aN aO vals hA;refine ⟨_,by simp,hA, ?_⟩;have af:X.P.follows .mixedOrders=true:=(by rw [hP];exact T.mixed);clear aN aO)
  repeat' (first|fail|((first|((with_reducible (first|apply oA|apply oB));exact rfl;intro K hK)|(refine hK _ ?_;clear hK K)|((with_reducible (first|apply oG|apply oH));iterate 3 exact rfl)|((with_reducible apply oI);(iterate 2 exact rfl);intro K hK)|(with_reducible (first|apply wI|apply wJ|apply wK)));try simp only [go_sem,simprocAttr,vT,List.map_nil])|fail|(with_reducible (first|apply oC|apply oJ|exact oK|apply wA|apply wB|apply wC hX hC|apply wD hX hC|apply wE hX hC af|apply wF hX hC af|apply wG|apply wH|apply And.intro))|((with_reducible refine oD ?_ ?_);first|fail|kernel_rfl)|((with_reducible (first|apply oE|apply oF));(iterate 3 exact rfl);all_goals (intro h;first|(exact absurd h (by decide))|((try simp only [go_sem,simprocAttr,vT,List.map_nil] at h);(try with_reducible intro K hK);simp only [go_sem,simprocAttr,vT,List.map_nil])))|((first|((with_reducible apply wL);exact rfl)|((with_reducible apply wM);exact rfl));all_goals (try ((with_reducible intro h);first|(exact absurd h (by decide))|(try simp only [go_sem,simprocAttr,vT,List.map_nil] at h))))|omega|((first|first|refine aa hX hC hP (Ae g hl hc) rfl rfl rfl (by simp only [go_sem,simprocAttr,vT,List.map_nil]) rfl ?_);try simp only [go_sem,simprocAttr,vT,List.map_nil])|(intro h))
 have hm:=aE hc
 have hn:=aZ hm
 have hr:b=true↔bF g p:=by rw [hr];exact ⟨fun h=>h.2,fun h=>⟨hc,h⟩⟩
 have hO:=Cv g hm p hp b hr
 cases b with
 |false=>
  have hR:bK false g p=(([], []),(1,0)):=rfl
  rw [hR]
  (refine Spec.intro (C:=T.cfg [] []) (rs:= [.t 4, .t 5, .c 6 82]) (T.aq _ _) Tryz.func46 rfl rfl Tryz.ntmps46 Tryz.results46 (by simp [AObj.isNest]) (by simp [AObj.isNest]) (by kernel_rfl) ?_;intro X hX hP hC aN aO vals hA;refine ⟨_,by simp,hA, ?_⟩;have af:X.P.follows .mixedOrders=true:=(by rw [hP];exact T.mixed);clear aN aO)
  repeat' (first|fail|((first|((with_reducible (first|apply oA|apply oB));exact rfl;intro K hK)|(refine hK _ ?_;clear hK K)|((with_reducible (first|apply oG|apply oH));iterate 3 exact rfl)|((with_reducible apply oI);(iterate 2 exact rfl);intro K hK)|(with_reducible (first|apply wI|apply wJ|apply wK)));try simp only [go_sem,simprocAttr,vT,List.map_nil])|fail|(with_reducible (first|apply oC|apply oJ|exact oK|apply wA|apply wB|apply wC hX hC|apply wD hX hC|apply wE hX hC af|apply wF hX hC af|apply wG|apply wH|apply And.intro))|((with_reducible refine oD ?_ ?_);first|fail|kernel_rfl)|((with_reducible (first|apply oE|apply oF));(iterate 3 exact rfl);all_goals (intro h;first|(exact absurd h (by decide))|((try simp only [go_sem,simprocAttr,vT,List.map_nil] at h);(try with_reducible intro K hK);simp only [go_sem,simprocAttr,vT,List.map_nil])))|((first|((with_reducible apply wL);exact rfl)|((with_reducible apply wM);exact rfl));all_goals (try ((with_reducible intro h);first|(exact absurd h (by decide))|(try simp only [go_sem,simprocAttr,vT,List.map_nil] at h))))|omega|((first|first|(refine qU hX hC hP [(10000,13)] (tg g hl hc hm) rfl rfl rfl ?_ ?_ ?_ ?_ ?_ ?_ ?_ ?_ ?_ ?_ ?_ ?_ ?_ ?_;(focus (simp only [go_sem,simprocAttr,vT,List.map_nil];done));(iterate 12 (focus (simp [go_sem,simprocAttr,vT,List.map_nil];done)));simp only [go_sem,simprocAttr,vT,List.map_nil,List.map_cons,List.map_nil])|refine aa hX hC hP (gy g hm) rfl rfl rfl (by simp only [go_sem,simprocAttr,vT,List.map_nil]) rfl ?_|refine aa hX hC hP (hO) rfl rfl rfl (by simp only [go_sem,simprocAttr,vT,List.map_nil]) rfl ?_);try simp only [go_sem,simprocAttr,vT,List.map_nil])|(intro h))
 |true=>
 have Au:=hr.1 rfl
 have hle:=bW Au
 have hR:bK true g p=match iW g p g.n.toNat with
  |some i=>(([], []),(3,(i:Int)))
  |none=>((eH g p g.n.toNat,(fK g p g.n.toNat).row),(0,0)):=rfl
 generalize bK true g p=R at hR
 (refine Spec.intro (C:=T.cfg [] []) (rs:= [.t 4, .t 5, .c 6 82]) (T.aq _ _) Tryz.func46 rfl rfl Tryz.ntmps46 Tryz.results46 (by simp [AObj.isNest]) (by simp [AObj.isNest]) (by kernel_rfl) ?_;intro X hX hP hC aN aO vals hA;refine ⟨_,by simp,hA, ?_⟩;have af:X.P.follows .mixedOrders=true:=(by rw [hP];exact T.mixed);clear aN aO)
 repeat' (first|fail|((first|((with_reducible (first|apply oA|apply oB));exact rfl;intro K hK)|(refine hK _ ?_;clear hK K)|((with_reducible (first|apply oG|apply oH));iterate 3 exact rfl)|((with_reducible apply oI);(iterate 2 exact rfl);intro K hK)|(with_reducible (first|apply wI|apply wJ|apply wK)));try simp only [go_sem,simprocAttr])|(show cH _ (.seq (.region 5 _ _) _) _ _;(refine nu 13 0 3 rfl rfl rfl ?_;simp only [LA.app,ASt.put,ASt.kill,putM,rml,List.set_cons_zero,List.set_cons_succ,go_sem,simprocAttr]);(refine qT hX 13 2 100 (.tip 3 1 []) rfl rfl rfl (by simp only [go_sem,simprocAttr]) (by decide) (by simp [go_sem,simprocAttr]) ⟨3,1,by decide, .inr rfl⟩ ?_;simp only [LA.app,ASt.put,ASt.kill,subT,rmk,putM,rml,kl,AV.sub,AV.subs,AObj.sub,List.set_cons_zero,List.set_cons_succ,go_sem,simprocAttr]))|(with_reducible (first|apply oC|apply oJ|exact oK|apply wA|apply wB|apply wC hX hC|apply wD hX hC|apply wE hX hC af|apply wF hX hC af|apply wG|apply wH|apply And.intro))|((with_reducible refine oD ?_ ?_);first|fail|kernel_rfl)|((with_reducible (first|apply oE|apply oF));(iterate 3 exact rfl);all_goals (intro h;first|(exact absurd h (by decide))|((try simp only [go_sem,simprocAttr] at h);(try with_reducible intro K hK);simp only [go_sem,simprocAttr])))|((first|((with_reducible apply wL);exact rfl)|((with_reducible apply wM);exact rfl));all_goals (try ((with_reducible intro h);first|(exact absurd h (by decide))|(try simp only [go_sem,simprocAttr] at h))))|omega|((first|first|(refine qU hX hC hP [(10000,13)] (tg g hl hc hm) rfl rfl rfl ?_ ?_ ?_ ?_ ?_ ?_ ?_ ?_ ?_ ?_ ?_ ?_ ?_ ?_;(focus (simp only [go_sem,simprocAttr];done));(iterate 12 (focus (simp [go_sem,simprocAttr];done)));simp only [go_sem,simprocAttr,List.map_cons,List.map_nil])|refine aa hX hC hP (gy g hm) rfl rfl rfl (by simp only [go_sem,simprocAttr]) rfl ?_|refine aa hX hC hP (hO) rfl rfl rfl (by simp only [go_sem,simprocAttr]) rfl ?_);try simp only [go_sem,simprocAttr])|(intro h))
 rw [Cz]
 refine ak (fun k:Nat=>k≤g.n.toNat∧∀j,j<k→x7 g p j=true) (fun k=>⟨[(3, .ptr 3 0),(4, .ref 28),(6, .ptr 6 0),(7, .ptr 13 0),(30, .d (sI p.ord)),(31,eN p.ord.length),(32,eN k)], [(28, .own 80 1 (vT (eH g p k))),(13, .box [.d (sT (fK g p k).row), .d (vw g), .ref 100]),(100, .tip 3 1 ((fK g p k).pl.map rI)),(6, .box [eN 0,eN 0, .nil 3]),(3, .box [.d (sI p.ord), .d (.sl 1 (vI p.outs))])]⟩) (fun k=>g.n.toNat - k) 0 (by simp) ?_ ?_
 ·refine Le.of ?_ ?_<;>simp [go_sem,simprocAttr,e9,fK,eH]
 rintro k ⟨hk,hok⟩
 obtain ⟨hi,_,hrl⟩:=c9 hm Au hk hok
 have hel:=k8 (g:=g) (p:=p) (k:=k)
 have hmul:k*(g.es.length+1)≤64*129:=Nat.mul_le_mul (by omega) (by omega)
 rcases Nat.lt_or_ge k g.n.toNat with hlt|hge
 ·have hb:decide ((k:Int)<(p.ord.length:Int))=true:=decide_eq_true (by omega)
  have Dm:=aG Au hlt
  have dQ:=tu (g:=g) (p:=p) (k:=k)
  have Av:fK g p (k+1)=(aA g (fK g p k) (au p k) (aW p (au p k))).2:=rfl
  have uU:fF g p k=(aA g (fK g p k) (au p k) (aW p (au p k))).1.1:=rfl
  have hpk:=wR Au hlt
  have CB:=wS (g:=g) (p:=p) (k:=k)
  have hsk:x7 g p k=false→R=(([], []),(3,(k:Int))):=fun h=>by
   rw [hR,mK.2 ⟨hlt,h,hok⟩]
  have kJ:=iX Au Dm.1 Dm.2
  have gw:p.ord.getD k 0=au p k:=rfl
  have CC:(fK g p k).pl.length≤64:=by
   rcases EU hi.togP with h|h
   ·omega
   ·rw [h];simp
  obtain ⟨x,hx⟩:∃x:Nat,au p k=x:=⟨(au p k).toNat,by omega⟩
  rw [hx] at gw Av uU hpk CB Dm kJ dQ
  have hxl:x<p.outs.length:=by have:=Au.1;omega
  have hv:=iV hxl
  have hla:aW p (x:Int)=p.outs.getD x []:=by unfold aW;rw [Int.toNat_natCast]
  rw [hla] at Av uU hpk CB kJ
  rw [Int.toNat_natCast] at dQ
  have kK:=wU g hm (fK g p k) hi (x:Int) (p.outs.getD x []) (by omega) (by omega) (by omega)
  have cw:=CA (ls:=eH g p k) (k:=x) (l:=fF g p k)
  generalize p.outs.getD x []=o at hv Av uU hpk CB kK
  rw [← dQ] at cw
  generalize fK g p k=f at Av uU hpk CB kK hi hrl CC
  have wX:x<(eH g p k).length:=by omega
  have hvl:(vT (eH g p k)).length=(eH g p k).length:=vT_length
  cases uV:x7 g p k with
  |false=>
   rw [CB uV] at kK
   simp only at kK
   have FP:=hsk uV
   subst FP
   repeat' (first|fail|((first|((with_reducible (first|apply oA|apply oB));exact rfl;intro K hK)|(refine hK _ ?_;clear hK K)|((with_reducible (first|apply oG|apply oH));iterate 3 exact rfl)|((with_reducible apply oI);(iterate 2 exact rfl);intro K hK)|(with_reducible (first|apply wI|apply wJ|apply wK)));try simp only [go_sem,simprocAttr,hb,gw,hv,iN,rL,List.map_nil])|fail|(with_reducible (first|apply oC|apply oJ|exact oK|apply wA|apply wB|apply wC hX hC|apply wD hX hC|apply wE hX hC af|apply wF hX hC af|apply wG|apply wH|apply And.intro))|((with_reducible refine oD ?_ ?_);first|fail|kernel_rfl)|((with_reducible (first|apply oE|apply oF));(iterate 3 exact rfl);all_goals (intro h;first|(exact absurd h (by decide))|((try simp only [go_sem,simprocAttr,hb,gw,hv,iN,rL,List.map_nil] at h);(try with_reducible intro K hK);simp only [go_sem,simprocAttr,hb,gw,hv,iN,rL,List.map_nil])))|((first|((with_reducible apply wL);exact rfl)|((with_reducible apply wM);exact rfl));all_goals (try ((with_reducible intro h);first|(exact absurd h (by decide))|(try simp only [go_sem,simprocAttr,hb,gw,hv,iN,rL,List.map_nil] at h))))|omega|((first|first|(refine az hX hC hP [(10000,13),(10001,100),(10002,101)] (kK) rfl rfl rfl ?_ ?_ ?_ ?_ ?_ ?_ ?_ ?_ ?_ ?_ ?_ ?_ ?_ ?_;(focus (simp only [go_sem,simprocAttr,hb,gw,hv,iN,rL,List.map_nil];done));(iterate 12 (focus (simp [go_sem,simprocAttr,hb,gw,hv,iN,rL,List.map_nil];done)));simp only [go_sem,simprocAttr,hb,gw,hv,iN,rL,List.map_nil,List.map_cons,List.map_nil]));try simp only [go_sem,simprocAttr,hb,gw,hv,iN,rL,List.map_nil])|(intro h))
   all_goals rfl
  |true=>
   rw [hpk uV] at kK
   have eL:(aA g f (x:Int) o).1.2=0:=rfl
   rw [uU] at cw
   generalize aA g f (x:Int) o=su at Av uU kK eL cw
   generalize Oz:eH g p k=E at cw wX hel hvl
   have tv:=fun d=>nG wX d
   repeat' (first|fail|((first|((with_reducible (first|apply oA|apply oB));exact rfl;intro K hK)|(refine hK _ ?_;clear hK K)|((with_reducible (first|apply oG|apply oH));iterate 3 exact rfl)|((with_reducible apply oI);(iterate 2 exact rfl);intro K hK)|(with_reducible (first|apply wI|apply wJ|apply wK)));try simp only [go_sem,simprocAttr,hb,gw,hv,iN,rL,eL,cw,tv,List.drop_succ_cons,List.drop_zero])|(show cH _ (.region 11 _ _) _ _;(refine gS hX 13 2 101 100 rfl rfl rfl (by first|exact .inl rfl|exact .inr rfl) (by decide) (by decide) ?_;simp only [LA.app,ASt.put,ASt.kill,subT,rmk,putM,rml,kl,AV.sub,AV.subs,AObj.sub,List.set_cons_zero,List.set_cons_succ,go_sem,simprocAttr,hb,gw,hv,iN,rL,eL,cw,tv,List.drop_succ_cons,List.drop_zero]))|(with_reducible (first|apply oC|apply oJ|exact oK|apply wA|apply wB|apply wC hX hC|apply wD hX hC|apply wE hX hC af|apply wF hX hC af|apply wG|apply wH|apply And.intro))|((with_reducible refine oD ?_ ?_);first|fail|kernel_rfl)|((with_reducible (first|apply oE|apply oF));(iterate 3 exact rfl);all_goals (intro h;first|(exact absurd h (by decide))|((try simp only [go_sem,simprocAttr,hb,gw,hv,iN,rL,eL,cw,tv,List.drop_succ_cons,List.drop_zero] at h);(try with_reducible intro K hK);simp only [go_sem,simprocAttr,hb,gw,hv,iN,rL,eL,cw,tv,List.drop_succ_cons,List.drop_zero])))|((first|((with_reducible apply wL);exact rfl)|((with_reducible apply wM);exact rfl));all_goals (try ((with_reducible intro h);first|(exact absurd h (by decide))|(try simp only [go_sem,simprocAttr,hb,gw,hv,iN,rL,eL,cw,tv,List.drop_succ_cons,List.drop_zero] at h))))|omega|((first|first|(refine az hX hC hP [(10000,13),(10001,100),(10002,101)] (kK) rfl rfl rfl ?_ ?_ ?_ ?_ ?_ ?_ ?_ ?_ ?_ ?_ ?_ ?_ ?_ ?_;(focus (simp only [go_sem,simprocAttr,hb,gw,hv,iN,rL,eL,cw,tv,List.drop_succ_cons,List.drop_zero];done));(iterate 12 (focus (simp [go_sem,simprocAttr,hb,gw,hv,iN,rL,eL,cw,tv,List.drop_succ_cons,List.drop_zero];done)));simp only [go_sem,simprocAttr,hb,gw,hv,iN,rL,eL,cw,tv,List.drop_succ_cons,List.drop_zero,List.map_cons,List.map_nil]));try simp only [go_sem,simprocAttr,hb,gw,hv,iN,rL,eL,cw,tv,List.drop_succ_cons,List.drop_zero])|(intro h))
   refine ⟨k+1,⟨by omega,fun j hj=> ?_⟩, ?_,by omega⟩
   ·by_cases e:j=k
    ·subst e;exact uV
    ·exact hok j (by omega)
   ·rw [Av]
    have CD:(vT E).set x [D.sl 3 (List.map rT su.1.1)]=vT (eH g p (k+1)):=cw
    refine Le.of ?_ ?_<;>simp [go_sem,simprocAttr,hb,gw,hv,iN,rL,eL,cw,tv,List.drop_succ_cons,List.drop_zero,CD]
 have hb:decide ((k:Int)<(p.ord.length:Int))=false:=decide_eq_false (by omega)
 obtain rfl:k=g.n.toNat:=by omega
 rw [fu.2 hok] at hR
 subst hR
 repeat' (first|fail|((first|((with_reducible (first|apply oA|apply oB));exact rfl;intro K hK)|(refine hK _ ?_;clear hK K)|((with_reducible (first|apply oG|apply oH));iterate 3 exact rfl)|((with_reducible apply oI);(iterate 2 exact rfl);intro K hK)|(with_reducible (first|apply wI|apply wJ|apply wK)));try simp only [go_sem,simprocAttr,hb])|fail|(with_reducible (first|apply oC|apply oJ|exact oK|apply wA|apply wB|apply wC hX hC|apply wD hX hC|apply wE hX hC af|apply wF hX hC af|apply wG|apply wH|apply And.intro))|((with_reducible refine oD ?_ ?_);first|fail|kernel_rfl)|((with_reducible (first|apply oE|apply oF));(iterate 3 exact rfl);all_goals (intro h;first|(exact absurd h (by decide))|((try simp only [go_sem,simprocAttr,hb] at h);(try with_reducible intro K hK);simp only [go_sem,simprocAttr,hb])))|((first|((with_reducible apply wL);exact rfl)|((with_reducible apply wM);exact rfl));all_goals (try ((with_reducible intro h);first|(exact absurd h (by decide))|(try simp only [go_sem,simprocAttr,hb] at h))))|omega|((first|first|(refine pe hX hC hP 60 (Ac [vw g,sI (fK g p g.n.toNat).pl] (fK g p g.n.toNat).row (by omega)) rfl rfl rfl ?_ ?_ (by first|exact ⟨_,_,_,rfl,ER⟩|exact ⟨_,_,_,rfl,ES⟩|exact ⟨_,_,_,rfl,ET⟩) rfl (by decide) ?_;(iterate 2 (focus (simp only [go_sem,simprocAttr,hb];done)));simp only [go_sem,simprocAttr,hb]));try simp only [go_sem,simprocAttr,hb])|(intro h))
end Go.Ab
end
section
namespace Go.Ab
open Go.Proofs
attribute [local congr] ACall.congr
set_option maxRecDepth 10000
set_option maxHeartbeats 8000000
def PT (n:Int) (es:List Edge) (ord:List Int) (O:List (List Int)):List (Nat × AObj):= [(10000, .box [eN n, .ref 10001, .ref 10002, .ref 10003]),(10001, .tip 58 2 (es.map rE)),(10002, .tip 3 1 (ord.map rI)),(10003, .own 25 1 (vI O))]
def PU (n:Int) (es:List Edge) (ord:List Int) (O:List (List Int)):List (Nat × AObj):= [(10000, .box [eN n, .ref 10004, .ref 10002, .ref 10003]),(10004, .tip 58 2 (es.map rE)),(10002, .tip 3 1 (ord.map rI)),(10003, .own 25 1 (vI O))]
def OA (x:Int) (items:List It):List Edge:=(loose items).map fun v=>(v,x)
end Go.Ab
end
section
namespace Go.Ab
open Go.Proofs
attribute [local congr] ACall.congr
set_option maxRecDepth 10000
set_option maxHeartbeats 16000000
def pz:Pl:=⟨[], []⟩
def OB (b:Bool) (g:Gr) (p:Pl):Gr × Pl × Int:=
 if (bK b g p).2.1≠0 then (gz,pz,1) else if 64<(Cu g p).n∨128<(Cu g p).es.length then (gz,pz,10) else (Cu g p,LZ g p,0)
theorem oN {b:Bool} {g:Gr} {p:Pl} (hr:b=true↔(cr g).1=0∧bF g p) (h:(bK b g p).2.1=0):cA g p∧bK b g p=((eH g p g.n.toNat,k9 g p),(0,0)):=by
 cases b with
 |false=>simp [bK] at h
 |true=>
  have hR:bK true g p=match iW g p g.n.toNat with
   |some i=>(([], []),(3,(i:Int)))
   |none=>((eH g p g.n.toNat,(fK g p g.n.toNat).row),(0,0)):=rfl
  cases hs:iW g p g.n.toNat with
  |some i=>rw [hR,hs] at h;simp at h
  |none=>
   obtain ⟨h1,h2⟩:=hr.1 rfl
   exact ⟨⟨h1,h2,fu.1 hs⟩,by rw [hR,hs];rfl⟩
end Go.Ab
end
section
namespace Go.Ab
open Go.Proofs
attribute [local congr] ACall.congr
set_option maxRecDepth 10000
set_option maxHeartbeats 16000000
def OC (p:Pl) (x:Gr) (k:Nat):List (List Int):=(List.range k).map fun v=>if 0<(p.outs.getD v []).length then p.outs.getD v [] else bu x (v:Int)
theorem x9 {g:Gr} {p:Pl} (hr:cA g p):∀t∈k9 g p,t.1<0:=by
 obtain ⟨hc,h,hok⟩:=hr
 have hm:=aE hc
 have hn:=aZ hm
 obtain ⟨hi,fU,_⟩:=c9 hm h (k:=g.n.toNat) (Nat.le_refl _) hok
 intro t ht
 refine Decidable.byContradiction fun h0=> ?_
 rcases hi.it t ht with ⟨h1,_⟩|⟨h1,h2,_,h4⟩
 ·omega
 ·have MZ:=(gj hm (k:=t.1.toNat) (by omega)).2
  rw [← h4] at MZ
  refine hi.head t ht h1 (jP hi.togP ?_ MZ)
  rw [fU,List.length_take,bW h];omega
end Go.Ab
end
section
namespace Go.Ab
open Go.Proofs
attribute [local congr] ACall.congr
set_option maxRecDepth 10000
set_option maxHeartbeats 8000000
def oO (g:Gr) (p:Pl):Bool:=decide (200<g.es.length)||decide (100<p.ord.length)||decide (100<p.outs.length)||p.outs.any fun l=>decide (200<l.length)
theorem lP {g:Gr} {p:Pl} (h:oO g p=false):g.es.length≤200∧p.ord.length≤100∧p.outs.length≤100∧∀l∈p.outs,l.length≤200:=by
 simp only [oO,Bool.or_eq_false_iff,decide_eq_false_iff_not,List.any_eq_false,decide_eq_true_eq] at h
 obtain ⟨⟨⟨h1,h2⟩,h3⟩,h4⟩:=h
 exact ⟨by omega,by omega,by omega,fun l hl=>by have:=h4 l hl;omega⟩
theorem rW {g:Gr} {p:Pl} (h:oO g p=false):pI p:=by
 obtain ⟨_,h1,h2,h3⟩:=lP h
 exact ⟨by omega,by omega,fun l hl=>by have:=h3 l hl;omega⟩
structure CE (p:Pl):Prop where
 ord:p.ord.length≤9223372036854775807
 outs:p.outs.length≤9223372036854775807
 each:∀l∈p.outs,l.length≤9223372036854775807
theorem uW (g:Gr) (p:Pl) (hl:g.es.length≤9223372036854775807) (hp:CE p):Spec Tryz.prog 19 (Args [eG g,ePl p]) [] (eB (oO g p)) []:=by
 have ho:=hp.ord
 have hu:=hp.outs
 (refine Spec.intro (C:=T.cfg [] []) (rs:= [.t 4]) (T.aq _ _) Tryz.func19 rfl rfl Tryz.ntmps19 Tryz.results19 (by simp [AObj.isNest]) (by simp [AObj.isNest]) (by kernel_rfl) ?_;intro X hX hP hC aN aO vals hA;refine ⟨_,by simp,hA, ?_⟩;have af:X.P.follows .mixedOrders=true:=(by rw [hP];exact T.mixed);clear aN aO)
 generalize hB:oO g p=B
 by_cases h1:200<g.es.length
 ·have an:decide (200<(g.es.length:Int))=true:=decide_eq_true (by omega)
  have:B=true:=by rw [← hB,oO,decide_eq_true h1];rfl
  subst this
  repeat' (first|fail|((first|((with_reducible (first|apply oA|apply oB));exact rfl;intro K hK)|(refine hK _ ?_;clear hK K)|((with_reducible (first|apply oG|apply oH));iterate 3 exact rfl)|((with_reducible apply oI);(iterate 2 exact rfl);intro K hK)|(with_reducible (first|apply wI|apply wJ|apply wK)));try simp only [go_sem,simprocAttr,an])|fail|(with_reducible (first|apply oC|apply oJ|exact oK|apply wA|apply wB|apply wC hX hC|apply wD hX hC|apply wE hX hC af|apply wF hX hC af|apply wG|apply wH|apply And.intro))|((with_reducible refine oD ?_ ?_);first|fail|kernel_rfl)|((with_reducible (first|apply oE|apply oF));(iterate 3 exact rfl);all_goals (intro h;first|(exact absurd h (by decide))|((try simp only [go_sem,simprocAttr,an] at h);(try with_reducible intro K hK);simp only [go_sem,simprocAttr,an])))|((first|((with_reducible apply wL);exact rfl)|((with_reducible apply wM);exact rfl));all_goals (try ((with_reducible intro h);first|(exact absurd h (by decide))|(try simp only [go_sem,simprocAttr,an] at h))))|omega|((first|fail);try simp only [go_sem,simprocAttr,an])|(intro h))
 have an:decide (200<(g.es.length:Int))=false:=decide_eq_false (by omega)
 by_cases h2:100<p.ord.length
 ·have aj:decide (100<(p.ord.length:Int))=true:=decide_eq_true (by omega)
  have:B=true:=by rw [← hB,oO,decide_eq_true h2];simp
  subst this
  repeat' (first|fail|((first|((with_reducible (first|apply oA|apply oB));exact rfl;intro K hK)|(refine hK _ ?_;clear hK K)|((with_reducible (first|apply oG|apply oH));iterate 3 exact rfl)|((with_reducible apply oI);(iterate 2 exact rfl);intro K hK)|(with_reducible (first|apply wI|apply wJ|apply wK)));try simp only [go_sem,simprocAttr,an,aj])|fail|(with_reducible (first|apply oC|apply oJ|exact oK|apply wA|apply wB|apply wC hX hC|apply wD hX hC|apply wE hX hC af|apply wF hX hC af|apply wG|apply wH|apply And.intro))|((with_reducible refine oD ?_ ?_);first|fail|kernel_rfl)|((with_reducible (first|apply oE|apply oF));(iterate 3 exact rfl);all_goals (intro h;first|(exact absurd h (by decide))|((try simp only [go_sem,simprocAttr,an,aj] at h);(try with_reducible intro K hK);simp only [go_sem,simprocAttr,an,aj])))|((first|((with_reducible apply wL);exact rfl)|((with_reducible apply wM);exact rfl));all_goals (try ((with_reducible intro h);first|(exact absurd h (by decide))|(try simp only [go_sem,simprocAttr,an,aj] at h))))|omega|((first|fail);try simp only [go_sem,simprocAttr,an,aj])|(intro h))
 have aj:decide (100<(p.ord.length:Int))=false:=decide_eq_false (by omega)
 by_cases h3:100<p.outs.length
 ·have bt:decide (100<(p.outs.length:Int))=true:=decide_eq_true (by omega)
  have:B=true:=by rw [← hB,oO,decide_eq_true h3];simp
  subst this
  repeat' (first|fail|((first|((with_reducible (first|apply oA|apply oB));exact rfl;intro K hK)|(refine hK _ ?_;clear hK K)|((with_reducible (first|apply oG|apply oH));iterate 3 exact rfl)|((with_reducible apply oI);(iterate 2 exact rfl);intro K hK)|(with_reducible (first|apply wI|apply wJ|apply wK)));try simp only [go_sem,simprocAttr,an,aj,bt])|fail|(with_reducible (first|apply oC|apply oJ|exact oK|apply wA|apply wB|apply wC hX hC|apply wD hX hC|apply wE hX hC af|apply wF hX hC af|apply wG|apply wH|apply And.intro))|((with_reducible refine oD ?_ ?_);first|fail|kernel_rfl)|((with_reducible (first|apply oE|apply oF));(iterate 3 exact rfl);all_goals (intro h;first|(exact absurd h (by decide))|((try simp only [go_sem,simprocAttr,an,aj,bt] at h);(try with_reducible intro K hK);simp only [go_sem,simprocAttr,an,aj,bt])))|((first|((with_reducible apply wL);exact rfl)|((with_reducible apply wM);exact rfl));all_goals (try ((with_reducible intro h);first|(exact absurd h (by decide))|(try simp only [go_sem,simprocAttr,an,aj,bt] at h))))|omega|((first|fail);try simp only [go_sem,simprocAttr,an,aj,bt])|(intro h))
 have bt:decide (100<(p.outs.length:Int))=false:=decide_eq_false (by omega)
 have M0:B=p.outs.any fun l=>decide (200<l.length):=by rw [← hB,oO,decide_eq_false h1,decide_eq_false h2,decide_eq_false h3];simp
 clear hB
 repeat' (first|fail|((first|((with_reducible (first|apply oA|apply oB));exact rfl;intro K hK)|(refine hK _ ?_;clear hK K)|((with_reducible (first|apply oG|apply oH));iterate 3 exact rfl)|((with_reducible apply oI);(iterate 2 exact rfl);intro K hK)|(with_reducible (first|apply wI|apply wJ|apply wK)));try simp only [go_sem,simprocAttr,an,aj,bt])|fail|(with_reducible (first|apply oC|apply oJ|exact oK|apply wA|apply wB|apply wC hX hC|apply wD hX hC|apply wE hX hC af|apply wF hX hC af|apply wG|apply wH|apply And.intro))|((with_reducible refine oD ?_ ?_);first|fail|kernel_rfl)|((with_reducible (first|apply oE|apply oF));(iterate 3 exact rfl);all_goals (intro h;first|(exact absurd h (by decide))|((try simp only [go_sem,simprocAttr,an,aj,bt] at h);(try with_reducible intro K hK);simp only [go_sem,simprocAttr,an,aj,bt])))|((first|((with_reducible apply wL);exact rfl)|((with_reducible apply wM);exact rfl));all_goals (try ((with_reducible intro h);first|(exact absurd h (by decide))|(try simp only [go_sem,simprocAttr,an,aj,bt] at h))))|omega|((first|fail);try simp only [go_sem,simprocAttr,an,aj,bt])|(intro h))
 refine ak (fun k:Nat=>k≤p.outs.length∧∀j,j<k→(p.outs.getD j []).length≤200) (fun k=>⟨[(24, .d (.sl 1 (vI p.outs))),(25,eN p.outs.length),(26,eN k)], []⟩) (fun k=>p.outs.length - k) 0 (by simp) ?_ ?_
 ·(refine Le.of ?_ ?_<;>simp [go_sem,simprocAttr])
 rintro k ⟨hk,hg⟩
 rcases Nat.lt_or_ge k p.outs.length with cu|EB
 ·have hb:decide ((k:Int)<(p.outs.length:Int))=true:=decide_eq_true (by omega)
  have hv:=iV cu
  have hm:=aK (d:= []) cu
  have kJ:=hp.each _ hm
  by_cases h4:200<(p.outs.getD k []).length
  ·have hb4:decide (200<((p.outs.getD k []).length:Int))=true:=decide_eq_true (by omega)
   have:B=true:=by rw [M0,List.any_eq_true];exact ⟨_,hm,decide_eq_true h4⟩
   subst this
   repeat' (first|fail|((first|((with_reducible (first|apply oA|apply oB));exact rfl;intro K hK)|(refine hK _ ?_;clear hK K)|((with_reducible (first|apply oG|apply oH));iterate 3 exact rfl)|((with_reducible apply oI);(iterate 2 exact rfl);intro K hK)|(with_reducible (first|apply wI|apply wJ|apply wK)));try simp only [go_sem,simprocAttr,hb,hv,hb4])|fail|(with_reducible (first|apply oC|apply oJ|exact oK|apply wA|apply wB|apply wC hX hC|apply wD hX hC|apply wE hX hC af|apply wF hX hC af|apply wG|apply wH|apply And.intro))|((with_reducible refine oD ?_ ?_);first|fail|kernel_rfl)|((with_reducible (first|apply oE|apply oF));(iterate 3 exact rfl);all_goals (intro h;first|(exact absurd h (by decide))|((try simp only [go_sem,simprocAttr,hb,hv,hb4] at h);(try with_reducible intro K hK);simp only [go_sem,simprocAttr,hb,hv,hb4])))|((first|((with_reducible apply wL);exact rfl)|((with_reducible apply wM);exact rfl));all_goals (try ((with_reducible intro h);first|(exact absurd h (by decide))|(try simp only [go_sem,simprocAttr,hb,hv,hb4] at h))))|omega|((first|fail);try simp only [go_sem,simprocAttr,hb,hv,hb4])|(intro h))
  ·have hb4:decide (200<((p.outs.getD k []).length:Int))=false:=decide_eq_false (by omega)
   repeat' (first|fail|((first|((with_reducible (first|apply oA|apply oB));exact rfl;intro K hK)|(refine hK _ ?_;clear hK K)|((with_reducible (first|apply oG|apply oH));iterate 3 exact rfl)|((with_reducible apply oI);(iterate 2 exact rfl);intro K hK)|(with_reducible (first|apply wI|apply wJ|apply wK)));try simp only [go_sem,simprocAttr,hb,hv,hb4])|fail|(with_reducible (first|apply oC|apply oJ|exact oK|apply wA|apply wB|apply wC hX hC|apply wD hX hC|apply wE hX hC af|apply wF hX hC af|apply wG|apply wH|apply And.intro))|((with_reducible refine oD ?_ ?_);first|fail|kernel_rfl)|((with_reducible (first|apply oE|apply oF));(iterate 3 exact rfl);all_goals (intro h;first|(exact absurd h (by decide))|((try simp only [go_sem,simprocAttr,hb,hv,hb4] at h);(try with_reducible intro K hK);simp only [go_sem,simprocAttr,hb,hv,hb4])))|((first|((with_reducible apply wL);exact rfl)|((with_reducible apply wM);exact rfl));all_goals (try ((with_reducible intro h);first|(exact absurd h (by decide))|(try simp only [go_sem,simprocAttr,hb,hv,hb4] at h))))|omega|((first|fail);try simp only [go_sem,simprocAttr,hb,hv,hb4])|(intro h))
   refine ⟨k+1,⟨by omega,fun j hj=> ?_⟩, ?_,by omega⟩
   ·by_cases e:j=k
    ·subst e;omega
    ·exact hg j (by omega)
   ·(refine Le.of ?_ ?_<;>simp [go_sem,simprocAttr,hb,hv,hb4])
 ·have hb:decide ((k:Int)<(p.outs.length:Int))=false:=decide_eq_false (by omega)
  have:B=false:=by
   rw [M0,List.any_eq_false]
   intro l hl
   obtain ⟨j,hj,rfl⟩:=List.mem_iff_getElem.1 hl
   have:=hg j (by omega)
   rw [List.getD_eq_getElem?_getD,List.getElem?_eq_getElem hj,Option.getD_some] at this
   simp;omega
  subst this
  repeat' (first|fail|((first|((with_reducible (first|apply oA|apply oB));exact rfl;intro K hK)|(refine hK _ ?_;clear hK K)|((with_reducible (first|apply oG|apply oH));iterate 3 exact rfl)|((with_reducible apply oI);(iterate 2 exact rfl);intro K hK)|(with_reducible (first|apply wI|apply wJ|apply wK)));try simp only [go_sem,simprocAttr,hb])|fail|(with_reducible (first|apply oC|apply oJ|exact oK|apply wA|apply wB|apply wC hX hC|apply wD hX hC|apply wE hX hC af|apply wF hX hC af|apply wG|apply wH|apply And.intro))|((with_reducible refine oD ?_ ?_);first|fail|kernel_rfl)|((with_reducible (first|apply oE|apply oF));(iterate 3 exact rfl);all_goals (intro h;first|(exact absurd h (by decide))|((try simp only [go_sem,simprocAttr,hb] at h);(try with_reducible intro K hK);simp only [go_sem,simprocAttr,hb])))|((first|((with_reducible apply wL);exact rfl)|((with_reducible apply wM);exact rfl));all_goals (try ((with_reducible intro h);first|(exact absurd h (by decide))|(try simp only [go_sem,simprocAttr,hb] at h))))|omega|((first|fail);try simp only [go_sem,simprocAttr,hb])|(intro h))
def kE (g:Gr):Bool:=decide ((cr g).1=0)&&decide ((bJ (·.1) g).length=1)
theorem rX (g:Gr) (hl:g.es.length≤1000):Spec Tryz.prog 51 (Args [eG g]) [] (eB (kE g)) []:=by
 by_cases hc:(cr g).1=0
 ·have hm:=aE hc
  have an:decide ((cr g).1=0)=true:=decide_eq_true hc
  have hI:kE g=decide (((bJ (·.1) g).length:Int)=1):=by
   unfold kE;rw [an,Bool.true_and,decide_eq_decide];omega
  rw [hI]
  generalize dK:bJ (·.1) g=bl
  have hS:=qZ g hm
  rw [dK] at hS
  (refine Spec.intro (C:=T.cfg [] []) (rs:= [.t 2]) (T.aq _ _) Tryz.func51 rfl rfl Tryz.ntmps51 Tryz.results51 (by simp [AObj.isNest]) (by simp [AObj.isNest]) (by kernel_rfl) ?_;intro X hX hP hC aN aO vals hA;refine ⟨_,by simp,hA, ?_⟩;have af:X.P.follows .mixedOrders=true:=(by rw [hP];exact T.mixed);clear aN aO)
  repeat' (first|fail|((first|((with_reducible (first|apply oA|apply oB));exact rfl;intro K hK)|(refine hK _ ?_;clear hK K)|((with_reducible (first|apply oG|apply oH));iterate 3 exact rfl)|((with_reducible apply oI);(iterate 2 exact rfl);intro K hK)|(with_reducible (first|apply wI|apply wJ|apply wK)));try simp only [go_sem,simprocAttr,an])|fail|(with_reducible (first|apply oC|apply oJ|exact oK|apply wA|apply wB|apply wC hX hC|apply wD hX hC|apply wE hX hC af|apply wF hX hC af|apply wG|apply wH|apply And.intro))|((with_reducible refine oD ?_ ?_);first|fail|kernel_rfl)|((with_reducible (first|apply oE|apply oF));(iterate 3 exact rfl);all_goals (intro h;first|(exact absurd h (by decide))|((try simp only [go_sem,simprocAttr,an] at h);(try with_reducible intro K hK);simp only [go_sem,simprocAttr,an])))|((first|((with_reducible apply wL);exact rfl)|((with_reducible apply wM);exact rfl));all_goals (try ((with_reducible intro h);first|(exact absurd h (by decide))|(try simp only [go_sem,simprocAttr,an] at h))))|omega|((first|first|refine aa hX hC hP (j8 g hl) rfl rfl rfl (by simp only [go_sem,simprocAttr,an]) rfl ?_|refine aa hX hC hP (gy g hm) rfl rfl rfl (by simp only [go_sem,simprocAttr,an]) rfl ?_|refine aa hX hC hP (hS) rfl rfl rfl (by simp only [go_sem,simprocAttr,an]) rfl ?_);try simp only [go_sem,simprocAttr,an])|(intro h))
 ·have an:decide ((cr g).1=0)=false:=decide_eq_false hc
  have hI:kE g=false:=by unfold kE;rw [an];rfl
  rw [hI]
  (refine Spec.intro (C:=T.cfg [] []) (rs:= [.t 2]) (T.aq _ _) Tryz.func51 rfl rfl Tryz.ntmps51 Tryz.results51 (by simp [AObj.isNest]) (by simp [AObj.isNest]) (by kernel_rfl) ?_;intro X hX hP hC aN aO vals hA;refine ⟨_,by simp,hA, ?_⟩;have af:X.P.follows .mixedOrders=true:=(by rw [hP];exact T.mixed);clear aN aO)
  repeat' (first|fail|((first|((with_reducible (first|apply oA|apply oB));exact rfl;intro K hK)|(refine hK _ ?_;clear hK K)|((with_reducible (first|apply oG|apply oH));iterate 3 exact rfl)|((with_reducible apply oI);(iterate 2 exact rfl);intro K hK)|(with_reducible (first|apply wI|apply wJ|apply wK)));try simp only [go_sem,simprocAttr,an])|fail|(with_reducible (first|apply oC|apply oJ|exact oK|apply wA|apply wB|apply wC hX hC|apply wD hX hC|apply wE hX hC af|apply wF hX hC af|apply wG|apply wH|apply And.intro))|((with_reducible refine oD ?_ ?_);first|fail|kernel_rfl)|((with_reducible (first|apply oE|apply oF));(iterate 3 exact rfl);all_goals (intro h;first|(exact absurd h (by decide))|((try simp only [go_sem,simprocAttr,an] at h);(try with_reducible intro K hK);simp only [go_sem,simprocAttr,an])))|((first|((with_reducible apply wL);exact rfl)|((with_reducible apply wM);exact rfl));all_goals (try ((with_reducible intro h);first|(exact absurd h (by decide))|(try simp only [go_sem,simprocAttr,an] at h))))|omega|((first|first|refine aa hX hC hP (j8 g hl) rfl rfl rfl (by simp only [go_sem,simprocAttr,an]) rfl ?_);try simp only [go_sem,simprocAttr,an])|(intro h))
theorem rY (g:Gr) (hl:g.es.length≤1000):Spec Tryz.prog 50 (Args [eG g]) [] (eB (kE g)) []:=by
 by_cases hc:(cr g).1=0
 ·have hm:=aE hc
  have hn:=aZ hm
  have an:decide ((cr g).1=0)=true:=decide_eq_true hc
  have hI:kE g=decide (((bJ (·.1) g).length:Int)=1):=by
   unfold kE;rw [an,Bool.true_and,decide_eq_decide];omega
  rw [hI]
  have hS:=cy g false hl (by omega)
  rw [show j9 (!false)=(·.1) from rfl] at hS
  generalize bJ (·.1) g=bl at hS
  (refine Spec.intro (C:=T.cfg [] []) (rs:= [.t 2]) (T.aq _ _) Tryz.func50 rfl rfl Tryz.ntmps50 Tryz.results50 (by simp [AObj.isNest]) (by simp [AObj.isNest]) (by kernel_rfl) ?_;intro X hX hP hC aN aO vals hA;refine ⟨_,by simp,hA, ?_⟩;have af:X.P.follows .mixedOrders=true:=(by rw [hP];exact T.mixed);clear aN aO)
  repeat' (first|fail|((first|((with_reducible (first|apply oA|apply oB));exact rfl;intro K hK)|(refine hK _ ?_;clear hK K)|((with_reducible (first|apply oG|apply oH));iterate 3 exact rfl)|((with_reducible apply oI);(iterate 2 exact rfl);intro K hK)|(with_reducible (first|apply wI|apply wJ|apply wK)));try simp only [go_sem,simprocAttr,an])|fail|(with_reducible (first|apply oC|apply oJ|exact oK|apply wA|apply wB|apply wC hX hC|apply wD hX hC|apply wE hX hC af|apply wF hX hC af|apply wG|apply wH|apply And.intro))|((with_reducible refine oD ?_ ?_);first|fail|kernel_rfl)|((with_reducible (first|apply oE|apply oF));(iterate 3 exact rfl);all_goals (intro h;first|(exact absurd h (by decide))|((try simp only [go_sem,simprocAttr,an] at h);(try with_reducible intro K hK);simp only [go_sem,simprocAttr,an])))|((first|((with_reducible apply wL);exact rfl)|((with_reducible apply wM);exact rfl));all_goals (try ((with_reducible intro h);first|(exact absurd h (by decide))|(try simp only [go_sem,simprocAttr,an] at h))))|omega|((first|first|refine aa hX hC hP (aQ g (by omega)) rfl rfl rfl (by simp only [go_sem,simprocAttr,an]) rfl ?_|refine aa hX hC hP (hS) rfl rfl rfl (by simp only [go_sem,simprocAttr,an]) rfl ?_);try simp only [go_sem,simprocAttr,an])|(intro h))
 ·have an:decide ((cr g).1=0)=false:=decide_eq_false hc
  have hI:kE g=false:=by unfold kE;rw [an];rfl
  rw [hI]
  (refine Spec.intro (C:=T.cfg [] []) (rs:= [.t 2]) (T.aq _ _) Tryz.func50 rfl rfl Tryz.ntmps50 Tryz.results50 (by simp [AObj.isNest]) (by simp [AObj.isNest]) (by kernel_rfl) ?_;intro X hX hP hC aN aO vals hA;refine ⟨_,by simp,hA, ?_⟩;have af:X.P.follows .mixedOrders=true:=(by rw [hP];exact T.mixed);clear aN aO)
  repeat' (first|fail|((first|((with_reducible (first|apply oA|apply oB));exact rfl;intro K hK)|(refine hK _ ?_;clear hK K)|((with_reducible (first|apply oG|apply oH));iterate 3 exact rfl)|((with_reducible apply oI);(iterate 2 exact rfl);intro K hK)|(with_reducible (first|apply wI|apply wJ|apply wK)));try simp only [go_sem,simprocAttr,an])|fail|(with_reducible (first|apply oC|apply oJ|exact oK|apply wA|apply wB|apply wC hX hC|apply wD hX hC|apply wE hX hC af|apply wF hX hC af|apply wG|apply wH|apply And.intro))|((with_reducible refine oD ?_ ?_);first|fail|kernel_rfl)|((with_reducible (first|apply oE|apply oF));(iterate 3 exact rfl);all_goals (intro h;first|(exact absurd h (by decide))|((try simp only [go_sem,simprocAttr,an] at h);(try with_reducible intro K hK);simp only [go_sem,simprocAttr,an])))|((first|((with_reducible apply wL);exact rfl)|((with_reducible apply wM);exact rfl));all_goals (try ((with_reducible intro h);first|(exact absurd h (by decide))|(try simp only [go_sem,simprocAttr,an] at h))))|omega|((first|first|refine aa hX hC hP (aQ g (by omega)) rfl rfl rfl (by simp only [go_sem,simprocAttr,an]) rfl ?_);try simp only [go_sem,simprocAttr,an])|(intro h))
end Go.Ab
end
section
namespace Go.Ab
open Go.Proofs
attribute [local congr] ACall.congr
set_option maxRecDepth 10000
set_option maxHeartbeats 8000000
def PV:Gr:=⟨3, [(0,1),(0,2)]⟩
def PW:Pl:=⟨[0,1,2], [[0,1], [], []]⟩
def PX:Gr:=⟨4, [(0,1),(0,2),(1,3),(2,3)]⟩
def PY:Pl:=⟨[0,1,2,3], [[0,1], [2], [3], []]⟩
end Go.Ab
end
section
namespace Go.Ab
open Go.Proofs
attribute [local congr] ACall.congr
set_option maxRecDepth 10000
def PZ (l:List Int) (k:Nat):Bool:=(List.range k).all fun i=>decide (l.getD i 0=(i:Int))
def Eg (g:Gr) (names order:List Int) (k:Nat):List Edge:=(List.range k).map fun i=>(names.getD (g.es.getD (order.getD i 0).toNat (0,0)).1.toNat 0,names.getD (g.es.getD (order.getD i 0).toNat (0,0)).2.toNat 0)
def gI (g:Gr) (names order:List Int):Gr:=⟨g.n,Eg g names order order.length⟩
theorem wY {g:Gr} {names order:List Int} {k:Nat} :(Eg g names order k).length=k:=by simp [Eg]
def Jl (g:Gr) (names order:List Int):Bool:=aU g&&ga names g.n&&ga order g.es.length
def OD (g:Gr) (names order:List Int):Gr:=if Jl g names order then gI g names order else ⟨0, []⟩
end Go.Ab
end
section
namespace Go.Ab
def Ed (g:Gr) (a b:Int):Prop:=∃i,i<g.es.length∧tl g i=a∧hd g i=b
def JU (g:Gr) (l:List Int):Prop:=∀i,i<l.length→Ed g (l.getD i 0) (l.getD ((i+1) % l.length) 0)
def CF (g:Gr) (way:List Int) (at_:Int):Prop:=∀p,p<way.length→Ed g ((way++ [at_]).getD (p+1) 0) (way.getD p 0)
theorem oP {l:List Int} {a:Int} :(l++ [a]).getD l.length 0=a:=by
 rw [List.getD_eq_getElem?_getD,List.getElem?_append_right (Nat.le_refl _)];simp
theorem rZ {g:Gr} (hm:aU g=true):∀(f:Nat) (way:List Int) (a:Nat),a<g.n.toNat→(a:Int)∉aI g→CF g way a→left g way≤f→
 CF g (j7 g (cB g (aI g)) f way a).1 (j7 g (cB g (aI g)) f way a).2∧0≤(j7 g (cB g (aI g)) f way a).2∧(j7 g (cB g (aI g)) f way a).2∈(j7 g (cB g (aI g)) f way a).1
 |f,way,a,ha,hn,hc,hl=>by
  by_cases hmem:(a:Int)∈way
  ·rw [jF (.inr hmem)]
   exact ⟨hc,by simp only;omega,hmem⟩
  ·have hla:=iA ha hmem
   cases f with
   |zero=>omega
   |succ f=>
    obtain ⟨⟨i,hi,OE,ff,Jb⟩,_⟩:=ru hm (FG hm ha hn)
    have htr:=b7 hm hi
    rw [ff] at htr
    obtain ⟨b,Jc⟩:∃b:Nat,iU g (cB g (aI g)) a=b:=⟨(iU g (cB g (aI g)) a).toNat,by omega⟩
    rw [Jc] at Jb htr ff
    have e1:j7 g (cB g (aI g)) (f+1) way a=j7 g (cB g (aI g)) f (way++ [(a:Int)]) b:=by
     simp only [j7];rw [if_neg (by intro h;rcases h with h|h;omega;exact hmem h),Jc]
    rw [e1]
    refine rZ hm f (way++ [(a:Int)]) b (by omega) Jb ?_ (by omega)
    intro p hp
    rw [List.length_append,List.length_singleton] at hp
    by_cases fU:p<way.length
    ·have:=hc p fU
     rw [iD (by simp;omega),iD fU]
     exact this
    ·have:p=way.length:=by omega
     subst this
     have e2:=oP (l:=way++ [(a:Int)]) (a:=(b:Int))
     rw [List.length_append,List.length_singleton] at e2
     rw [e2,oP]
     exact ⟨i,hi,ff,OE⟩
theorem oQ {l:List Int} {k p:Nat} :(l.drop k).getD p 0=l.getD (k+p) 0:=by
 rw [List.getD_eq_getElem?_getD,List.getElem?_drop, ← List.getD_eq_getElem?_getD]
theorem JU.L0 {g:Gr} {l:List Int} (h:∀p,p<l.length→Ed g (l.getD ((p+1) % l.length) 0) (l.getD p 0)) (h0:0<l.length):JU g (kC l.reverse):=by
 have JT:0<l.reverse.length:=by simpa using h0
 obtain ⟨k,xA,hk2,_⟩:=dr (iB JT)
 rw [List.length_reverse] at hk2
 have e1:kC l.reverse=l.reverse.drop k++l.reverse.take k:=by simp only [kC,xA,Int.toNat_natCast]
 have hlen:(kC l.reverse).length=l.length:=by rw [e1];simp;omega
 have hg:∀i,i<l.length→(kC l.reverse).getD i 0=l.getD (l.length - 1 - (i+k) % l.length) 0:=by
  intro i hi
  rw [e1,List.getD_eq_getElem?_getD]
  by_cases hik:i<l.length - k
  ·rw [List.getElem?_append_left (by simp;omega),List.getElem?_drop,List.getElem?_reverse (by omega),Nat.mod_eq_of_lt (by omega), ← List.getD_eq_getElem?_getD]
   congr 1;omega
  ·rw [List.getElem?_append_right (by simp;omega),List.length_drop,List.length_reverse,List.getElem?_take,if_pos (by omega),List.getElem?_reverse (by omega), ← List.getD_eq_getElem?_getD]
   have:(i+k) % l.length=i+k - l.length:=by rw [Nat.mod_eq_sub_mod (by omega),Nat.mod_eq_of_lt (by omega)]
   rw [this];congr 1;omega
 intro i hi
 rw [hlen] at hi ⊢
 rw [hg i hi,hg _ (Nat.mod_lt _ h0)]
 have hmm:((i+1) % l.length+k) % l.length=((i+k) % l.length+1) % l.length:=by
  rw [Nat.mod_add_mod,Nat.mod_add_mod];congr 1;omega
 rw [hmm]
 have hj:=Nat.mod_lt (i+k) h0
 generalize (i+k) % l.length=j at hj ⊢
 by_cases tw:j+1<l.length
 ·rw [Nat.mod_eq_of_lt tw]
  have:=h (l.length - 1 - (j+1)) (by omega)
  rw [Nat.mod_eq_of_lt (by omega),show l.length - 1 - (j+1)+1=l.length - 1 - j from by omega] at this
  exact this
 ·have:j+1=l.length:=by omega
  rw [this,Nat.mod_self]
  have:=h (l.length - 1) (by omega)
  rw [show l.length - 1+1=l.length from by omega,Nat.mod_self] at this
  rw [show l.length - 1 - j=0 from by omega]
  exact this
def L3 (g:Gr):Prop:=∃r:Int→Nat,∀i,i<g.es.length→r (tl g i)<r (hd g i)
theorem yY {g:Gr} (hm:aU g=true):AU g=true↔L3 g:=by
 constructor
 ·intro h
  refine ⟨fun v=>((wq g.n.toNat (aI g) (aI g).length).getD v.toNat 0).toNat,fun i hi=> ?_⟩
  have h1:=Cm (z8 hm h) hi
  have h2:=rD (n:=g.n.toNat) (l:=aI g) (k:=(aI g).length) (y:=(tl g i).toNat)
  simp only;omega
 ·rintro ⟨r,hr⟩
  cases h:AU g with
  |true=>rfl
  |false=>
   exfalso
   obtain ⟨y,hy,hn⟩:=yO hm h
   have key:∀(p:Nat) (y:Nat),y<g.n.toNat→(y:Int)∉aI g→r y=p→False:=by
    intro p
    induction p using Nat.strongRecOn with
    |_ p ih=>
     intro y hy hn hp
     obtain ⟨t,i,hi,h1,rfl,h2⟩:=FG hm hy hn
     have htr:=b7 hm hi
     have hlt:=hr i hi
     rw [h1,hp] at hlt
     have e:((tl g i).toNat:Int)=tl g i:=by omega
     exact ih (r (tl g i)) hlt (tl g i).toNat (by omega) (by rw [e];exact h2) (by rw [e])
   exact key _ y hy hn rfl
theorem Eh {g:Gr} (hm:aU g=true) (h:AU g=true):jE g= []:=by
 have hall:=(bX.1 (yN hm h)).2
 have hn:=aZ hm
 rcases start_eq hm with ⟨h1,h2⟩|⟨a,ha,h1,h2,h3⟩
 ·have:jD g=([], -1):=by
   unfold jD;rw [h1];exact jF (.inl (by omega)) _
  simp only [jE,this]
  rw [if_pos (by omega)]
 ·exact absurd (hall a (ej.2 (by omega))) h3
theorem CG {g:Gr} (hm:aU g=true) (h:AU g=false):0<(jE g).length∧JU g (jE g):=by
 obtain ⟨y,hy,OF⟩:=yO hm h
 have hn:=aZ hm
 rcases start_eq hm with ⟨h1,h2⟩|⟨a,ha,h1,h2,h3⟩
 ·exfalso
  rcases fk (f:=fun n:Int=>decide (0<n)) (l:=cB g (aI g)) 0 with ⟨_,h4⟩|⟨k,h4,_⟩
  ·have h5:=(ox hm hy).2 OF
   have h6:=h4 ((cB g (aI g)).getD y 0) (by rw [List.getD_eq_getElem?_getD,j5 hy];exact List.mem_of_getElem? (j5 hy))
   rw [kY hy] at h6
   exact absurd h5 (of_decide_eq_false h6)
  ·omega
 ·obtain ⟨h4,h5,h6⟩:=rZ hm g.n.toNat [] a ha h3 (fun p hp=>by simp at hp) uK
  have hw:jD g=j7 g (cB g (aI g)) g.n.toNat [] a:=by unfold jD;rw [h1]
  rw [← hw] at h4 h5 h6
  obtain ⟨k,xA,hk2,I7⟩:=dr h6
  have hc:jE g=kC ((jD g).1.drop k).reverse:=by
   simp only [jE]
   rw [if_neg (by omega),xA,Int.toNat_natCast]
  have hlen:((jD g).1.drop k).length=(jD g).1.length - k:=by simp
  have h0:0<((jD g).1.drop k).length:=by omega
  refine ⟨?_, ?_⟩
  ·rw [hc]
   simp only [kC,List.length_append,List.length_drop,List.length_take,List.length_reverse]
   omega
  ·rw [hc]
   refine JU.L0 (fun p hp=> ?_) h0
   rw [hlen] at hp ⊢
   have h7:=h4 (k+p) (by omega)
   rw [oQ (p:=p)]
   by_cases tw:p+1<(jD g).1.length - k
   ·rw [Nat.mod_eq_of_lt tw,oQ]
    rw [iD (by omega)] at h7
    exact h7
   ·have:p+1=(jD g).1.length - k:=by omega
    rw [this,Nat.mod_self,oQ,Nat.add_zero,I7]
    rw [show k+p+1=(jD g).1.length from by omega,oP] at h7
    exact h7
end Go.Ab
end
section
namespace Go.Ab
def nm (names:List Int) (v:Int):Int:=names.getD v.toNat 0
structure iY (g:Gr) (names order:List Int):Prop where
 may:aU g=true
 FQ:ga names g.n=true
 ord:ga order (g.es.length:Int)=true
section
variable {g:Gr} {names order:List Int} (h:iY g names order)
include h
theorem iY.len:(gI g names order).es.length=g.es.length:=by
 have:=(bX.1 h.ord).1
 simp only [gI,wY];omega
theorem iY.je {i:Nat} (hi:i<g.es.length):∃j,j<g.es.length∧order.getD i 0=(j:Int)∧(gI g names order).es.getD i (0,0)=(nm names (tl g j),nm names (hd g j)):=by
 have zB:=(bX.1 h.ord).1
 have:=rC h.ord _ (gF (l:=order) (m:=i) (by omega))
 refine ⟨(order.getD i 0).toNat,by omega,by omega, ?_⟩
 simp only [gI,Eg,nm,tl,hd]
 rw [List.getD_eq_getElem?_getD,List.getElem?_map,List.getElem?_range (by omega)]
 rfl
theorem iY.back {j:Nat} (hj:j<g.es.length):∃i,i<g.es.length∧order.getD i 0=(j:Int)∧(gI g names order).es.getD i (0,0)=(nm names (tl g j),nm names (hd g j)):=by
 obtain ⟨zB,hall⟩:=bX.1 h.ord
 obtain ⟨i,hi,hil,he⟩:=dr (hall (j:Int) (ej.2 (by omega)))
 obtain ⟨j',_,h2,h3⟩:=h.je (i:=i) (by omega)
 have:j'=j:=by omega
 subst this
 exact ⟨i,by omega,he,h3⟩
theorem iY.inj {a b:Int} (ha:0≤a∧a<g.n) (hb:0≤b∧b<g.n) (e:nm names a=nm names b):a=b:=by
 have hnl:=(bX.1 h.FQ).1
 have:=kf h.FQ (i:=a.toNat) (j:=b.toNat) (by omega) (by omega) e
 omega
theorem iY.range {a:Int} (ha:0≤a∧a<g.n):0≤nm names a∧nm names a<g.n:=by
 have hnl:=(bX.1 h.FQ).1
 exact rC h.FQ _ (gF (by omega))
theorem iY.inv {a:Int} (ha:0≤a∧a<g.n):dB names (nm names a)=a:=by
 have hnl:=(bX.1 h.FQ).1
 obtain ⟨k,hk,cu,he⟩:=dr (gF (l:=names) (m:=a.toNat) (by omega))
 have h2:=kf h.FQ cu (j:=a.toNat) (by omega) he
 have h3:dB names (nm names a)=k:=hk
 omega
theorem iY.of {v:Int} (hv:0≤v∧v<g.n):∃a,(0≤a∧a<g.n)∧nm names a=v:=by
 obtain ⟨hnl,hall⟩:=bX.1 h.FQ
 obtain ⟨k,hk,cu,he⟩:=dr (hall v (ej.2 (by omega)))
 exact ⟨k,by omega,he⟩
theorem iY.may':aU (gI g names order)=true:=by
 have hn:=aZ h.may
 have hlen:=h.len
 have hall:(gI g names order).es.any (ot (gI g names order))=false:=by
  rw [List.any_eq_false]
  intro e he
  obtain ⟨i,hi,rfl⟩:=List.getElem_of_mem he
  obtain ⟨j,hj,_,h3⟩:=h.je (i:=i) (by omega)
  rw [List.getD_eq_getElem?_getD,List.getElem?_eq_getElem hi,Option.getD_some] at h3
  rw [h3]
  have h4:=h.range (b7 h.may hj)
  have h5:=h.range (dw h.may hj)
  have e1:(gI g names order).n=g.n:=rfl
  simp only [ot,uB,e1,Bool.or_eq_true,decide_eq_true_eq]
  omega
 have e1:(gI g names order).n=g.n:=rfl
 simp only [aU,hall,e1,Bool.not_false,Bool.and_true,Bool.and_eq_true,decide_eq_true_eq]
 omega
omit h in
theorem oR {i j:Nat} (e:(gI g names order).es.getD i (0,0)=(nm names (tl g j),nm names (hd g j))):tl (gI g names order) i=nm names (tl g j)∧hd (gI g names order) i=nm names (hd g j):=⟨congrArg Prod.fst e,congrArg Prod.snd e⟩
theorem iY.loop:(0≤jG (gI g names order))↔0≤jG g:=by
 have key:∀g:Gr,(0≤jG g)↔∃i,i<g.es.length∧tl g i=hd g i:=by
  intro g
  have:=hM (fun e:Edge=>decide (e.1=e.2)) g.es
  rw [show (0≤jG g)↔g.es.any (fun e:Edge=>decide (e.1=e.2))=true from by rw [← this];simp [jG],List.any_eq_true]
  constructor
  ·rintro ⟨e,he,h2⟩
   obtain ⟨i,hi,rfl⟩:=List.getElem_of_mem he
   refine ⟨i,hi, ?_⟩
   simpa [tl,hd,List.getD_eq_getElem?_getD,List.getElem?_eq_getElem hi] using h2
  ·rintro ⟨i,hi,h2⟩
   refine ⟨_,List.getElem_mem hi, ?_⟩
   simpa [tl,hd,List.getD_eq_getElem?_getD,List.getElem?_eq_getElem hi] using h2
 rw [key,key,h.len]
 constructor
 ·rintro ⟨i,hi,e⟩
  obtain ⟨j,hj,_,h3⟩:=h.je hi
  obtain ⟨e1,e2⟩:=oR h3
  exact ⟨j,hj,h.inj (b7 h.may hj) (dw h.may hj) (by rw [← e1, ← e2,e])⟩
 ·rintro ⟨j,hj,e⟩
  obtain ⟨i,hi,_,h3⟩:=h.back hj
  obtain ⟨e1,e2⟩:=oR h3
  exact ⟨i,hi,by rw [e1,e2,e]⟩
omit h in
theorem tA (g:Gr):(0≤fm g)↔∃i k,i<g.es.length∧k<g.es.length∧i≠k∧g.es.getD i (0,0)=g.es.getD k (0,0):=by
 have:=hM (mE g) (List.range g.es.length)
 rw [show (0≤fm g)↔(List.range g.es.length).any (mE g)=true from by rw [← this];simp [fm],List.any_eq_true]
 constructor
 ·rintro ⟨i,hi,h2⟩
  have hil:=List.mem_range.1 hi
  have h3:=of_decide_eq_true h2
  rw [List.mem_iff_getElem?] at h3
  obtain ⟨k,hk⟩:=h3
  rw [List.getElem?_take] at hk
  split at hk
  ·rename_i hki
   exact ⟨i,k,hil,by omega,by omega,by rw [List.getD_eq_getElem?_getD (i:=k),hk];rfl⟩
  ·cases hk
 ·rintro ⟨i,k,hi,hk,hne,e⟩
  have main:∀i k,k<i→i<g.es.length→g.es.getD i (0,0)=g.es.getD k (0,0)→mE g i=true:=by
   intro i k hki hi e
   refine decide_eq_true ?_
   rw [e,List.mem_iff_getElem?]
   refine ⟨k, ?_⟩
   rw [List.getElem?_take,if_pos hki,List.getD_eq_getElem?_getD,List.getElem?_eq_getElem (by omega)];rfl
  rcases Nat.lt_or_gt_of_ne hne with hlt|hgt
  ·exact ⟨k,List.mem_range.2 hk,main k i hlt hk e.symm⟩
  ·exact ⟨i,List.mem_range.2 hi,main i k hgt hi e⟩
theorem iY.Jm:(0≤fm (gI g names order))↔0≤fm g:=by
 have zB:=(bX.1 h.ord).1
 rw [tA,tA,h.len]
 constructor
 ·rintro ⟨i,k,hi,hk,hne,e⟩
  obtain ⟨j,hj,ho,h3⟩:=h.je hi
  obtain ⟨j',hj',ho',DK⟩:=h.je hk
  refine ⟨j,j',hj,hj',fun e'=> ?_, ?_⟩
  ·subst e'
   exact hne (kf h.ord (by omega) (by omega) (by rw [ho,ho']))
  ·rw [h3,DK,Prod.mk.injEq] at e
   have e1:=h.inj (b7 h.may hj) (b7 h.may hj') e.1
   have e2:=h.inj (dw h.may hj) (dw h.may hj') e.2
   exact Prod.ext e1 e2
 ·rintro ⟨j,j',hj,hj',hne,e⟩
  obtain ⟨i,hi,ho,h3⟩:=h.back hj
  obtain ⟨k,hk,ho',DK⟩:=h.back hj'
  refine ⟨i,k,hi,hk,fun e'=> ?_, ?_⟩
  ·subst e';omega
  ·have e1:tl g j=tl g j':=congrArg Prod.fst e
   have e2:hd g j=hd g j':=congrArg Prod.snd e
   rw [h3,DK,e1,e2]
theorem iY.L4:AU (gI g names order)=AU g:=by
 rw [Bool.eq_iff_iff,yY h.may',yY h.may]
 constructor
 ·rintro ⟨r,hr⟩
  refine ⟨fun v=>r (nm names v),fun j hj=> ?_⟩
  obtain ⟨i,hi,_,h3⟩:=h.back hj
  obtain ⟨e1,e2⟩:=oR h3
  have:=hr i (by rw [h.len];exact hi)
  rwa [e1,e2] at this
 ·rintro ⟨r,hr⟩
  refine ⟨fun v=>r (dB names v),fun i hi=> ?_⟩
  rw [h.len] at hi
  obtain ⟨j,hj,_,h3⟩:=h.je hi
  obtain ⟨e1,e2⟩:=oR h3
  have:=hr j hj
  rw [e1,e2];simp only;rw [h.inv (b7 h.may hj),h.inv (dw h.may hj)]
  exact this
omit h in
theorem iI {g:Gr} {y:Int} :y∈bJ (·.2) g↔(0≤y∧y<g.n)∧∀i,i<g.es.length→hd g i≠y:=by
 simp only [bJ,iz,List.mem_map,List.mem_filter,List.mem_range,decide_eq_true_eq]
 have he:∀x:Nat,x<g.n.toNat→(((c8 (·.2) g).getD x []).length=0↔∀i,i<g.es.length→hd g i≠(x:Int)):=by
  intro x hx
  have e:(c8 (·.2) g).getD x []=bg (·.2) g.es g.es.length (x:Int):=by
   simp [c8,List.getD_eq_getElem?_getD,List.getElem?_range hx,k4]
  rw [e,List.length_eq_zero_iff]
  simp only [bg,List.map_eq_nil_iff,List.filter_eq_nil_iff,List.mem_range,decide_eq_true_eq]
  rfl
 constructor
 ·rintro ⟨x,⟨hx,h0⟩,rfl⟩
  refine ⟨by simp;omega,(he x hx).1 h0⟩
 ·rintro ⟨⟨h1,h2⟩,h3⟩
  have e:((y.toNat:Nat):Int)=y:=by omega
  exact ⟨y.toNat,⟨by omega,(he _ (by omega)).2 (by rw [e];exact h3)⟩,e⟩
omit h in
theorem r6 {f:Edge→Int} {g:Gr} :(bJ f g).Nodup:=by
 unfold bJ iz
 refine List.Pairwise.map _ (fun a b h e=>h (Int.ofNat.inj e)) (List.Pairwise.filter _ List.nodup_range)
theorem iY.bare:(bJ (·.2) (gI g names order)).length=(bJ (·.2) g).length:=by
 have e1:(gI g names order).n=g.n:=rfl
 have h1:((bJ (·.2) g).map (nm names)).length≤(bJ (·.2) (gI g names order)).length:=by
  refine Nat.le_trans (count_le _ (bJ (·.2) (gI g names order)) ?_ ?_) List.countP_le_length
  ·rw [List.nodup_iff_pairwise_ne]
   refine List.Pairwise.map _ (fun a b h=>h) ?_
   refine List.Pairwise.imp_of_mem ?_ r6
   intro a b ha hb hab e
   exact hab (h.inj (iI.1 ha).1 (iI.1 hb).1 e)
  ·intro v hv
   obtain ⟨y,hy,rfl⟩:=List.mem_map.1 hv
   obtain ⟨hy1,hy2⟩:=iI.1 hy
   refine iI.2 ⟨h.range hy1,fun i hi e=> ?_⟩
   rw [h.len] at hi
   obtain ⟨j,hj,_,h3⟩:=h.je hi
   rw [(oR h3).2] at e
   exact hy2 j hj (h.inj (dw h.may hj) hy1 e)
 have h2:((bJ (·.2) (gI g names order)).map (dB names)).length≤(bJ (·.2) g).length:=by
  have hsplit:∀v∈bJ (·.2) (gI g names order),∃a,(0≤a∧a<g.n)∧nm names a=v:=fun v hv=>h.of (iI.1 hv).1
  refine Nat.le_trans (count_le _ (bJ (·.2) g) ?_ ?_) List.countP_le_length
  ·rw [List.nodup_iff_pairwise_ne]
   refine List.Pairwise.map _ (fun a b h=>h) ?_
   refine List.Pairwise.imp_of_mem ?_ r6
   intro a b ha hb hab e
   obtain ⟨a',JY,rfl⟩:=hsplit a ha
   obtain ⟨b',hb',rfl⟩:=hsplit b hb
   rw [h.inv JY,h.inv hb'] at e
   exact hab (by rw [e])
  ·intro v hv
   obtain ⟨y,hy,rfl⟩:=List.mem_map.1 hv
   obtain ⟨a,ha,rfl⟩:=hsplit y hy
   rw [h.inv ha]
   refine iI.2 ⟨ha,fun j hj e=> ?_⟩
   obtain ⟨i,hi,_,h3⟩:=h.back hj
   refine (iI.1 hy).2 i (by rw [h.len];exact hi) ?_
   rw [(oR h3).2,e]
 simp only [List.length_map] at h1 h2
 omega
theorem iY.kind:(cr (gI g names order)).1=(cr g).1:=by
 have hm:=h.may'
 have hc:(0<(jE (gI g names order)).length)↔0<(jE g).length:=by
  have key:∀g:Gr,aU g=true→((0<(jE g).length)↔AU g=false):=by
   intro g hm
   cases ho:AU g with
   |true=>rw [Eh hm ho];simp
   |false=>simp [(CG hm ho).1]
  rw [key _ hm,key _ h.may,h.L4]
 have h1:=h.loop
 have h2:=h.Jm
 have h3:=h.bare
 simp only [cr,gO,hm,h.may]
 simp only [Bool.true_eq_false,if_false,h1,h2,hc,h3]
 split
 ·rfl
 split
 ·rfl
 split
 ·rfl
 split<;>rfl
end
end Go.Ab
end
section
namespace Go.Ab
open Go.Proofs
set_option maxRecDepth 10000
def JV:Nat→List Edge→Int→Option (Int × Int)
 |_, [],_=>none
 |m,e::N,v=>if e.1=v then some ((m:Int),e.2) else JV (m+1) N v
def P3 (m:Nat) (N:List Edge) (t:It):It:=if 0≤t.1 then t else match JV m N t.2.1 with
 |some (i,h)=>(i,t.2.1,h)
 |none=>t
structure M3 (g:Gr) (p:Pl):Prop where
 run:cA g p
 n:(Cu g p).n≤64
 es:(Cu g p).es.length≤128
variable {g:Gr} {p:Pl}
end Go.Ab
end
section
namespace Go.Ab
open Go.Proofs
set_option maxRecDepth 10000
variable {g:Gr} {p:Pl}
theorem yZ {p:Pl} {k:Nat} {v:Int} (hk:k≤p.ord.length) (h:v∈p.ord.take k):∃j,j<k∧au p j=v:=by
 obtain ⟨j,hj,e⟩:=List.mem_iff_getElem.1 h
 simp only [List.length_take] at hj
 refine ⟨j,by omega, ?_⟩
 rw [← e,au,List.getD_eq_getElem?_getD,List.getElem?_eq_getElem (by omega)]
 simp
end Go.Ab
end
section
namespace Go.Ab
open Go.Proofs
set_option maxRecDepth 10000
variable {g:Gr} {p:Pl}
theorem oS (hr:cA g p):aW p (au p (g.n.toNat - 1))= []∧au p (g.n.toNat - 1)∈loose (k9 g p):=by
 have hm:=aE hr.1
 have hn:=aZ hm
 obtain ⟨k,hk⟩:∃k,g.n.toNat=k+1:=⟨g.n.toNat - 1,by omega⟩
 obtain ⟨hi,_,_⟩:=c9 hm hr.2.1 (k:=k) (by omega) fun j hj=>hr.2.2 j (by omega)
 obtain ⟨A,X,C,hrw,_,_,_,hs⟩:=iH hm hi.togP (hr.2.2 k (by omega))
 have hL:k9 g p=A++aJ g (au p k) (aW p (au p k))++C:=by
  unfold k9;rw [hk]
  show (aA _ _ _ _).2.row=_
  rw [hs]
 have xA:g.n.toNat - 1=k:=by omega
 rw [xA]
 have kJ:=x9 hr
 have hx:=aG hr.2.1 (k:=k) (by omega)
 have h0:aW p (au p k)= []:=by
  refine Decidable.byContradiction fun h0=> ?_
  have ha:aJ g (au p k) (aW p (au p k))=(aW p (au p k)).map (fQ g (au p k)):=if_neg h0
  obtain ⟨i,hi'⟩:=List.exists_mem_of_ne_nil _ h0
  have h1:=kJ (fQ g (au p k) i) (by rw [hL,ha];simp;exact .inr (.inl ⟨i,hi',rfl⟩))
  obtain ⟨e,rfl,_⟩:=jM ((bR hr.2.1 hx.1 hx.2).mem_iff.1 hi')
  simp [fQ] at h1
  omega
 refine ⟨h0, ?_⟩
 have ha:aJ g (au p k) (aW p (au p k))= [(-1,au p k, -1)]:=if_pos h0
 rw [hL,ha,tr,tr]
 simp [loose]
theorem lQ {f:Edge→Int} {g:Gr} {y:Int} :y∈bJ f g↔(0≤y∧y<g.n)∧bg f g.es g.es.length y= []:=by
 simp only [bJ,iz,List.mem_map,List.mem_filter,List.mem_range,decide_eq_true_eq]
 have he:∀x:Nat,x<g.n.toNat→(((c8 f g).getD x []).length=0↔bg f g.es g.es.length (x:Int)= []):=by
  intro x hx
  have e:(c8 f g).getD x []=bg f g.es g.es.length (x:Int):=by
   simp [c8,List.getD_eq_getElem?_getD,List.getElem?_range hx,k4]
  rw [e,List.length_eq_zero_iff]
 constructor
 ·rintro ⟨x,⟨hx,h0⟩,rfl⟩
  exact ⟨by simp;omega,(he x hx).1 h0⟩
 ·rintro ⟨⟨h1,h2⟩,h3⟩
  have e:((y.toNat:Nat):Int)=y:=by omega
  exact ⟨y.toNat,⟨by omega,(he _ (by omega)).2 (by rw [e];exact h3)⟩,e⟩
end Go.Ab
end
section
namespace Go.Ab
open Go.Proofs
set_option maxRecDepth 10000
def ji (l:List It):List It:=l.filter fun t=>decide (0≤t.1)
theorem lR {a b:List It} :ji (a++b)=ji a++ji b:=by simp [ji]
theorem iZ {l:List It} {t:It} :t∈ji l↔t∈l∧0≤t.1:=by simp [ji]
theorem qd {x:Int} {l:List It} (h:fW x l):fW x (ji l):=fun t ht=>h t (iZ.1 ht).1
def uX (x:Int) (l:List It):Prop:=∀t∈l,t.2.2=x
theorem lS {g:Gr} {x:Int} {o:List Int} (ho:∀i∈o,0≤i):ji (aJ g x o)=o.map (fQ g x):=by
 unfold aJ
 split
 ·rename_i h;subst h;rfl
 ·refine List.filter_eq_self.2 fun t ht=> ?_
  obtain ⟨i,hi,rfl⟩:=List.mem_map.1 ht
  exact decide_eq_true (ho i hi)
theorem tB {x:Int} :∀ {X Y c d:List It},uX x X→uX x Y→fW x c→fW x d→X++c=Y++d→X=Y∧c=d
 | [], [],c,d,_,_,_,_,e=>⟨rfl,e⟩
 | [],u::Y,c,d,_,hY,hc,_,e=>by
   simp only [List.nil_append] at e
   exact absurd (hY u (by simp)) (hc u (by rw [e];simp))
 |t::X, [],c,d,hX,_,_,hd,e=>by
  simp only [List.nil_append] at e
  exact absurd (hX t (by simp)) (hd t (by rw [← e];simp))
 |t::X,u::Y,c,d,hX,hY,hc,hd,e=>by
  simp only [List.cons_append,List.cons.injEq] at e
  obtain ⟨e1,e2⟩:=tB (fun s hs=>hX s (by simp [hs])) (fun s hs=>hY s (by simp [hs])) hc hd e.2
  exact ⟨by rw [e.1,e1],e2⟩
theorem wZ {x:Int} :∀ {a b X Y c d:List It},fW x a→fW x b→uX x X→uX x Y→fW x c→fW x d→X≠ []→Y≠ []→a++X++c=b++Y++d→a=b∧X=Y∧c=d
 |t::a, [],X,u::Y,c,d,ha,_,_,hY,_,_,_,_,e=>by
  simp only [List.cons_append,List.nil_append,List.cons.injEq] at e
  exact absurd (by rw [e.1];exact hY u (by simp)) (ha t (by simp))
 | [],t::b,u::X,Y,c,d,_,hb,hX,_,_,_,_,_,e=>by
   simp only [List.cons_append,List.nil_append,List.cons.injEq] at e
   exact absurd (by rw [← e.1];exact hX u (by simp)) (hb t (by simp))
 |t::a,u::b,X,Y,c,d,ha,hb,hX,hY,hc,hd,nX,nY,e=>by
  simp only [List.cons_append,List.cons.injEq] at e
  obtain ⟨e1,e2,e3⟩:=wZ (fun s hs=>ha s (by simp [hs])) (fun s hs=>hb s (by simp [hs])) hX hY hc hd nX nY e.2
  exact ⟨by rw [e.1,e1],e2,e3⟩
 | [], [],X,Y,c,d,_,_,hX,hY,hc,hd,_,_,e=>by
   refine ⟨rfl, ?_⟩
   simp only [List.nil_append] at e
   exact tB hX hY hc hd e
 | [],_::_, [],_,_,_,_,_,_,_,_,_,h,_,_=>absurd rfl h
 |_::_, [],_, [],_,_,_,_,_,_,_,_,_,h,_=>absurd rfl h
theorem CH {g:Gr} (hm:aU g=true) {f:Fr} (hi:gP g f) {x:Int} (hR:aC g f x=true) (hn:bA g x≠0):
 ∃a X c,ji f.row=a++X++c∧fW x a∧fW x c∧uX x X∧X.length=bA g x∧∀o,ji (aA g f x o).2.row=a++ji (aJ g x o)++c:=by
 obtain ⟨A,X,C,hr,hA,hC,hX,cX⟩:=cZ hm hi hR hn
 have hx:=(aS hR).1
 have hmem:∀t∈X,t∈f.row:=fun t ht=>by rw [hr];simp [ht]
 have hiff:∀t∈X,(0≤t.1↔t.2.2=x):=fun t ht=>by
  have h1:=(hi.it t (hmem t ht)).head hm
  have h2:=hX.al t ht
  omega
 refine ⟨ji A,ji X,ji C,by rw [hr,lR,lR],qd hA,qd hC,fun t ht=> ?_, ?_,fun o=> ?_⟩
 ·obtain ⟨h1,h2⟩:=iZ.1 ht
  exact (hiff t h1).1 h2
 ·rw [← cX,ji, ← List.countP_eq_length_filter]
  refine List.countP_congr fun t ht=> ?_
  simp only [kM,decide_eq_true_eq]
  exact hiff t ht
 ·rw [ko o hr hA hC hX]
  simp only [lR]
theorem Ei {g:Gr} (hm:aU g=true) {f:Fr} (hi:gP g f) {x:Int} (hR:aC g f x=true) (hn:bA g x≠0) {a X c:List It} (e:ji f.row=a++X++c) (ha:fW x a) (hc:fW x c) (hX:uX x X) (nX:X≠ []) (o:List Int):
 ji (aA g f x o).2.row=a++ji (aJ g x o)++c:=by
 obtain ⟨b,Y,d,e',hb,hd,hY,lY,hs⟩:=CH hm hi hR hn
 have nY:Y≠ []:=fun h=>hn (by rw [← lY,h];rfl)
 obtain ⟨e1,_,e3⟩:=wZ hb ha hY hX hd hc nY nX (e'.symm.trans e)
 rw [hs o,e1,e3]
theorem CI {g:Gr} (hm:aU g=true) {f:Fr} (hi:gP g f) {x:Int} (h0:0≤x) (h1:x<g.n) (hp:x∉f.pl) {a X c:List It} (e:ji f.row=a++X++c) (ha:fW x a) (hc:fW x c) (hX:uX x X) (nX:X≠ []) (hl:X.length=bA g x):aC g f x=true:=by
 have hmem:∀j,j<f.row.length→Ag g (f.row.getD j (0,0,0)):=fun j hj=>hi.it _ (aK hj)
 have zK:f.row.countP (kM x)=X.length:=by
  have h2:f.row.countP (kM x)=(ji f.row).countP (kM x):=by
   rw [ji,List.countP_filter]
   refine List.countP_congr fun t ht=> ?_
   have:=(hi.it t ht).head hm
   simp only [kM,Bool.and_eq_true,decide_eq_true_eq]
   omega
  have c1:a.countP (kM x)=0:=List.countP_eq_zero.2 fun t ht=>by simp [kM,ha t ht]
  have c2:c.countP (kM x)=0:=List.countP_eq_zero.2 fun t ht=>by simp [kM,hc t ht]
  have c3:X.countP (kM x)=X.length:=List.countP_eq_length.2 fun t ht=>by simp [kM,hX t ht]
  rw [h2,e,List.countP_append,List.countP_append,c1,c2,c3]
  omega
 rw [← nI hm hi,gr,if_neg (by rintro (h|h|h);omega;omega;exact hp h),gu h0 h1,Bool.and_eq_true,decide_eq_true_eq]
 have hN:(bg (fun e=>e.2) g.es g.es.length x).length=bA g x:=rfl
 rw [hN]
 refine ⟨?_, ?_⟩
 ·unfold aT
  rw [jK,kj (Nat.le_refl _),List.take_length,zK,hl]
 ·rw [Bool.or_eq_true];right
  rcases cU (row:=f.row) (x:=x) f.row.length with ⟨hs,hno⟩|⟨p,q,n,hs,hab,dK,hc0,dL,hpx,L5,hlo,hhi⟩
  ·have hs':aT f.row x=(-1,0,0):=hs
   rw [hs'];simp [pG]
  ·have hs':aT f.row x=((p:Int),(q:Int),(n:Int)):=hs
   rw [hs']
   simp only [Int.toNat_natCast,pG,Bool.not_eq_true']
   rw [← Bool.not_eq_true,th dK]
   rintro ⟨j,h2,h3,h4⟩
   simp only [kg,Bool.and_eq_true,decide_eq_true_eq] at h4
   have hja:p<j:=by
    refine Nat.lt_of_le_of_ne h2 fun e=> ?_
    subst e;exact h4.1 hpx
   have hjb:j<q - 1:=by
    refine Nat.lt_of_le_of_ne (by omega) fun e=> ?_
    subst e;exact h4.1 L5
   have hsub:=((rS (i:=j+1) (j:=q - 1) (rS (i:=p+1) (j:=j) (rS (i:=0) (j:=p) (List.nil_sublist _) (by omega) (by omega)) (by omega) (by omega)) (by omega) (by omega)).trans (List.take_sublist _ f.row)).filter fun t=>decide (0≤t.1)
   have hp1:=(hmem p (by omega)).head hm
   have Jn:=(hmem j (by omega)).head hm
   have hq1:=(hmem (q - 1) (by omega)).head hm
   generalize f.row.getD p (0,0,0)=s1 at hsub hp1 hpx
   generalize f.row.getD j (0,0,0)=s2 at hsub Jn h4
   generalize f.row.getD (q - 1) (0,0,0)=s3 at hsub hq1 L5
   have hf:([]++ [s1]++ [s2]++ [s3]).filter (fun t=>decide (0≤t.1))= [s1,s2,s3]:=List.filter_eq_self.2 fun t ht=>by
    simp only [List.nil_append,List.cons_append,List.mem_cons,List.not_mem_nil,or_false] at ht
    rcases ht with rfl|rfl|rfl
    ·exact decide_eq_true (hp1.1.2 (by omega))
    ·exact decide_eq_true (Jn.1.2 h4.2)
    ·exact decide_eq_true (hq1.1.2 (by omega))
   rw [hf] at hsub
   have hsub: [s1,s2,s3].Sublist (a++(X++c)):=by rw [← List.append_assoc, ← e];exact hsub
   rw [List.sublist_append_iff] at hsub
   obtain ⟨l1,l',el,k1,k'⟩:=hsub
   rw [List.sublist_append_iff] at k'
   obtain ⟨l2,l3,rfl,k2,k3⟩:=k'
   match l1,el,k1 with
   |t::l1,el,k1=>
    simp only [List.cons_append,List.cons.injEq] at el
    exact ha t (k1.subset (by simp)) (by rw [← el.1];exact hpx)
   | [],el,_=>
     match l2,el,k2 with
     | [],el,_=>
       simp only [List.nil_append] at el
       exact hc s1 (k3.subset (by rw [← el];simp)) hpx
     | [t],el,_=>
       simp only [List.nil_append,List.cons_append,List.cons.injEq] at el
       exact hc s3 (k3.subset (by rw [← el.2];simp)) L5
     |t::u::l2,el,k2=>
      simp only [List.nil_append,List.cons_append,List.cons.injEq] at el
      exact h4.1 (by rw [el.2.1];exact hX u (k2.subset (by simp)))
end Go.Ab
end
section
namespace Go.Ab
open Go.Proofs
set_option maxRecDepth 10000
def Jo (gone:List Int) (i:Nat):Bool:= !decide ((i:Int)∈gone)
def F8 (gone:List Int) (k:Nat):List Nat:=(List.range k).filter (Jo gone)
def OG (gone:List Int) (k:Nat):Nat:=(F8 gone k).length
def L6 (gone:List Int) (es:List Edge) (k:Nat):List Edge:=(F8 gone k).map fun i=>es.getD i (0,0)
def OH (g:Gr) (gone:List Int):Gr:=⟨g.n,L6 gone g.es g.es.length⟩
def M4 (gone:List Int) (i:Int):Int:=if i∈gone then -1 else (OG gone i.toNat:Int)
def L7 (gone:List Int) (l:List Int):List Int:=(l.filter fun i=>decide (i∉gone)).map (M4 gone)
def OI (p:Pl) (gone:List Int):Pl:=⟨p.ord,p.outs.map (L7 gone)⟩
variable {g:Gr} {p:Pl} {gone:List Int}
def OJ (gone:List Int) (t:It):It:=(M4 gone t.1,t.2.1,t.2.2)
def OK (gone:List Int) (l:List It):List It:=(l.filter fun t=>decide (t.1∉gone)).map (OJ gone)
theorem fG (hr:cA g p):bA g (au p 0)=0:=by
 have hm:=aE hr.1
 have hn:=aZ hm
 refine Decidable.byContradiction fun hnz=> ?_
 obtain ⟨A,X,C,hrw,_,_,hX,_⟩:=cZ hm (yS g).togP (hr.2.2 0 (by omega)) hnz
 obtain ⟨q,X0,e1,_⟩:=hX.fst
 rw [e1] at hrw
 simp at hrw
end Go.Ab
end
section
namespace Go.Ab
open Go.Proofs
set_option maxRecDepth 10000
theorem uY {g:Gr} (hm:aU g=true) {f:Fr} (hi:gP g f) {x:Int} (hR:aC g f x=true) (hn:bA g x≠0) (o:List Int):
 ∃a c,ji f.row=a++ji (aA g f x o).1.1++c∧fW x a∧fW x c∧uX x (ji (aA g f x o).1.1)∧(ji (aA g f x o).1.1).length=bA g x∧ji (aA g f x o).2.row=a++ji (aJ g x o)++c:=by
 obtain ⟨A,X,C,hr,hA,hC,hX,hc⟩:=cZ hm hi hR hn
 have hx:=(aS hR).1
 have hmem:∀t∈X,t∈f.row:=fun t ht=>by rw [hr];simp [ht]
 have hiff:∀t∈X,(0≤t.1↔t.2.2=x):=fun t ht=>by
  have h1:=(hi.it t (hmem t ht)).head hm
  have h2:=hX.al t ht
  constructor
  ·intro h;rcases h2 with h2|h2
   ·exact h2
   ·exact absurd h2 (h1.1.1 h)
  ·intro h;exact h1.1.2 (by omega)
 rw [ko o hr hA hC hX]
 refine ⟨ji A,ji C,by rw [hr,lR,lR],qd hA,qd hC,fun t ht=> ?_, ?_,by simp only [lR]⟩
 ·obtain ⟨h1,h2⟩:=iZ.1 ht
  exact (hiff t h1).1 h2
 ·rw [← hc,ji, ← List.countP_eq_length_filter]
  refine List.countP_congr fun t ht=> ?_
  simp only [kM,decide_eq_true_eq]
  exact hiff t ht
def bw (g:Gr) (p:Pl) (x:Int):List Int:=(ji ((eH g p g.n.toNat).getD x.toNat [])).map (·.1)
def nP (g:Gr) (p:Pl) (f:Fr) (x:Int):List Int:=(ji (aA g f x (aW p x)).1.1).map (·.1)
def pJ (g:Gr) (p:Pl):Nat→Fr→Prop
 |0,f=>(f.pl.length:Int)=g.n
 |m+1,f=>∃x,aC g f x=true∧nP g p f x=bw g p x∧pJ g p m (tq g p f x)
theorem r7 {g:Gr} {p:Pl} :∀ {m:Nat} {f f':Fr},f.row=f'.row→f.pl.Perm f'.pl→pJ g p m f→pJ g p m f'
 |0,f,f',_,hp,h=>by
  have h:(f.pl.length:Int)=g.n:=h
  show (f'.pl.length:Int)=g.n
  rw [← hp.length_eq];exact h
 |m+1,f,f',hr,hp,⟨x,h1,h3,h2⟩=>by
  refine ⟨x,by rw [← wQ hr hp];exact h1, ?_,r7 ?_ ?_ h2⟩
  ·simp only [nP,aA,hr] at h3 ⊢;exact h3
  ·simp only [tq,aA,hr]
  ·exact hp.append_right _
theorem tC {g:Gr} (hc:(cr g).1=0) {p:Pl} (hp:bF g p):∀ {m:Nat} {f:Fr},wN g f→(f.pl.length:Int)+(m+1:Nat)=g.n→pJ g p (m+1) f→∀ {x:Int},aC g f x=true→nP g p f x=bw g p x∧pJ g p m (tq g p f x)
 |m,f,hi,hl,⟨y,tj,JW,hcan⟩,x,hR=>by
  have hm:=aE hc
  by_cases hxy:x=y
  ·subst hxy;exact ⟨JW,hcan⟩
  have py:=bR hp (aS tj).1 (aS tj).2.1
  have px:=bR hp (aS hR).1 (aS hR).2.1
  have i2:=jO hm hi tj py
  match m,hl,hcan with
  |0,hl,hcan=>
   exfalso
   have h1:=jP i2.togP (by show ((f.pl++ [y]).length:Int)=g.n;simp;omega) (x:=x) ⟨(aS hR).1,(aS hR).2.1⟩
   have h2:x∈f.pl++ [y]:=h1
   simp [(aS hR).2.2,hxy] at h2
  |m+1,hl,hcan=>
   obtain ⟨h4,h5,h6,h7,h8⟩:=An hc hi hxy hR tj px py
   obtain ⟨h9,h3⟩:=tC hc hp i2 (by show (((f.pl++ [y]).length:Nat):Int)+_=_;simp;omega) hcan h5
   refine ⟨?_,y,h4, ?_,r7 h6.symm ?_ h3⟩
   ·unfold nP at h9 ⊢;rw [h7];exact h9
   ·unfold nP at JW ⊢;rw [h8] at JW;exact JW
   show (f.pl++ [y]++ [x]).Perm (f.pl++ [x]++ [y])
   rw [List.append_assoc,List.append_assoc]
   exact List.Perm.append_left _ (List.Perm.swap ..)
theorem tD {g:Gr} {p:Pl} (h:cA g p):∀ {d k:Nat},k+d=g.n.toNat→pJ g p d (fK g p k)
 |0,k,hk=>by
  have hn:=aZ (aE h.1)
  obtain ⟨_,fU,_⟩:=c9 (aE h.1) h.2.1 (k:=k) (by omega) fun j hj=>h.2.2 j (by omega)
  show ((fK g p k).pl.length:Int)=g.n
  rw [fU,List.length_take,bW h.2.1];omega
 |d+1,k,hk=>⟨au p k,h.2.2 k (by omega),by
   unfold bw
   rw [nL h.2.1 (Nat.le_refl _) (show k<g.n.toNat by omega)]
   rfl,tD h (k:=k+1) (by omega)⟩
theorem y3 {g:Gr} (hc:(cr g).1=0) {p:Pl} (hp:bF g p):∀ {m:Nat} {f:Fr},wN g f→pJ g p m f→∀ {i:Nat},i<g.es.length→tl g i∈f.pl→hd g i∉f.pl→∃t∈f.row,t.1=(i:Int)
 |0,f,hi,h,i,hil,_,hh=>by
  have hr:=dw (aE hc) hil
  exact absurd (jP hi.togP h (x:=hd g i) hr) hh
 |m+1,f,hi,⟨x,hR,_,h⟩,i,hil,ht,hh=>by
  have hm:=aE hc
  have px:=bR hp (aS hR).1 (aS hR).2.1
  by_cases hx:hd g i=x
  ·obtain ⟨t,h1,h2,_⟩:=uT hm hi hR hil hx
   exact ⟨t,h1,h2⟩
  ·obtain ⟨t,h1,h2⟩:=y3 hc hp (jO hm hi hR px) h hil (List.mem_append.2 (.inl ht)) (fun h1=>by
    rcases List.mem_append.1 h1 with h1|h1
    ·exact hh h1
    ·exact hx (by simpa using h1))
   obtain ⟨A,X,C,hr,_,_,_,hs⟩:=iH hm hi.togP hR
   rw [hs] at h1
   simp only [List.mem_append] at h1
   rcases h1 with (h1|h1)|h1
   ·exact ⟨t,by rw [hr];simp [h1],h2⟩
   ·rcases jN (fun i hi=>px.mem_iff.1 hi) h1 with ⟨h3,_⟩|⟨k,h3,h4,h5,_,h6,_⟩
    ·omega
    ·have:k=i:=by omega
     subst this
     exact absurd (h6 ▸ ht) (aS hR).2.2
   ·exact ⟨t,by rw [hr];simp [h1],h2⟩
def qe (g:Gr) (e:Int):Int:=(g.es.getD e.toNat (0,0)).1
def Aw (g:Gr) (e:Int):Int:=(g.es.getD e.toNat (0,0)).2
def pK (g:Gr) (x:Int):Prop:=0≤x∧x<g.n
instance {g:Gr} {x:Int} :Decidable (pK g x):=inferInstanceAs (Decidable (0≤x∧x<g.n))
def lg (g:Gr) (p:Pl) (k:Nat) (W D:List Int):Prop:=∃f,wN g f∧f.pl=D∧W=(ji f.row).map (·.1)∧pJ g p k f∧(D.length:Int)+k=g.n∧au p 0∈D
def CJ (g:Gr) (p:Pl) (x:Int):Nat:=((wq g.n.toNat p.ord p.ord.length).getD x.toNat 0).toNat
def kq (g:Gr) (p:Pl):PS:=
 {m:=g.es.length,src:=au p 0,Gs:=au p (g.n.toNat - 1),tl:=qe g,hd:=Aw g,ins:=fun x=>if pK g x then bw g p x else [],outs:=fun x=>if pK g x then aW p x else [],F5:=CJ g p,Row:=lg g p,k0:=g.n.toNat - 1}
theorem kr {g:Gr} {p:Pl} {x:Int} (h:pK g x):(kq g p).ins x=bw g p x:=if_pos h
theorem nQ {g:Gr} {p:Pl} {x:Int} (h:¬pK g x):(kq g p).ins x= []:=if_neg h
theorem ja {g:Gr} {p:Pl} {x:Int} (h:pK g x):(kq g p).outs x=aW p x:=if_pos h
theorem nR {g:Gr} {p:Pl} {x:Int} (h:¬pK g x):(kq g p).outs x= []:=if_neg h
theorem cE {f:Edge→Int} {es:List Edge} {x e:Int} :e∈bg f es es.length x↔(0≤e∧e<es.length)∧f (es.getD e.toNat (0,0))=x:=by
 refine ⟨ig,fun ⟨h1,h2⟩=> ?_⟩
 simp only [bg,List.mem_map,List.mem_filter,List.mem_range,decide_eq_true_eq]
 exact ⟨e.toNat,⟨by omega,h2⟩,by simp;omega⟩
section
variable {g:Gr} {p:Pl}
theorem y4 (hm:aU g=true) (hp:bF g p) {k:Nat} (hk:k<g.n.toNat):CJ g p (au p k)=k:=by
 have hE:=((yV hm).2 hp).1
 have:=uN hE (p:=k) (k:=p.ord.length) (by rw [bW hp];exact hk) (Nat.le_refl _)
 unfold CJ
 show ((wq _ _ _).getD (p.ord.getD k 0).toNat 0).toNat=k
 rw [this];simp
theorem uZ (h:cA g p) {e:Int} (he:0≤e∧e<g.es.length) {k:Nat} (hk:k<g.n.toNat) (hx:Aw g e=au p k):∃j,j<k∧au p j=qe g e:=by
 have hm:=aE h.1
 obtain ⟨hi,fU,_⟩:=c9 hm h.2.1 (k:=k) (by omega) fun j hj=>h.2.2 j (by omega)
 obtain ⟨t,h1,h2,h3,_⟩:=uT hm hi (h.2.2 k hk) (i:=e.toNat) (by omega) hx
 have h4:=hi.tail t h1 (by omega)
 rw [h3,fU] at h4
 exact yZ (by rw [bW h.2.1];omega) h4
theorem lT (hm:aU g=true) {f:Fr} (hi:gP g f) {t:It} (ht:t∈ji f.row):(0≤t.1∧t.1<g.es.length)∧t.2.1=qe g t.1∧t.2.2=Aw g t.1:=by
 obtain ⟨h1,h2⟩:=iZ.1 ht
 rcases hi.it t h1 with h3|h3
 ·omega
 ·exact ⟨⟨h3.1,h3.2.1⟩,h3.2.2.1,h3.2.2.2⟩
theorem CK {f:Fr} (hi:wN g f):((ji f.row).map (·.1)).Nodup:=by
 refine List.pairwise_map.2 ?_
 have:=hi.once.filter (fun t:It=>decide (0≤t.1))
 refine List.Pairwise.imp_of_mem (fun {s t} hs ht h1=>h1 (iZ.1 hs).2) this
theorem Ej (hm:aU g=true) {f:Fr} (hi:wN g f) {x:Int} (hR:aC g f x=true):(nP g p f x).Nodup∧∀e,e∈nP g p f x↔(0≤e∧e<g.es.length)∧Aw g e=x:=by
 by_cases hn:bA g x=0
 ·have hno:=rR hm hi.togP (aS hR).1 hn
  have e0:nP g p f x= []:=by unfold nP;rw [lM _ hno];rfl
  rw [e0]
  refine ⟨List.nodup_nil,fun e=>⟨fun h=>by (cases h),fun ⟨h1,h2⟩=> ?_⟩⟩
  have:=cE.2 ⟨h1,h2⟩
  have h3:bg (·.2) g.es g.es.length x= []:=List.eq_nil_of_length_eq_zero hn
  rw [h3] at this;cases this
 ·obtain ⟨a,c,e1,ha,hc,hX,hl,_⟩:=uY hm hi.togP hR hn (aW p x)
  have cg:=CK hi
  have hmem:∀t∈ji (aA g f x (aW p x)).1.1,t∈ji f.row:=fun t ht=>by rw [e1];simp [ht]
  rw [e1,List.map_append,List.map_append,List.nodup_append] at cg
  have CM:(nP g p f x).Nodup:=(List.nodup_append.1 cg.1).2.1
  have hsub:∀e∈nP g p f x,e∈bg (·.2) g.es g.es.length x:=fun e he=>by
   obtain ⟨t,ht,rfl⟩:=List.mem_map.1 he
   obtain ⟨h1,_,h3⟩:=lT hm hi.togP (hmem t ht)
   exact cE.2 ⟨h1,by rw [← hX t ht,h3];rfl⟩
  have hlen:(bg (·.2) g.es g.es.length x).length=(nP g p f x).length:=by
   unfold nP;rw [List.length_map,hl];rfl
  exact ⟨CM,fun e=>⟨fun he=>cE.1 (hsub e he),fun he=>uS CM hsub hlen e (cE.2 he)⟩⟩
theorem y5 (h:cA g p) {k:Nat} (hk:k<g.n.toNat):bw g p (au p k)=nP g p (fK g p k) (au p k):=by
 unfold bw
 rw [nL h.2.1 (Nat.le_refl _) hk];rfl
theorem iJ (h:cA g p) {x:Int} (hx:pK g x):(bw g p x).Nodup∧∀e,e∈bw g p x↔(0≤e∧e<g.es.length)∧Aw g e=x:=by
 obtain ⟨k,hk,rfl⟩:=gV h.2.1 hx.1 hx.2
 have hm:=aE h.1
 obtain ⟨hi,_,_⟩:=c9 hm h.2.1 (k:=k) (by omega) fun j hj=>h.2.2 j (by omega)
 rw [y5 h hk]
 exact Ej hm hi (h.2.2 k hk)
theorem iK (h:cA g p) {x:Int} (hx:pK g x):(bw g p x).length=bA g x:=by
 obtain ⟨h1,h2⟩:=iJ h hx
 refine Nat.le_antisymm ?_ ?_
 ·exact eu h1 fun e he=>cE.2 ((h2 e).1 he)
 ·exact eu cW fun e he=>(h2 e).2 (cE.1 he)
theorem eW (h:cA g p) (hI:kE g=true) {x:Int} (hx:pK g x):aW p x= []↔x=au p (g.n.toNat - 1):=by
 have hm:=aE h.1
 have hn:=aZ hm
 constructor
 ·intro h1
  have hs:=(oS h).1
  have hsi:=aG h.2.1 (k:=g.n.toNat - 1) (by omega)
  have b1:=lQ (f:=(·.1)) (g:=g) (y:=x) |>.2 ⟨hx,(nN h.2.1 hx.1 hx.2).2 h1⟩
  have b2:=lQ (f:=(·.1)) (g:=g) (y:=au p (g.n.toNat - 1)) |>.2 ⟨hsi,(nN h.2.1 hsi.1 hsi.2).2 hs⟩
  have hl:(bJ (·.1) g).length=1:=by
   unfold kE at hI
   simp only [Bool.and_eq_true,decide_eq_true_eq] at hI
   exact hI.2
  obtain ⟨y,hy⟩:=List.length_eq_one_iff.1 hl
  rw [hy,List.mem_singleton] at b1 b2
  rw [b1,b2]
 ·rintro rfl;exact (oS h).1
theorem tE (h:cA g p) (hI:kE g=true) {f:Fr} (hi:wN g f):∀ {d k:Nat},k+d=g.n.toNat→k<g.n.toNat→au p k∉f.pl→au p (g.n.toNat - 1)∉f.pl
 |0,k,h1,h2,_=>by omega
 |d+1,k,h1,h2,h3=>by
  have hm:=aE h.1
  have hx:=aG h.2.1 h2
  by_cases hs:aW p (au p k)= []
  ·rw [(eW h hI hx).1 hs] at h3;exact h3
  ·obtain ⟨e,u,he⟩:=iR hs
   have pq:e∈bu g (au p k):=(bR h.2.1 hx.1 hx.2).mem_iff.1 (by rw [he];simp)
   obtain ⟨mZ,vi⟩:=cE.1 pq
   have hh:=dw hm (i:=e.toNat) (by omega)
   obtain ⟨k',hk',e'⟩:=gV h.2.1 hh.1 hh.2
   obtain ⟨j,hj,e2⟩:=uZ h mZ hk' e'.symm
   have:j=k:=dV h.2.1 (by omega) h2 (e2.trans vi)
   refine tE h hI hi (d:=g.n.toNat - k') (k:=k') (by omega) hk' fun h4=> ?_
   have:=hi.low e.toNat (by omega) (e' ▸ h4)
   have h5:tl g e.toNat=au p k:=vi
   exact h3 (h5 ▸ this)
 termination_by d=>d
theorem lg.nd {k:Nat} {W D:List Int} (h:lg g p k W D):W.Nodup:=by
 obtain ⟨f,hi,_,rfl,_⟩:=h;exact CK hi
theorem lg.mem (h:cA g p) {k:Nat} {W D:List Int} (hr:lg g p k W D) (e:Int):e∈W↔(0≤e∧e<g.es.length)∧qe g e∈D∧Aw g e∉D:=by
 have hm:=aE h.1
 obtain ⟨f,hi,rfl,rfl,hc,_⟩:=hr
 constructor
 ·intro he
  obtain ⟨t,ht,rfl⟩:=List.mem_map.1 he
  obtain ⟨h1,h2,h3⟩:=lT hm hi.togP ht
  obtain ⟨h4,h5⟩:=iZ.1 ht
  exact ⟨h1,h2 ▸ hi.tail t h4 h5,h3 ▸ hi.head t h4 h5⟩
 ·rintro ⟨h1,h2,h3⟩
  obtain ⟨t,h4,h5⟩:=y3 h.1 h.2.1 hi hc (i:=e.toNat) (by omega) h2 h3
  exact List.mem_map.2 ⟨t,iZ.2 ⟨h4,by omega⟩,by omega⟩
theorem lg.next (h:cA g p) {k:Nat} {W D:List Int} (hr:lg g p (k+1) W D):∃x A C,W=A++(kq g p).ins x++C∧(kq g p).ins x≠ []:=by
 have hm:=aE h.1
 obtain ⟨f,hi,rfl,rfl,⟨x,hR,hg,_⟩,_,hs⟩:=hr
 obtain ⟨x0,x1,x2⟩:=aS hR
 have hx:pK g x:=⟨x0,x1⟩
 have hn:bA g x≠0:=fun h0=>by
  have:=nJ h.1 (x:=x) (y:=au p 0) hx (hi.FM _ hs) h0 (fG h)
  exact x2 (this ▸ hs)
 obtain ⟨a,c,e1,_,_,_,hl,_⟩:=uY hm hi.togP hR hn (aW p x)
 refine ⟨x,a.map (·.1),c.map (·.1), ?_, ?_⟩
 ·rw [kr hx, ← hg,e1,List.map_append,List.map_append];rfl
 ·rw [kr hx]
  intro h0
  have:=iK h hx
  rw [h0] at this
  exact hn this.symm
theorem lg.step (h:cA g p) {k:Nat} {W D A C:List Int} {x:Int} (hr:lg g p k W D) (hW:W=A++(kq g p).ins x++C) (hI:(kq g p).ins x≠ []):∃k',k=k'+1∧lg g p k' (A++(kq g p).outs x++C) (D++ [x]):=by
 have hm:=aE h.1
 have hx:pK g x:=Decidable.byContradiction fun h0=>hI (nQ h0)
 have cg:=hr.nd
 have hmem:=lg.mem h hr
 rw [kr hx] at hW hI
 rw [ja hx]
 obtain ⟨i1,i2⟩:=iJ h hx
 obtain ⟨e0,u0,D7⟩:=iR hI
 have M5:x∉D:=by
  have h1:=(i2 e0).1 (by rw [D7];simp)
  have h2:=(hmem e0).1 (by rw [hW,D7];simp)
  rw [h1.2] at h2;exact h2.2.2
 obtain ⟨f,hi,rfl,OL,hc,hD,hs⟩:=hr
 rw [OL] at hW cg
 obtain ⟨l1,c,e1,e2,e3⟩:=List.map_eq_append_iff.1 hW
 obtain ⟨a,X,e4,e5,e6⟩:=List.map_eq_append_iff.1 e2
 have hrow:ji f.row=a++X++c:=by rw [e1,e4]
 rw [hrow,List.map_append,List.map_append,e5,e6,e3] at cg
 have hit:∀t∈a++X++c,(0≤t.1∧t.1<g.es.length)∧t.2.1=qe g t.1∧t.2.2=Aw g t.1:=fun t ht=>lT hm hi.togP (by rw [hrow];exact ht)
 have hX:uX x X:=fun t ht=>by
  have h1:t.1∈bw g p x:=by rw [← e6];exact List.mem_map_of_mem ht
  rw [(hit t (by simp [ht])).2.2,((i2 _).1 h1).2]
 have hin:∀t∈a++X++c,t.2.2=x→t.1∈bw g p x:=fun t ht e=>by
  obtain ⟨h1,_,h3⟩:=hit t ht
  exact (i2 _).2 ⟨h1,by rw [← h3,e]⟩
 have ha:fW x a:=fun t ht e=>by
  have h1:=hin t (by simp [ht]) e
  have h2:t.1∈A:=by rw [← e5];exact List.mem_map_of_mem ht
  exact (List.nodup_append.1 (List.nodup_append.1 cg).1).2.2 _ h2 _ h1 rfl
 have M6:fW x c:=fun t ht e=>by
  have h1:=hin t (by simp [ht]) e
  have h2:t.1∈C:=by rw [← e3];exact List.mem_map_of_mem ht
  exact (List.nodup_append.1 cg).2.2 _ (List.mem_append.2 (.inr h1)) _ h2 rfl
 have LQ:X.length=bA g x:=by rw [← iK h hx, ← e6,List.length_map]
 have nX:X≠ []:=fun h0=>hI (by rw [← e6,h0];rfl)
 have hR:=CI hm hi.togP hx.1 hx.2 M5 hrow ha M6 hX nX LQ
 have hn:bA g x≠0:=fun h0=>nX (List.eq_nil_of_length_eq_zero (LQ.trans h0))
 have px:=bR h.2.1 hx.1 hx.2
 cases k with
 |zero=>exact absurd (jP hi.togP (by omega) hx) M5
 |succ k=>
  refine ⟨k,rfl,tq g p f x,jO hm hi hR px,rfl, ?_,(tC h.1 h.2.1 hi (by omega) hc hR).2, ?_,List.mem_append.2 (.inl hs)⟩
  ·have:=Ei hm hi.togP hR hn hrow ha M6 hX nX (aW p x)
   show _=(ji (aA g f x (aW p x)).2.row).map (·.1)
   rw [this,List.map_append,List.map_append,e5,e3,lS (fun i hi=>by
    have:=cE.1 (px.mem_iff.1 hi);exact this.1.1),List.map_map]
   have e7:((fun t:It=>t.1) ∘ fQ g x)=id:=rfl
   rw [e7,List.map_id]
  ·show (((f.pl++ [x]).length:Nat):Int)+_=_
   rw [List.length_append,List.length_singleton];omega
theorem Ax (h:cA g p):lg g p (g.n.toNat - 1) (aW p (au p 0)) [au p 0]:=by
 have hm:=aE h.1
 have hn:=aZ hm
 have hx:=aG h.2.1 (k:=0) (by omega)
 obtain ⟨hi,fU,_⟩:=c9 hm h.2.1 (k:=1) (by omega) fun j hj=>h.2.2 j (by omega)
 have px:=bR h.2.1 hx.1 hx.2
 have hno:fW (au p 0) (fK g p 0).row:=fun t ht=>by cases ht
 have hf:fK g p 1=⟨aJ g (au p 0) (aW p (au p 0)), [au p 0]⟩:=by
  show (aA g (fK g p 0) (au p 0) _).2=_
  rw [lM _ hno]
  show (⟨_++ [], []++ [_]⟩:Fr)=_
  simp
 refine ⟨fK g p 1,hi,by rw [hf], ?_,tD h (by omega),by simp;omega,by simp⟩
 rw [hf]
 show _=(ji (aJ g (au p 0) (aW p (au p 0)))).map (·.1)
 rw [lS (fun i hi=>(cE.1 (px.mem_iff.1 hi)).1.1),List.map_map]
 have e7:((fun t:It=>t.1) ∘ fQ g (au p 0))=id:=rfl
 rw [e7,List.map_id]
theorem EV (h:cA g p) (hI:kE g=true):(kq g p).Ok:=by
 have hm:=aE h.1
 have hn:=aZ hm
 have h0:pK g (au p 0):=aG h.2.1 (by omega)
 exact {
  mQ:=fun x e=>by
   show _↔(0≤e∧e<g.es.length)∧qe g e=x
   by_cases hx:pK g x
   ·rw [ja hx,(bR h.2.1 hx.1 hx.2).mem_iff];exact cE
   ·rw [nR hx]
    refine ⟨fun h=>by (cases h),fun ⟨h1,h2⟩=>absurd ?_ hx⟩
    rw [← h2];exact b7 hm (i:=e.toNat) (by omega)
  fL:=fun x e=>by
   show _↔(0≤e∧e<g.es.length)∧Aw g e=x
   by_cases hx:pK g x
   ·rw [kr hx];exact (iJ h hx).2 e
   ·rw [nQ hx]
    refine ⟨fun h=>by (cases h),fun ⟨h1,h2⟩=>absurd ?_ hx⟩
    rw [← h2];exact dw hm (i:=e.toNat) (by omega)
  mR:=fun x=>by
   by_cases hx:pK g x
   ·rw [ja hx,(bR h.2.1 hx.1 hx.2).nodup_iff];exact cW
   ·rw [nR hx];exact List.nodup_nil
  xw:=fun x=>by
   by_cases hx:pK g x
   ·rw [kr hx];exact (iJ h hx).1
   ·rw [nQ hx];exact List.nodup_nil
  tO:=fun e he=>by
   have he:0≤e∧e<g.es.length:=he
   have hh:=dw hm (i:=e.toNat) (by omega)
   obtain ⟨k,hk,e1⟩:=gV h.2.1 hh.1 hh.2
   obtain ⟨j,hj,e2⟩:=uZ h he hk e1.symm
   show CJ g p (qe g e)<CJ g p (Aw g e)
   have e3:Aw g e=au p k:=e1.symm
   rw [← e2,e3,y4 hm h.2.1 hk,y4 hm h.2.1 (by omega)]
   exact hj
  Dq:=by
   show lg g p (g.n.toNat - 1) ((kq g p).outs (au p 0)) [au p 0]
   rw [ja h0];exact Ax h
  tP:=fun hr=>lg.nd hr
  lD:=fun hr e=>lg.mem h hr e
  mS:=fun hr=>lg.next h hr
  mT:=fun hr h1 h2=>lg.step h hr h1 h2
  pT:=fun {W D} hr e he=>by
   obtain ⟨f,hi,rfl,_,_,hD,_⟩:=hr
   exact jP hi.togP (by omega) (dw hm (i:=e.toNat) (by have:=he.1;have:=he.2;have:e<g.es.length:=he.2;omega))
  tQ:=fun {k W D} hr=>by obtain ⟨f,hi,rfl,_,_,_,hs⟩:=hr;exact hs
  tR:=fun {k W D} hr hs=>by
   obtain ⟨f,hi,rfl,_,_,hD,_⟩:=hr
   refine Decidable.byContradiction fun hk=> ?_
   have:∃k',k'<g.n.toNat∧au p k'∉f.pl:=by
    refine Decidable.byContradiction fun hall=> ?_
    have hall:∀k',k'<g.n.toNat→au p k'∈f.pl:=fun k' hk'=>Decidable.byContradiction fun h1=>hall ⟨k',hk',h1⟩
    have:=eu (l:=p.ord) (m:=f.pl) (rV h.2.1) fun x hx=>by
     have hx:=ej.1 (h.2.1.2.1.mem_iff.1 hx)
     obtain ⟨k',h1,rfl⟩:=gV h.2.1 hx.1 (by omega)
     exact hall k' h1
    rw [bW h.2.1] at this
    omega
   obtain ⟨k',h1,h2⟩:=this
   exact tE h hI hi (d:=g.n.toNat - k') (by omega) h1 h2 hs
  tS:=by
   show (kq g p).ins (au p 0)= []
   rw [kr h0]
   have:=iK h h0
   rw [fG h] at this
   exact List.eq_nil_of_length_eq_zero this
  tT:=fun x hx=>by
   have Dl:pK g x:=Decidable.byContradiction fun h0=>hx (nQ h0)
   rw [ja Dl]
   exact eW h hI Dl}
end
end Go.Ab
end
section
namespace Go.Ab
open Go.Proofs
set_option maxRecDepth 10000
set_option linter.unusedSectionVars false
section
variable (g:Gr) (p:Pl)
def cK:Nat→Nat
 |0=>1
 |k+1=>cK k+((aW p (au p k)).length - 1)
def FR (e:Int):Nat:=(aW p (qe g e)).findIdx (fun i=>decide (i=e))
def ek (x:Int):Int:=(bw g p x).headD 0
def kF (x:Int):Int:=(bw g p x).getLastD 0
def LK:Nat→Int→Int
 |0,_=>0
 |k+1,e=>if qe g e=au p k then (if FR g p e=0 then (if k=0 then 0 else LK k (ek g p (au p k))) else (cK p k:Int)+FR g p e - 1) else LK k e
def RK (r:Int):Nat→Int→Int
 |0,_=>0
 |k+1,e=>if qe g e=au p k then (if FR g p e+1<(aW p (au p k)).length then (cK p k:Int)+FR g p e else (if k=0 then r else RK r k (kF g p (au p k)))) else RK r k e
def dx:Nat→List Int
 |0=> [au p 0]
 |k+1=>dx k++List.replicate ((aW p (au p k)).length - 1) (au p k)
end
section
variable {g:Gr} {p:Pl}
theorem dy:∀ {k:Nat},(dx p k).length=cK p k
 |0=>rfl
 |k+1=>by rw [dx,List.length_append,List.length_replicate,dy,cK]
theorem gJ:∀ {k:Nat},0<cK p k
 |0=>by simp [cK]
 |k+1=>by rw [cK];have:= @gJ k;omega
theorem nS {k:Nat} :∀ {d:Nat},cK p k≤cK p (k+d)
 |0=>Nat.le_refl _
 |d+1=>by
  have:= @nS k d
  show _≤cK p (k+d+1)
  rw [cK];omega
theorem oT {k:Nat} {f:Nat} (hf:f<cK p k):∀ {d:Nat},(dx p (k+d)).getD f 0=(dx p k).getD f 0
 |0=>rfl
 |d+1=>by
  show (dx p (k+d+1)).getD f 0=_
  have:=nS (p:=p) (k:=k) (d:=d)
  rw [dx,List.getD_eq_getElem?_getD,List.getElem?_append_left (by rw [dy];omega), ← List.getD_eq_getElem?_getD,oT hf]
theorem CN {k f:Nat} (h1:cK p k≤f) (h2:f<cK p (k+1)):(dx p (k+1)).getD f 0=au p k:=by
 rw [dx,List.getD_eq_getElem?_getD,List.getElem?_append_right (by rw [dy];exact h1),List.getElem?_replicate,dy,if_pos (by rw [cK] at h2;omega)]
 rfl
variable (h:cA g p)
include h
theorem mM {k:Nat} (hk:k<g.n.toNat) {u v:List Int} {e:Int} (he:aW p (au p k)=u++e::v):qe g e=au p k∧FR g p e=u.length:=by
 have hx:=aG h.2.1 hk
 have px:=bR h.2.1 hx.1 hx.2
 have h1:=(cE.1 (px.mem_iff.1 (show e∈aW p (au p k) by rw [he];simp))).2
 have h1:qe g e=au p k:=h1
 refine ⟨h1, ?_⟩
 have cg:(aW p (au p k)).Nodup:=px.nodup_iff.2 cW
 unfold FR
 rw [h1,he]
 rw [he,List.nodup_append] at cg
 rw [List.findIdx_append]
 have h2:u.findIdx (fun i=>decide (i=e))=u.length:=by
  rw [List.findIdx_eq_length]
  intro i hi
  exact decide_eq_false fun e2=>cg.2.2 i hi e (by simp) e2
 rw [h2,if_neg (by omega)]
 simp [List.findIdx_cons]
theorem y6 {e:Int} {k:Nat} (hk:k<g.n.toNat) (he:qe g e=au p k):∀ {d:Nat},k+1+d≤g.n.toNat→LK g p (k+1+d) e=LK g p (k+1) e
 |0,_=>rfl
 |d+1,hd=>by
  show LK g p (k+1+d+1) e=_
  rw [LK,if_neg (fun e2=>by have:=dV h.2.1 hk (show k+1+d<g.n.toNat by omega) (he.symm.trans e2);omega),y6 hk he (by omega)]
theorem y7 {r:Int} {e:Int} {k:Nat} (hk:k<g.n.toNat) (he:qe g e=au p k):∀ {d:Nat},k+1+d≤g.n.toNat→RK g p r (k+1+d) e=RK g p r (k+1) e
 |0,_=>rfl
 |d+1,hd=>by
  show RK g p r (k+1+d+1) e=_
  rw [RK,if_neg (fun e2=>by have:=dV h.2.1 hk (show k+1+d<g.n.toNat by omega) (he.symm.trans e2);omega),y7 hk he (by omega)]
theorem jj {e:Int} {k:Nat} (hk:k<g.n.toNat) (he:qe g e=au p k) {j:Nat} (h1:k+1≤j) (h2:j≤g.n.toNat):LK g p j e=LK g p (k+1) e:=by
 obtain ⟨d,rfl⟩:=Nat.exists_eq_add_of_le h1
 exact y6 h hk he h2
theorem dS {r:Int} {e:Int} {k:Nat} (hk:k<g.n.toNat) (he:qe g e=au p k) {j:Nat} (h1:k+1≤j) (h2:j≤g.n.toNat):RK g p r j e=RK g p r (k+1) e:=by
 obtain ⟨d,rfl⟩:=Nat.exists_eq_add_of_le h1
 exact y7 h hk he h2
theorem u5 {k:Nat} (hk:k<g.n.toNat) {v:List Int} {e:Int} (he:aW p (au p k)=e::v) {j:Nat} (h1:k+1≤j) (h2:j≤g.n.toNat):LK g p j e=if k=0 then 0 else LK g p k (ek g p (au p k)):=by
 obtain ⟨a,b⟩:=mM h hk (u:= []) he
 rw [jj h hk a h1 h2,LK,if_pos a,if_pos (show FR g p e=0 from b)]
theorem y8 {k:Nat} (hk:k<g.n.toNat) {u v:List Int} {e:Int} (he:aW p (au p k)=u++e::v) (hu:u≠ []) {j:Nat} (h1:k+1≤j) (h2:j≤g.n.toNat):LK g p j e=(cK p k:Int)+u.length - 1:=by
 obtain ⟨a,b⟩:=mM h hk he
 have:=List.length_pos_iff.2 hu
 rw [jj h hk a h1 h2,LK,if_pos a,if_neg (by omega),b]
theorem mN {r:Int} {k:Nat} (hk:k<g.n.toNat) {u:List Int} {e:Int} (he:aW p (au p k)=u++ [e]) {j:Nat} (h1:k+1≤j) (h2:j≤g.n.toNat):RK g p r j e=if k=0 then r else RK g p r k (kF g p (au p k)):=by
 obtain ⟨a,b⟩:=mM h hk he
 rw [dS h hk a h1 h2,RK,if_pos a,if_neg (by rw [b,he];simp)]
theorem gB {r:Int} {k:Nat} (hk:k<g.n.toNat) {u v:List Int} {e c:Int} (he:aW p (au p k)=u++e::c::v) {j:Nat} (h1:k+1≤j) (h2:j≤g.n.toNat):RK g p r j e=(cK p k:Int)+u.length:=by
 obtain ⟨a,b⟩:=mM h hk he
 rw [dS h hk a h1 h2,RK,if_pos a,if_pos (by rw [b,he];simp),b]
theorem lU {x:Int} {a:Int} {u:List Int} (hu:bw g p x=a::u):ek g p x=a:=by unfold ek;rw [hu];rfl
theorem iL {x:Int} {a:Int} {u:List Int} (hu:bw g p x=u++ [a]):kF g p x=a:=by unfold kF;rw [hu];simp
theorem w4 {k:Nat} (hk:k<g.n.toNat) (hI:bw g p (au p k)≠ []):k≠0:=fun h0=>by
 subst h0
 have:=iK h (aG h.2.1 hk)
 rw [fG h] at this
 exact hI (List.eq_nil_of_length_eq_zero this)
theorem nT {k:Nat} (hk:k<g.n.toNat) {a:Int} (ha:a∈bw g p (au p k)):∃j,j<k∧qe g a=au p j:=by
 obtain ⟨h1,h2⟩:=((iJ h (aG h.2.1 hk)).2 a).1 ha
 obtain ⟨j,h3,h4⟩:=uZ h h1 hk h2
 exact ⟨j,h3,h4.symm⟩
def WK (g:Gr) (p:Pl) (k:Nat):List Int:=(ji (fK g p k).row).map (·.1)
theorem oU (hn:0<g.n.toNat):WK g p 1=aW p (au p 0):=by
 have hx:=aG h.2.1 hn
 have px:=bR h.2.1 hx.1 hx.2
 have hno:fW (au p 0) (fK g p 0).row:=fun t ht=>by cases ht
 have hf:(fK g p 1).row=aJ g (au p 0) (aW p (au p 0)):=by
  show (aA g (fK g p 0) (au p 0) _).2.row=_
  rw [lM _ hno]
  show _++ []=_
  simp
 unfold WK
 rw [hf,lS (fun i hi=>(cE.1 (px.mem_iff.1 hi)).1.1),List.map_map]
 have e7:((fun t:It=>t.1) ∘ fQ g (au p 0))=id:=rfl
 rw [e7,List.map_id]
theorem jb {k:Nat} (h0:k≠0) (hk:k<g.n.toNat):∃A C,WK g p k=A++bw g p (au p k)++C∧bw g p (au p k)≠ []∧WK g p (k+1)=A++aW p (au p k)++C:=by
 have hm:=aE h.1
 obtain ⟨hi,fU,_⟩:=c9 hm h.2.1 (k:=k) (by omega) fun j hj=>h.2.2 j (by omega)
 have hR:=h.2.2 k hk
 have hx:=aG h.2.1 hk
 have px:=bR h.2.1 hx.1 hx.2
 have hn:bA g (au p k)≠0:=fun hz=>by
  have OM:=aG h.2.1 (show 0<g.n.toNat by omega)
  have:=nJ h.1 hx OM hz (fG h)
  exact h0 (dV h.2.1 hk (by omega) this)
 obtain ⟨a,c,e1,_,_,_,hl,e2⟩:=uY hm hi.togP hR hn (aW p (au p k))
 refine ⟨a.map (·.1),c.map (·.1), ?_, ?_, ?_⟩
 ·rw [y5 h hk];unfold WK;rw [e1,List.map_append,List.map_append];rfl
 ·intro h1
  have:=iK h hx
  rw [h1] at this
  exact hn this.symm
 ·unfold WK
  show (ji (aA g (fK g p k) (au p k) _).2.row).map (·.1)=_
  rw [e2,List.map_append,List.map_append,lS (fun i hi=>(cE.1 (px.mem_iff.1 hi)).1.1),List.map_map]
  have e7:((fun t:It=>t.1) ∘ fQ g (au p k))=id:=rfl
  rw [e7,List.map_id]
theorem lV {k:Nat} (hk:k≤g.n.toNat) {a:Int} (ha:a∈WK g p k):∃j,j<k∧qe g a=au p j:=by
 have hm:=aE h.1
 obtain ⟨hi,fU,_⟩:=c9 hm h.2.1 (k:=k) (by omega) fun j hj=>h.2.2 j (by omega)
 obtain ⟨t,ht,rfl⟩:=List.mem_map.1 ha
 obtain ⟨h1,h2,_⟩:=lT hm hi.togP ht
 obtain ⟨h4,h5⟩:=iZ.1 ht
 have:=hi.tail t h4 h5
 rw [fU,h2] at this
 obtain ⟨j,hj,e⟩:=yZ (by rw [bW h.2.1];omega) this
 exact ⟨j,hj,e.symm⟩
theorem y9 {r:Int} {k:Nat} (hk:k<g.n.toNat) {j:Nat} (h1:k+1≤j) (h2:j≤g.n.toNat):iq (LK g p j) (RK g p r j) (if k=0 then 0 else LK g p k (ek g p (au p k))) (aW p (au p k)):=by
 refine qi (fun u a b v e=> ?_) fun a u e=>u5 h hk e h1 h2
 rw [gB h hk e h1 h2,y8 h hk (u:=u++ [a]) (v:=v) (e:=b) (by rw [e];simp) (by simp) h1 h2]
 simp;omega
theorem za {r:Int} {k:Nat} (hk:k<g.n.toNat) {j:Nat} (h1:k+1≤j) (h2:j≤g.n.toNat) (hO:aW p (au p k)≠ []) (f:Int):jo (RK g p r j) f (aW p (au p k))=if k=0 then r else RK g p r k (kF g p (au p k)):=by
 obtain ⟨v,b,hv⟩:=cG hO
 rw [hv,gY,mN h hk hv h1 h2]
theorem lp {L R L' R':Int→Int} :∀ {W:List Int} {f:Int},(∀a∈W,L a=L' a∧R a=R' a)→(iq L R f W↔iq L' R' f W)
 | [],_,_=>Iff.rfl
 |a::W,f,hh=>by
  have h1:=hh a (List.mem_cons_self ..)
  simp only [iq,h1.1,h1.2,lp (W:=W) fun b hb=>hh b (List.mem_cons_of_mem _ hb)]
theorem r8 {R R':Int→Int} :∀ {W:List Int} {f:Int},(∀a∈W,R a=R' a)→jo R f W=jo R' f W
 | [],_,_=>rfl
 |a::W,f,hh=>by
  simp only [jo,hh a (List.mem_cons_self ..),r8 (W:=W) fun b hb=>hh b (List.mem_cons_of_mem _ hb)]
theorem u6 {r:Int} (hI:kE g=true):∀ {k:Nat},1≤k→k<g.n.toNat→WK g p k≠ []→iq (LK g p k) (RK g p r k) 0 (WK g p k)∧jo (RK g p r k) 0 (WK g p k)=r
 |0,h1,_,_=>by omega
 |k+1,_,hk,hW=>by
  by_cases h0:k=0
  ·subst h0
   rw [oU h (by omega)] at hW ⊢
   have a:=y9 (r:=r) h (k:=0) (by omega) (j:=1) (Nat.le_refl _) (by omega)
   have b:=za (r:=r) h (k:=0) (by omega) (j:=1) (Nat.le_refl _) (by omega) hW 0
   rw [if_pos rfl] at a b
   exact ⟨a,b⟩
  ·obtain ⟨A,C,e1,hne,e2⟩:=jb h h0 (show k<g.n.toNat by omega)
   obtain ⟨l1,l2⟩:=u6 hI (k:=k) (by omega) (by omega) (by rw [e1];simp [hne])
   have hO:aW p (au p k)≠ []:=fun h1=>by
    have:=(eW h hI (aG h.2.1 (show k<g.n.toNat by omega))).1 h1
    have:=dV h.2.1 (show k<g.n.toNat by omega) (by omega) this
    omega
   have zf:∀a∈WK g p k,LK g p (k+1) a=LK g p k a∧RK g p r (k+1) a=RK g p r k a:=fun a ha=>by
    obtain ⟨j,hj,e⟩:=lV h (by omega) ha
    exact ⟨by rw [jj h (by omega) e (j:=k+1) (by omega) (by omega),jj h (by omega) e (j:=k) (by omega) (by omega)],by rw [dS h (by omega) e (j:=k+1) (by omega) (by omega),dS h (by omega) e (j:=k) (by omega) (by omega)]⟩
   rw [← lp h zf] at l1
   rw [← r8 h fun a ha=>(zf a ha).2] at l2
   rw [e1] at l1 l2 zf
   rw [e2]
   obtain ⟨a0,u0,AO⟩:=iR hne
   obtain ⟨u,a,hu⟩:=cG hne
   obtain ⟨l3,l5⟩:=cj.1 l1
   obtain ⟨l4,l6⟩:=cj.1 l3
   have ON:LK g p (k+1) a0=jo (RK g p r (k+1)) 0 A:=by rw [AO] at l6;exact l6.1
   have L8:∀f,jo (RK g p r (k+1)) f (bw g p (au p k))=RK g p r k (kF g p (au p k)):=fun f=>by
    rw [iL h hu,hu,gY,(zf a (by rw [hu];simp)).2]
   have hlk:=y9 (r:=r) h (k:=k) (by omega) (j:=k+1) (Nat.le_refl _) (by omega)
   have L9:=za (r:=r) h (k:=k) (by omega) (j:=k+1) (Nat.le_refl _) (by omega) hO
   rw [if_neg h0] at hlk L9
   rw [lU h AO, ← (zf a0 (by rw [AO];simp)).1,ON] at hlk
   refine ⟨?_, ?_⟩
   ·rw [cj,cj,cO,L9]
    rw [cO,L8] at l5
    exact ⟨⟨l4,hlk⟩,l5⟩
   ·rw [cO,cO,L9]
    rw [cO,cO,L8] at l2
    exact l2
theorem mO (hI:kE g=true) {r:Int} (hr:r<0∨cK p g.n.toNat≤r):(kq g p).ij (LK g p g.n.toNat) (RK g p r g.n.toNat) 0 r (fun f=>(dx p g.n.toNat).getD f.toNat 0):=by
 have hm:=aE h.1
 have hn:=aZ hm
 have D8:∀ {x:Int} {l:List Int},(kq g p).outs x=l→l≠ []→∃k,k<g.n.toNat∧au p k=x∧aW p (au p k)=l:=fun {x l} h1 h2=>by
  by_cases hx:pK g x
  ·obtain ⟨k,hk,rfl⟩:=gV h.2.1 hx.1 hx.2
   exact ⟨k,hk,rfl,by rw [← h1,ja hx]⟩
  ·rw [nR hx] at h1;exact absurd h1.symm h2
 have Ma:∀ {x:Int} {l:List Int},(kq g p).ins x=l→l≠ []→∃k,k<g.n.toNat∧au p k=x∧bw g p (au p k)=l:=fun {x l} h1 h2=>by
  by_cases hx:pK g x
  ·obtain ⟨k,hk,rfl⟩:=gV h.2.1 hx.1 hx.2
   exact ⟨k,hk,rfl,by rw [← h1,kr hx]⟩
  ·rw [nQ hx] at h1;exact absurd h1.symm h2
 have h0:(kq g p).src=au p 0:=rfl
 have GO:∀k,0<cK p k:=fun k=>gJ
 exact {
  ne:=by have:=GO g.n.toNat;omega
  jT:=fun {x u a b v} e=>by
   obtain ⟨k,hk,_,e2⟩:=D8 e (by simp)
   rw [gB h hk e2 (by omega) (Nat.le_refl _),y8 h hk (u:=u++ [a]) (v:=v) (e:=b) (by rw [e2];simp) (by simp) (by omega) (Nat.le_refl _)]
   simp;omega
  tU:=fun {x u a b v} e=>by
   obtain ⟨k,hk,_,e2⟩:=Ma e (by simp)
   have uj:=w4 h hk (by rw [e2];simp)
   obtain ⟨A,C,e1,hne,_⟩:=jb h uj hk
   have l1:=(u6 (r:=r) h hI (k:=k) (by omega) hk (by rw [e1];simp [hne])).1
   have zf:∀a∈WK g p k,LK g p g.n.toNat a=LK g p k a∧RK g p r g.n.toNat a=RK g p r k a:=fun a ha=>by
    obtain ⟨j,hj,e⟩:=lV h (by omega) ha
    exact ⟨by rw [jj h (by omega) e (j:=g.n.toNat) (by omega) (by omega),jj h (by omega) e (j:=k) (by omega) (by omega)],by rw [dS h (by omega) e (j:=g.n.toNat) (by omega) (by omega),dS h (by omega) e (j:=k) (by omega) (by omega)]⟩
   rw [← lp h zf,e1,e2,show A++(u++a::b::v)++C=(A++u)++a::b::(v++C) by simp] at l1
   exact A3 l1
  fst:=fun {x a u b v} e1 e2=>by
   obtain ⟨k,hk,hx,e3⟩:=D8 e2 (by simp)
   have e4:bw g p (au p k)=a::u:=by
    have Dl:pK g x:=by rw [← hx];exact aG h.2.1 hk
    rw [hx, ← kr Dl];exact e1
   have uj:=w4 h hk (by rw [e4];simp)
   obtain ⟨j,hj,et⟩:=nT h hk (a:=a) (by rw [e4];simp)
   rw [u5 h hk e3 (by omega) (Nat.le_refl _),if_neg uj,lU h e4,jj h (by omega) et (j:=g.n.toNat) (by omega) (Nat.le_refl _),jj h (by omega) et (j:=k) (by omega) (by omega)]
  Ds:=fun {x a u b v} e1 e2=>by
   obtain ⟨k,hk,hx,e3⟩:=D8 e2 (by simp)
   have e4:bw g p (au p k)=u++ [a]:=by
    have Dl:pK g x:=by rw [← hx];exact aG h.2.1 hk
    rw [hx, ← kr Dl];exact e1
   have uj:=w4 h hk (by rw [e4];simp)
   obtain ⟨j,hj,et⟩:=nT h hk (a:=a) (by rw [e4];simp)
   rw [mN h hk e3 (by omega) (Nat.le_refl _),if_neg uj,iL h e4,dS h (by omega) et (j:=g.n.toNat) (by omega) (Nat.le_refl _),dS h (by omega) et (j:=k) (by omega) (by omega)]
  s0:=fun {b v} e=>by
   obtain ⟨k,hk,hx,e3⟩:=D8 e (by simp)
   have:k=0:=dV h.2.1 hk (by omega) hx
   rw [u5 h hk e3 (by omega) (Nat.le_refl _),if_pos this]
  s1:=fun {b v} e=>by
   obtain ⟨k,hk,hx,e3⟩:=D8 e (by simp)
   have:k=0:=dV h.2.1 hk (by omega) hx
   rw [mN h hk e3 (by omega) (Nat.le_refl _),if_pos this]
  new:=fun {x u a b v} e=>by
   obtain ⟨k,hk,hx,e3⟩:=D8 e (by simp)
   have hR:=gB (r:=r) h hk e3 (j:=g.n.toNat) (by omega) (Nat.le_refl _)
   have hl:(aW p (au p k)).length=u.length+(v.length+2):=by rw [e3];simp
   have EN:cK p (k+1)=cK p k+((aW p (au p k)).length - 1):=rfl
   obtain ⟨d,hd⟩:=Nat.exists_eq_add_of_le (show k+1≤g.n.toNat by omega)
   have hmo:=nS (p:=p) (k:=k+1) (d:=d)
   rw [← hd] at hmo
   have:=GO k
   refine ⟨?_,by omega,by omega⟩
   show (dx p g.n.toNat).getD (RK g p r g.n.toNat a).toNat 0=x
   rw [hR,show ((cK p k:Int)+(u.length:Int)).toNat=cK p k+u.length by omega,hd,oT (by omega),CN (by omega) (by omega),hx]
  new1:=fun {x u a b v u' a' b' v'} e1 e2 e3=>by
   obtain ⟨k,hk,hx,e4⟩:=D8 e1 (by simp)
   have e5:aW p (au p k)=u'++a'::b'::v':=by
    have Dl:pK g x:=by rw [← hx];exact aG h.2.1 hk
    rw [hx, ← ja Dl];exact e2
   rw [gB h hk e4 (by omega) (Nat.le_refl _),gB h hk e5 (by omega) (Nat.le_refl _)] at e3
   have hl:u.length=u'.length:=by omega
   rw [e4] at e5
   have:=(List.append_inj e5 hl).2
   simp only [List.cons.injEq] at this
   exact this.1}
end
end Go.Ab
end
section
namespace Go.Ab
end Go.Ab
end
section
namespace Go.Ab
open Go.Proofs
attribute [local congr] ACall.congr
set_option maxRecDepth 10000
set_option maxHeartbeats 8000000
def dz (A o:List Int) (f:Nat→Int):Nat→List Int
 |0=>A
 |j+1=>(dz A o f j).set (o.getD j 0).toNat (f j)
theorem dR {A o:List Int} {f:Nat→Int} :∀ {j:Nat},(dz A o f j).length=A.length
 |0=>rfl
 |j+1=>by rw [dz,List.length_set,dR]
def eo (A o:List Int) (left:Int) (c:Nat) (j:Nat):List Int:=dz A o (fun j=>if j=0 then left else (c:Int)+j - 1) j
def er (A o:List Int) (right:Int) (c:Nat) (j:Nat):List Int:=dz A o (fun j=>if j+1<o.length then (c:Int)+j else right) j
theorem oV {A o:List Int} {left:Int} {c:Nat} {j:Nat} :(eo A o left c j).length=A.length:=dR
theorem oW {A o:List Int} {left:Int} {c:Nat} {j:Nat} :(er A o left c j).length=A.length:=dR
theorem oX {A o:List Int} {f:Nat→Int} {e:Nat} :∀ {j:Nat},(∀i,i<j→(o.getD i 0).toNat≠e)→(dz A o f j).getD e 0=A.getD e 0
 |0,_=>rfl
 |j+1,h=>by
  have h1:=h j (by omega)
  rw [dz,List.getD_eq_getElem?_getD,List.getElem?_set,if_neg h1, ← List.getD_eq_getElem?_getD,oX fun i hi=>h i (by omega)]
theorem w5 {A o:List Int} {f:Nat→Int} {i:Nat} (hA:(o.getD i 0).toNat<A.length):∀ {j:Nat},i<j→(∀k,k<j→(o.getD k 0).toNat=(o.getD i 0).toNat→k=i)→(dz A o f j).getD (o.getD i 0).toNat 0=f i
 |0,h,_=>by omega
 |j+1,h,hn=>by
  rw [dz,List.getD_eq_getElem?_getD,List.getElem?_set]
  by_cases e:(o.getD j 0).toNat=(o.getD i 0).toNat
  ·have:=hn j (by omega) e
   subst this
   rw [if_pos rfl,if_pos (by rw [dR];exact hA)];rfl
  ·have hji:j≠i:=fun e2=>e (by rw [e2])
   rw [if_neg e, ← List.getD_eq_getElem?_getD,w5 hA (by omega) fun k hk=>hn k (by omega)]
def fH (c k:Nat):List Int:=(List.range k).map fun i:Nat=>((c+i:Nat):Int)
theorem ya {c k:Nat} :fH c (k+1)=fH c k++ [((c+k:Nat):Int)]:=by simp [fH,List.range_succ]
theorem jQ {c k:Nat} :(fH c k).length=k:=by simp [fH]
def Ek (left:Int) (c d j:Nat):Int:=if min j (d - 1)=0 then left else (c:Int)+(min j (d - 1):Nat) - 1
def Gm (ed gp:D) (A B lo hi:List Int):List (Nat × AObj):= [(10000, .box [.d ed, .d gp, .ref 10001, .ref 10002, .ref 10003, .ref 10004]),(10001, .own 3 1 (A.map rI)),(10002, .own 3 1 (B.map rI)),(10003, .tip 3 1 (lo.map rI)),(10004, .own 3 1 (hi.map rI))]
def Gn (ed gp:D) (A B lo hi:List Int):List (Nat × AObj):= [(10000, .box [.d ed, .d gp, .ref 10001, .ref 10002, .ref 10005, .ref 10006]),(10001, .own 3 1 (A.map rI)),(10002, .own 3 1 (B.map rI)),(10005, .tip 3 1 (lo.map rI)),(10006, .own 3 1 (hi.map rI))]
theorem tF (x left right:Int) (o:List Int) (ed gp:D) (A B lo hi:List Int) (ho:o.length≤100000) (hO:∀i∈o,0≤i∧i<A.length) (hB:B.length=A.length) (hlo:lo.length≤100000) (hhi:hi.length≤100000):
 Spec Tryz.prog 52 (Args [.ptr 10000 0,eN x, .d (sI o),eN left,eN right]) (Gm ed gp A B lo hi)
  (.d (sI (fH lo.length (o.length - 1)))) (Gn ed gp (eo A o left lo.length o.length) (er B o right lo.length o.length) (lo++List.replicate (o.length - 1) x) (hi++List.replicate (o.length - 1) 0)):=by
 unfold Gm Gn
 generalize hc:lo.length=c at*
 (refine Spec.fM (C:=T.cfg [] []) (rs:= [.t 10]) [(10005,200),(10006,201)] (T.aq _ _) Tryz.func52 rfl rfl Tryz.ntmps52 Tryz.results52 (by simp [AObj.isNest]) (by simp [AObj.isNest]) (by first|(simp [look];done)|(simp [asN];done)|(intro l hl;simp only [asN];repeat (rw [if_neg (fun e=>by subst e;simp [look] at hl)]))) (by first|(simp [look];done)|(simp [asN];done)|(intro l hl;simp only [asN];repeat (rw [if_neg (fun e=>by subst e;simp [look] at hl)]))) (by kernel_rfl) ?_;intro X hX hP hC aN aO vals hA;refine ⟨_,by simp,hA, ?_⟩;have af:X.P.follows .mixedOrders=true:=(by rw [hP];exact T.mixed);clear aN aO)
 repeat' (first|fail|((first|((with_reducible (first|apply oA|apply oB));exact rfl;intro K hK)|(refine hK _ ?_;clear hK K)|((with_reducible (first|apply oG|apply oH));iterate 3 exact rfl)|((with_reducible apply oI);(iterate 2 exact rfl);intro K hK)|(with_reducible (first|apply wI|apply wJ|apply wK)));try simp only [go_sem,simprocAttr])|(show cH _ (.seq (.region 1 _ _) _) _ _;(refine j4 hX 10 202 (.tip 3 1 []) (by simp only [go_sem,simprocAttr]) (by simp only [go_sem,simprocAttr]) (by decide) ⟨3,1,by decide, .inr rfl⟩ ?_;simp only [go_sem,simprocAttr]);(refine gS hX 10000 4 10003 200 rfl rfl rfl (by first|exact .inl rfl|exact .inr rfl) (by decide) (by decide) ?_;simp only [LA.app,ASt.put,ASt.kill,subT,rmk,putM,rml,kl,AV.sub,AV.subs,AObj.sub,List.set_cons_zero,List.set_cons_succ,go_sem,simprocAttr]);(refine gS hX 10000 5 10004 201 rfl rfl rfl (by first|exact .inl rfl|exact .inr rfl) (by decide) (by decide) ?_;simp only [LA.app,ASt.put,ASt.kill,subT,rmk,putM,rml,kl,AV.sub,AV.subs,AObj.sub,List.set_cons_zero,List.set_cons_succ,go_sem,simprocAttr]))|(with_reducible (first|apply oC|apply oJ|exact oK|apply wA|apply wB|apply wC hX hC|apply wD hX hC|apply wE hX hC af|apply wF hX hC af|apply wG|apply wH|apply And.intro))|((with_reducible refine oD ?_ ?_);first|fail|kernel_rfl)|((with_reducible (first|apply oE|apply oF));(iterate 3 exact rfl);all_goals (intro h;first|(exact absurd h (by decide))|((try simp only [go_sem,simprocAttr] at h);(try with_reducible intro K hK);simp only [go_sem,simprocAttr])))|((first|((with_reducible apply wL);exact rfl)|((with_reducible apply wM);exact rfl));all_goals (try ((with_reducible intro h);first|(exact absurd h (by decide))|(try simp only [go_sem,simprocAttr] at h))))|omega|((first|fail);try simp only [go_sem,simprocAttr])|(intro h))
 refine ak (fun j:Nat=>j≤o.length) (fun j=>⟨[(0, .ptr 10000 0),(1,eN x),(2, .d (sI o)),(3,eN (Ek left c o.length j)),(4,eN right),(10, .ref 202),(13, .d (sI o)),(14,eN o.length),(15,eN j)], [(10000, .box [.d ed, .d gp, .ref 10001, .ref 10002, .ref 200, .ref 201]),(10001, .own 3 1 ((eo A o left c j).map rI)),(10002, .own 3 1 ((er B o right c j).map rI)),(200, .tip 3 1 ((lo++List.replicate (min j (o.length - 1)) x).map rI)),(201, .own 3 1 ((hi++List.replicate (min j (o.length - 1)) 0).map rI)),(202, .tip 3 1 ((fH c (min j (o.length - 1))).map rI))]⟩) (fun j=>o.length - j) 0 (by omega) ?_ ?_
 ·refine Le.of ?_ ?_<;>simp [go_sem,simprocAttr,Ek,eo,er,dz,fH]
 rintro j hj
 rcases Nat.lt_or_ge j o.length with hjl|I9
 rotate_left
 ·have hb:decide ((j:Int)<(o.length:Int))=false:=decide_eq_false (by omega)
  obtain rfl:j=o.length:=by omega
  have hmin:min o.length (o.length - 1)=o.length - 1:=by omega
  rw [hmin]
  repeat' (first|fail|((first|((with_reducible (first|apply oA|apply oB));exact rfl;intro K hK)|(refine hK _ ?_;clear hK K)|((with_reducible (first|apply oG|apply oH));iterate 3 exact rfl)|((with_reducible apply oI);(iterate 2 exact rfl);intro K hK)|(with_reducible (first|apply wI|apply wJ|apply wK)));try simp only [go_sem,simprocAttr,hb])|fail|(with_reducible (first|apply oC|apply oJ|exact oK|apply wA|apply wB|apply wC hX hC|apply wD hX hC|apply wE hX hC af|apply wF hX hC af|apply wG|apply wH|apply And.intro))|((with_reducible refine oD ?_ ?_);first|fail|kernel_rfl)|((with_reducible (first|apply oE|apply oF));(iterate 3 exact rfl);all_goals (intro h;first|(exact absurd h (by decide))|((try simp only [go_sem,simprocAttr,hb] at h);(try with_reducible intro K hK);simp only [go_sem,simprocAttr,hb])))|((first|((with_reducible apply wL);exact rfl)|((with_reducible apply wM);exact rfl));all_goals (try ((with_reducible intro h);first|(exact absurd h (by decide))|(try simp only [go_sem,simprocAttr,hb] at h))))|omega|((first|fail);try simp only [go_sem,simprocAttr,hb])|(intro h))
 have hb:decide ((j:Int)<(o.length:Int))=true:=decide_eq_true (by omega)
 have hin:=hO _ (aK (d:=0) hjl)
 have gA:=oV (A:=A) (o:=o) (left:=left) (c:=c) (j:=j)
 have dK:=oW (A:=B) (o:=o) (left:=right) (c:=c) (j:=j)
 have sJ:eo A o left c (j+1)=(eo A o left c j).set (o.getD j 0).toNat (if j=0 then left else (c:Int)+j - 1):=rfl
 have kN:er B o right c (j+1)=(er B o right c j).set (o.getD j 0).toNat (if j+1<o.length then (c:Int)+j else right):=rfl
 have pq:min j (o.length - 1)=j:=by omega
 have hlf:Ek left c o.length j=if j=0 then left else (c:Int)+j - 1:=by unfold Ek;rw [pq]
 rw [pq,hlf]
 generalize r9:o.getD j 0=v at hin sJ kN
 obtain ⟨i,rfl⟩:∃i:Nat,v=i:=⟨v.toNat,by omega⟩
 rw [Int.toNat_natCast] at sJ kN
 generalize (if j=0 then left else (c:Int)+j - 1)=lv at sJ hlf ⊢
 by_cases hj2:j+1<o.length
 ·have aj:decide ((j:Int)+1<(o.length:Int))=true:=decide_eq_true (by omega)
  have hm2:min (j+1) (o.length - 1)=j+1:=by omega
  rw [if_pos hj2] at kN
  have FT:Ek left c o.length (j+1)=((c+j:Nat):Int):=by unfold Ek;rw [hm2,if_neg (by omega)];omega
  have kJ:(lo++List.replicate j x).length=c+j:=by rw [List.length_append,List.length_replicate,hc]
  have sg:(hi++List.replicate j (0:Int)).length=hi.length+j:=by rw [List.length_append,List.length_replicate]
  have Jp:lo++List.replicate (j+1) x=(lo++List.replicate j x)++ [x]:=by rw [List.replicate_succ', ← List.append_assoc]
  have Jq:hi++List.replicate (j+1) (0:Int)=(hi++List.replicate j 0)++ [0]:=by rw [List.replicate_succ', ← List.append_assoc]
  have o5:=jQ (c:=c) (k:=j)
  have BM:=ya (c:=c) (k:=j)
  generalize lo++List.replicate j x=P4 at kJ Jp
  generalize hi++List.replicate j (0:Int)=hi1 at sg Jq
  generalize fH c j=gs at o5 BM
  generalize eo A o left c j=A1 at gA sJ
  generalize er B o right c j=B1 at dK kN
  repeat' (first|fail|((first|((with_reducible (first|apply oA|apply oB));exact rfl;intro K hK)|(refine hK _ ?_;clear hK K)|((with_reducible (first|apply oG|apply oH));iterate 3 exact rfl)|((with_reducible apply oI);(iterate 2 exact rfl);intro K hK)|(with_reducible (first|apply wI|apply wJ|apply wK)));try simp only [go_sem,simprocAttr,hb,aj,r9,gA,dK,kJ,sg,o5])|(show cH _ (.seq (.region 8 _ _) _) _ _;(refine gS hX 10000 4 48 200 rfl rfl rfl (by first|exact .inl rfl|exact .inr rfl) (by decide) (by decide) ?_;simp only [LA.app,ASt.put,ASt.kill,subT,rmk,putM,rml,kl,AV.sub,AV.subs,AObj.sub,List.set_cons_zero,List.set_cons_succ,go_sem,simprocAttr,hb,aj,r9,gA,dK,kJ,sg,o5]);(refine gS hX 10000 5 55 201 rfl rfl rfl (by first|exact .inl rfl|exact .inr rfl) (by decide) (by decide) ?_;simp only [LA.app,ASt.put,ASt.kill,subT,rmk,putM,rml,kl,AV.sub,AV.subs,AObj.sub,List.set_cons_zero,List.set_cons_succ,go_sem,simprocAttr,hb,aj,r9,gA,dK,kJ,sg,o5]))|(show cH _ (.region 9 _ _) _ _;(refine dZ hX 10 65 202 (by simp only [go_sem,simprocAttr,hb,aj,r9,gA,dK,kJ,sg,o5]) rfl (by first|exact .inl rfl|exact .inr rfl) (by decide) ?_;simp only [go_sem,simprocAttr,hb,aj,r9,gA,dK,kJ,sg,o5]))|(with_reducible (first|apply oC|apply oJ|exact oK|apply wA|apply wB|apply wC hX hC|apply wD hX hC|apply wE hX hC af|apply wF hX hC af|apply wG|apply wH|apply And.intro))|((with_reducible refine oD ?_ ?_);first|fail|kernel_rfl)|((with_reducible (first|apply oE|apply oF));(iterate 3 exact rfl);all_goals (intro h;first|(exact absurd h (by decide))|((try simp only [go_sem,simprocAttr,hb,aj,r9,gA,dK,kJ,sg,o5] at h);(try with_reducible intro K hK);simp only [go_sem,simprocAttr,hb,aj,r9,gA,dK,kJ,sg,o5])))|((first|((with_reducible apply wL);exact rfl)|((with_reducible apply wM);exact rfl));all_goals (try ((with_reducible intro h);first|(exact absurd h (by decide))|(try simp only [go_sem,simprocAttr,hb,aj,r9,gA,dK,kJ,sg,o5] at h))))|omega|((first|fail);try simp only [go_sem,simprocAttr,hb,aj,r9,gA,dK,kJ,sg,o5])|(intro h))
  refine ⟨j+1,by omega, ?_,by omega⟩
  rw [sJ,kN,hm2,Jp,Jq,BM,FT]
  refine Le.of ?_ ?_<;>simp [go_sem,simprocAttr,hb,aj,r9,gA,dK,kJ,sg,o5,rI]
 ·have aj:decide ((j:Int)+1<(o.length:Int))=false:=decide_eq_false (by omega)
  have hm2:min (j+1) (o.length - 1)=j:=by omega
  have FT:Ek left c o.length (j+1)=Ek left c o.length j:=by unfold Ek;rw [hm2,pq]
  rw [if_neg hj2] at kN
  generalize eo A o left c j=A1 at gA sJ
  generalize er B o right c j=B1 at dK kN
  repeat' (first|fail|((first|((with_reducible (first|apply oA|apply oB));exact rfl;intro K hK)|(refine hK _ ?_;clear hK K)|((with_reducible (first|apply oG|apply oH));iterate 3 exact rfl)|((with_reducible apply oI);(iterate 2 exact rfl);intro K hK)|(with_reducible (first|apply wI|apply wJ|apply wK)));try simp only [go_sem,simprocAttr,hb,aj,r9,gA,dK])|fail|(with_reducible (first|apply oC|apply oJ|exact oK|apply wA|apply wB|apply wC hX hC|apply wD hX hC|apply wE hX hC af|apply wF hX hC af|apply wG|apply wH|apply And.intro))|((with_reducible refine oD ?_ ?_);first|fail|kernel_rfl)|((with_reducible (first|apply oE|apply oF));(iterate 3 exact rfl);all_goals (intro h;first|(exact absurd h (by decide))|((try simp only [go_sem,simprocAttr,hb,aj,r9,gA,dK] at h);(try with_reducible intro K hK);simp only [go_sem,simprocAttr,hb,aj,r9,gA,dK])))|((first|((with_reducible apply wL);exact rfl)|((with_reducible apply wM);exact rfl));all_goals (try ((with_reducible intro h);first|(exact absurd h (by decide))|(try simp only [go_sem,simprocAttr,hb,aj,r9,gA,dK] at h))))|omega|((first|fail);try simp only [go_sem,simprocAttr,hb,aj,r9,gA,dK])|(intro h))
  refine ⟨j+1,by omega, ?_,by omega⟩
  rw [sJ,kN,hm2,FT,hlf]
  refine Le.of ?_ ?_<;>simp [go_sem,simprocAttr,hb,aj,r9,gA,dK,rI]
end Go.Ab
end
section
namespace Go.Ab
open Go.Proofs
attribute [local congr] ACall.congr
set_option maxRecDepth 10000
set_option maxHeartbeats 8000000
def dN (A fs:List Int) (x:Int) (j:Nat):List Int:=dz A fs (fun _=>x) j
theorem jR {A fs:List Int} {x:Int} {j:Nat} :(dN A fs x j).length=A.length:=dR
theorem jk (l items:List Int) (a b:Nat) (h0:0<(l.take a++items++l.drop b).length) (hr:l.length≤400000) (hi:items.length≤100000):Spec Tryz.prog 54 (Args [.d (.sl 1 [[.sl 1 (List.take a (l.map rI))], [.sl 1 (items.map rI)], [.sl 1 (List.drop b (l.map rI))]])]) [] (.d (sI (l.take a++items++l.drop b))) []:=by
 have hf: [l.take a,items,l.drop b].flatten=l.take a++items++l.drop b:=by simp
 have:=ee [l.take a,items,l.drop b] (by simp) (by rw [hf];exact h0) (by rw [hf];simp;omega)
 rw [hf] at this
 simpa only [vL,List.map_cons,List.map_nil,sI,List.map_take,List.map_drop] using this
theorem u7 (x:Int) (o W G A B lo hi:List Int) (a b:Nat) (hab:a<b) (P5:b<G.length) (P6:b≤W.length) (hG:G.length≤100000) (hW:W.length≤100000) (hf:∀f∈(G.take b).drop (a+1),0≤f∧f<hi.length)
 (ho:o.length≤100000) (hO:∀i∈o,0≤i∧i<A.length) (hB:B.length=A.length) (hlo:lo.length≤100000) (hhi:hi.length≤100000):
 Spec Tryz.prog 56 (Args [.ptr 10000 0,eN x, .d (sI o),eN a,eN b]) (Gm (sI W) (sI G) A B lo hi) (.tup [])
  (Gn (sI (if o= [] then W else W.take a++o++W.drop b)) (sI (G.take (a+1)++fH lo.length (o.length - 1)++G.drop b)) (eo A o (G.getD a 0) lo.length o.length) (er B o (G.getD b 0) lo.length o.length) (lo++List.replicate (o.length - 1) x) (dN hi ((G.take b).drop (a+1)) x ((G.take b).drop (a+1)).length++List.replicate (o.length - 1) 0)):=by
 have tZ:List.drop (a+1) (List.take b (List.map rI G))=((G.take b).drop (a+1)).map rI:=by rw [List.map_drop,List.map_take]
 have hfl:((G.take b).drop (a+1)).length≤100000:=by simp;omega
 generalize (G.take b).drop (a+1)=fs at tZ hf hfl ⊢
 have sw:List.take G.length (List.map rI G)=List.map rI G:=List.take_of_length_le (by simp)
 have sx:List.take W.length (List.map rI W)=List.map rI W:=List.take_of_length_le (by simp)
 have hmn:min ((a:Int)+1) (b:Int)=((a+1:Nat):Int):=by omega
 have CO:=tF x (G.getD a 0) (G.getD b 0) o (sI W) (sI G) A B lo (dN hi fs x fs.length) ho hO hB hlo (by rw [jR];exact hhi)
 have Mb:=jk G (fH lo.length (o.length - 1)) (a+1) b (by simp;omega) (by omega) (by rw [jQ];omega)
 have M7:=fun (h:o≠ [])=>jk W o a b (by have:=List.length_pos_iff.2 h;simp;omega) (by omega) (by omega)
 generalize hg:fH lo.length (o.length - 1)=gs at CO Mb
 unfold Gm Gn at CO ⊢
 (refine Spec.fM (C:=T.cfg [] []) (rs:= []) [(10005,300),(10006,301)] (T.aq _ _) Tryz.func56 rfl rfl Tryz.ntmps56 Tryz.results56 (by simp [AObj.isNest]) (by simp [AObj.isNest]) (by first|(simp [look];done)|(simp [asN];done)|(intro l hl;simp only [asN];repeat (rw [if_neg (fun e=>by subst e;simp [look] at hl)]))) (by first|(simp [look];done)|(simp [asN];done)|(intro l hl;simp only [asN];repeat (rw [if_neg (fun e=>by subst e;simp [look] at hl)]))) (by kernel_rfl) ?_;intro X hX hP hC aN aO vals hA;refine ⟨_,by simp,hA, ?_⟩;have af:X.P.follows .mixedOrders=true:=(by rw [hP];exact T.mixed);clear aN aO)
 repeat' (first|fail|((first|((with_reducible (first|apply oA|apply oB));exact rfl;intro K hK)|(refine hK _ ?_;clear hK K)|((with_reducible (first|apply oG|apply oH));iterate 3 exact rfl)|((with_reducible apply oI);(iterate 2 exact rfl);intro K hK)|(with_reducible (first|apply wI|apply wJ|apply wK)));try simp only [go_sem,simprocAttr,hmn,tZ])|fail|(with_reducible (first|apply oC|apply oJ|exact oK|apply wA|apply wB|apply wC hX hC|apply wD hX hC|apply wE hX hC af|apply wF hX hC af|apply wG|apply wH|apply And.intro))|((with_reducible refine oD ?_ ?_);first|fail|kernel_rfl)|((with_reducible (first|apply oE|apply oF));(iterate 3 exact rfl);all_goals (intro h;first|(exact absurd h (by decide))|((try simp only [go_sem,simprocAttr,hmn,tZ] at h);(try with_reducible intro K hK);simp only [go_sem,simprocAttr,hmn,tZ])))|((first|((with_reducible apply wL);exact rfl)|((with_reducible apply wM);exact rfl));all_goals (try ((with_reducible intro h);first|(exact absurd h (by decide))|(try simp only [go_sem,simprocAttr,hmn,tZ] at h))))|omega|((first|fail);try simp only [go_sem,simprocAttr,hmn,tZ])|(intro h))
 refine ak (fun j:Nat=>j≤fs.length) (fun j=>⟨[(0, .ptr 10000 0),(1,eN x),(2, .d (sI o)),(3,eN a),(4,eN b),(24, .d (sI fs)),(25,eN fs.length),(26,eN j)], [(10000, .box [.d (sI W), .d (sI G), .ref 10001, .ref 10002, .ref 10003, .ref 10004]),(10001, .own 3 1 (A.map rI)),(10002, .own 3 1 (B.map rI)),(10003, .tip 3 1 (lo.map rI)),(10004, .own 3 1 ((dN hi fs x j).map rI))]⟩) (fun j=>fs.length - j) 0 (by omega) ?_ ?_
 ·refine Le.of ?_ ?_<;>simp [go_sem,simprocAttr,dN,dz]
 rintro j hj
 rcases Nat.lt_or_ge j fs.length with hjl|I9
 ·have hb:decide ((j:Int)<(fs.length:Int))=true:=decide_eq_true (by omega)
  have hin:=hf _ (aK (d:=0) hjl)
  have sg:=jR (A:=hi) (fs:=fs) (x:=x) (j:=j)
  have El:dN hi fs x (j+1)=(dN hi fs x j).set (fs.getD j 0).toNat x:=rfl
  generalize r9:fs.getD j 0=v at hin El
  obtain ⟨i,rfl⟩:∃i:Nat,v=i:=⟨v.toNat,by omega⟩
  rw [Int.toNat_natCast] at El
  generalize dN hi fs x j=H1 at sg El
  repeat' (first|fail|((first|((with_reducible (first|apply oA|apply oB));exact rfl;intro K hK)|(refine hK _ ?_;clear hK K)|((with_reducible (first|apply oG|apply oH));iterate 3 exact rfl)|((with_reducible apply oI);(iterate 2 exact rfl);intro K hK)|(with_reducible (first|apply wI|apply wJ|apply wK)));try simp only [go_sem,simprocAttr,hb,r9,sg])|fail|(with_reducible (first|apply oC|apply oJ|exact oK|apply wA|apply wB|apply wC hX hC|apply wD hX hC|apply wE hX hC af|apply wF hX hC af|apply wG|apply wH|apply And.intro))|((with_reducible refine oD ?_ ?_);first|fail|kernel_rfl)|((with_reducible (first|apply oE|apply oF));(iterate 3 exact rfl);all_goals (intro h;first|(exact absurd h (by decide))|((try simp only [go_sem,simprocAttr,hb,r9,sg] at h);(try with_reducible intro K hK);simp only [go_sem,simprocAttr,hb,r9,sg])))|((first|((with_reducible apply wL);exact rfl)|((with_reducible apply wM);exact rfl));all_goals (try ((with_reducible intro h);first|(exact absurd h (by decide))|(try simp only [go_sem,simprocAttr,hb,r9,sg] at h))))|omega|((first|fail);try simp only [go_sem,simprocAttr,hb,r9,sg])|(intro h))
  refine ⟨j+1,by omega, ?_,by omega⟩
  rw [El]
  refine Le.of ?_ ?_<;>simp [go_sem,simprocAttr,hb,r9,sg,rI]
 have hb:decide ((j:Int)<(fs.length:Int))=false:=decide_eq_false (by omega)
 obtain rfl:j=fs.length:=by omega
 have qc:((a:Int)+1).toNat=a+1:=by omega
 by_cases hne:o= []
 ·have aj:decide ((o.length:Int)=0)=true:=decide_eq_true (by rw [hne];rfl)
  repeat' (first|fail|((first|((with_reducible (first|apply oA|apply oB));exact rfl;intro K hK)|(refine hK _ ?_;clear hK K)|((with_reducible (first|apply oG|apply oH));iterate 3 exact rfl)|((with_reducible apply oI);(iterate 2 exact rfl);intro K hK)|(with_reducible (first|apply wI|apply wJ|apply wK)));try simp only [go_sem,simprocAttr,hb,aj,if_pos hne,qc,sw,sx])|fail|(with_reducible (first|apply oC|apply oJ|exact oK|apply wA|apply wB|apply wC hX hC|apply wD hX hC|apply wE hX hC af|apply wF hX hC af|apply wG|apply wH|apply And.intro))|((with_reducible refine oD ?_ ?_);first|fail|kernel_rfl)|((with_reducible (first|apply oE|apply oF));(iterate 3 exact rfl);all_goals (intro h;first|(exact absurd h (by decide))|((try simp only [go_sem,simprocAttr,hb,aj,if_pos hne,qc,sw,sx] at h);(try with_reducible intro K hK);simp only [go_sem,simprocAttr,hb,aj,if_pos hne,qc,sw,sx])))|((first|((with_reducible apply wL);exact rfl)|((with_reducible apply wM);exact rfl));all_goals (try ((with_reducible intro h);first|(exact absurd h (by decide))|(try simp only [go_sem,simprocAttr,hb,aj,if_pos hne,qc,sw,sx] at h))))|omega|((first|first|(refine az hX hC hP [(10000,10000),(10001,10001),(10002,10002),(10003,10003),(10004,10004),(10005,300),(10006,301)] (CO) rfl rfl rfl ?_ ?_ ?_ ?_ ?_ ?_ ?_ ?_ ?_ ?_ ?_ ?_ ?_ ?_;(focus (simp only [go_sem,simprocAttr,hb,aj,if_pos hne,qc,sw,sx];done));(iterate 12 (focus (simp [go_sem,simprocAttr,hb,aj,if_pos hne,qc,sw,sx];done)));simp only [go_sem,simprocAttr,hb,aj,if_pos hne,qc,sw,sx,List.map_cons,List.map_nil])|(refine bM hX hC hP (Mb) rfl rfl rfl ?_ ?_ rfl ?_;iterate 2 (focus (simp only [go_sem,simprocAttr,hb,aj,if_pos hne,qc,sw,sx];done)))|(refine bM hX hC hP (M7 hne) rfl rfl rfl ?_ ?_ rfl ?_;iterate 2 (focus (simp only [go_sem,simprocAttr,hb,aj,if_pos hne,qc,sw,sx];done))));try simp only [go_sem,simprocAttr,hb,aj,if_pos hne,qc,sw,sx])|(intro h))
  all_goals (first|rfl|(simp only [go_sem,simprocAttr,hb,aj,if_pos hne,qc,sw,sx];done))
 ·have aj:decide ((o.length:Int)=0)=false:=decide_eq_false (by have:=List.length_pos_iff.2 hne;omega)
  repeat' (first|fail|((first|((with_reducible (first|apply oA|apply oB));exact rfl;intro K hK)|(refine hK _ ?_;clear hK K)|((with_reducible (first|apply oG|apply oH));iterate 3 exact rfl)|((with_reducible apply oI);(iterate 2 exact rfl);intro K hK)|(with_reducible (first|apply wI|apply wJ|apply wK)));try simp only [go_sem,simprocAttr,hb,aj,if_neg hne,qc,sw,sx])|fail|(with_reducible (first|apply oC|apply oJ|exact oK|apply wA|apply wB|apply wC hX hC|apply wD hX hC|apply wE hX hC af|apply wF hX hC af|apply wG|apply wH|apply And.intro))|((with_reducible refine oD ?_ ?_);first|fail|kernel_rfl)|((with_reducible (first|apply oE|apply oF));(iterate 3 exact rfl);all_goals (intro h;first|(exact absurd h (by decide))|((try simp only [go_sem,simprocAttr,hb,aj,if_neg hne,qc,sw,sx] at h);(try with_reducible intro K hK);simp only [go_sem,simprocAttr,hb,aj,if_neg hne,qc,sw,sx])))|((first|((with_reducible apply wL);exact rfl)|((with_reducible apply wM);exact rfl));all_goals (try ((with_reducible intro h);first|(exact absurd h (by decide))|(try simp only [go_sem,simprocAttr,hb,aj,if_neg hne,qc,sw,sx] at h))))|omega|((first|first|(refine az hX hC hP [(10000,10000),(10001,10001),(10002,10002),(10003,10003),(10004,10004),(10005,300),(10006,301)] (CO) rfl rfl rfl ?_ ?_ ?_ ?_ ?_ ?_ ?_ ?_ ?_ ?_ ?_ ?_ ?_ ?_;(focus (simp only [go_sem,simprocAttr,hb,aj,if_neg hne,qc,sw,sx];done));(iterate 12 (focus (simp [go_sem,simprocAttr,hb,aj,if_neg hne,qc,sw,sx];done)));simp only [go_sem,simprocAttr,hb,aj,if_neg hne,qc,sw,sx,List.map_cons,List.map_nil])|(refine bM hX hC hP (Mb) rfl rfl rfl ?_ ?_ rfl ?_;iterate 2 (focus (simp only [go_sem,simprocAttr,hb,aj,if_neg hne,qc,sw,sx];done)))|(refine bM hX hC hP (M7 hne) rfl rfl rfl ?_ ?_ rfl ?_;iterate 2 (focus (simp only [go_sem,simprocAttr,hb,aj,if_neg hne,qc,sw,sx];done))));try simp only [go_sem,simprocAttr,hb,aj,if_neg hne,qc,sw,sx])|(intro h))
  all_goals (first|rfl|(simp only [go_sem,simprocAttr,hb,aj,if_neg hne,qc,sw,sx];done))
end Go.Ab
end
