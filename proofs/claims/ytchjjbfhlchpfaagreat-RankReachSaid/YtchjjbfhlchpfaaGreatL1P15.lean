/- A part of the proof. -/
import Derived.Test.YtchjjbfhlchpfaaGreatL1P14
set_option linter.unusedSimpArgs false
set_option linter.unusedVariables false
section
namespace Go.Ab
open Go.Proofs
attribute [local congr] ACall.congr
set_option maxRecDepth 10000
set_option maxHeartbeats 8000000
def mJ (m:Nat) (fl:List Int):List Int:=(List.range m).map fun i:Nat=>if (i:Int)∈fl then (1:Int) else 0
theorem xh {m:Nat} {fl:List Int} :(mJ m fl).length=m:=by simp [mJ]
theorem AO {m:Nat} :mJ m []=List.replicate m 0:=by
 refine List.ext_getElem (by simp [mJ]) fun i h1 h2=> ?_
 simp [mJ]
theorem zo {m:Nat} {fl:List Int} {i:Nat} (h:i<m):(mJ m fl).getD i 0=if (i:Int)∈fl then 1 else 0:=by
 simp [mJ,List.getD_eq_getElem?_getD,List.getElem?_range h]
theorem CP {m:Nat} {fl:List Int} {i:Nat} (h:i<m):(mJ m fl).set i 1=mJ m (fl++ [(i:Int)]):=by
 refine List.ext_getElem (by simp [mJ]) fun j h1 h2=> ?_
 rw [List.getElem_set]
 simp only [mJ,List.getElem_map,List.getElem_range,List.mem_append,List.mem_singleton]
 by_cases e:i=j
 ·subst e;simp
 ·rw [if_neg e]
  have:¬(j:Int)=(i:Int):=by omega
  simp [this]
theorem CQ {outs:List (List Int)} {x k:Nat} (hx:x<outs.length):((outs.take x).flatten++(outs.getD x []).take k).Sublist outs.flatten:=by
 have e:outs=outs.take x++outs.getD x []::outs.drop (x+1):=by
  conv=>lhs;rw [← List.take_append_drop x outs]
  congr 1
  rw [List.drop_eq_getElem_cons hx,List.getD_eq_getElem?_getD,List.getElem?_eq_getElem hx]
  rfl
 conv=>rhs;rw [e]
 rw [List.flatten_append,List.flatten_cons]
 exact List.Sublist.append (List.Sublist.refl _) ((List.take_sublist _ _).trans (List.sublist_append_left _ _))
theorem yp {l:List Int} {k:Nat} (h:k<l.length):l.take (k+1)=l.take k++ [l.getD k 0]:=by
 rw [List.take_add_one,List.getD_eq_getElem?_getD,List.getElem?_eq_getElem h];rfl
theorem nM {g:Gr} {x i:Int} :i∈bw g x↔(0≤i∧i<g.es.length)∧(g.es.getD i.toNat (0,0)).1=x:=by
 constructor
 ·exact ir
 ·rintro ⟨⟨h1,h2⟩,h3⟩
  simp only [bw,aZ,List.mem_map,List.mem_filter,List.mem_range,decide_eq_true_eq]
  exact ⟨i.toNat,⟨by omega,h3⟩,by simp;omega⟩
theorem CR (g:Gr) (hl:g.es.length≤9223372036854775807) (p:Pl) (hp:rS p) (res:Bool) (hr:res=true↔(cA g).1=0∧bF g p):Spec Tryz.prog 110 (Args [eG g,ePl p]) [] (eB res) []:=by
 have ho:p.ord.length≤9223372036854775807:=by have:=hp.ord;omega
 have Gl:=hp.outs
 by_cases hc:(cA g).1=0
 rotate_left
 ·have hres:res=false:=by
   rw [← Bool.not_eq_true,hr]
   rintro ⟨h,_⟩
   exact hc h
  subst hres
  have ak:decide ((cA g).1=0)=false:=decide_eq_false hc
  (refine Spec.intro (C:=T.cfg [] []) (rs:= [.t 4]) (T.ai _ _) Tryz.func110 rfl rfl Tryz.ntmps110 Tryz.results110 (by simp [AObj.isNest]) (by simp [AObj.isNest]) (by kernel_rfl) ?_;intro X hX hP hC aH aI vals hA;refine ⟨_,by simp,hA, ?_⟩;have af:X.P.follows .mixedOrders=true:=(by rw [hP];exact T.mixed);clear aH aI)
  repeat' (first|((first|((with_reducible (first|apply oA|apply oB));exact rfl;intro K hK)|(refine hK _ ?_;clear hK K)|((with_reducible (first|apply oG|apply oH));iterate 3 exact rfl)|((with_reducible apply oI);(iterate 2 exact rfl);intro K hK)|(with_reducible (first|apply wI|apply wJ|apply wK)));try simp only [go_sem,simprocAttr,ak])|(with_reducible (first|apply oC|apply oJ|exact oK|apply wA|apply wB|apply wC hX hC|apply wD hX hC|apply wE hX hC af|apply wF hX hC af|apply wG|apply wH|apply And.intro))|((with_reducible refine oD ?_ ?_);kernel_rfl)|((with_reducible (first|apply oE|apply oF));(iterate 3 exact rfl);all_goals (intro h;first|(exact absurd h (by decide))|((try simp only [go_sem,simprocAttr,ak] at h);(try with_reducible intro K hK);simp only [go_sem,simprocAttr,ak])))|((first|((with_reducible apply wL);exact rfl)|((with_reducible apply wM);exact rfl));all_goals (try ((with_reducible intro h);first|(exact absurd h (by decide))|(try simp only [go_sem,simprocAttr,ak] at h))))|omega|((first|refine aa hX hC hP (aS g hl) rfl rfl rfl (by simp only [go_sem,simprocAttr,ak]) rfl ?_);try simp only [go_sem,simprocAttr,ak])|(intro h))
 have ak:decide ((cA g).1=0)=true:=decide_eq_true hc
 have hm:=az hc
 have hn:=aR hm
 have hr:res=true↔bF g p:=by rw [hr];exact ⟨fun h=>h.2,fun h=>⟨hc,h⟩⟩
 rw [← zm hm] at hr
 by_cases he:fO p.ord g.n=true∧p.outs.length=g.n.toNat
 rotate_left
 ·have hres:res=false:=by
   rw [← Bool.not_eq_true,hr]
   rintro ⟨h2,h3,_⟩
   exact he ⟨h2,h3⟩
  subst hres
  cases h2:fO p.ord g.n with
  |false=>
   (refine Spec.intro (C:=T.cfg [] []) (rs:= [.t 4]) (T.ai _ _) Tryz.func110 rfl rfl Tryz.ntmps110 Tryz.results110 (by simp [AObj.isNest]) (by simp [AObj.isNest]) (by kernel_rfl) ?_;intro X hX hP hC aH aI vals hA;refine ⟨_,by simp,hA, ?_⟩;have af:X.P.follows .mixedOrders=true:=(by rw [hP];exact T.mixed);clear aH aI)
   repeat' (first|((first|((with_reducible (first|apply oA|apply oB));exact rfl;intro K hK)|(refine hK _ ?_;clear hK K)|((with_reducible (first|apply oG|apply oH));iterate 3 exact rfl)|((with_reducible apply oI);(iterate 2 exact rfl);intro K hK)|(with_reducible (first|apply wI|apply wJ|apply wK)));try simp only [go_sem,simprocAttr,ak,h2])|(with_reducible (first|apply oC|apply oJ|exact oK|apply wA|apply wB|apply wC hX hC|apply wD hX hC|apply wE hX hC af|apply wF hX hC af|apply wG|apply wH|apply And.intro))|((with_reducible refine oD ?_ ?_);kernel_rfl)|((with_reducible (first|apply oE|apply oF));(iterate 3 exact rfl);all_goals (intro h;first|(exact absurd h (by decide))|((try simp only [go_sem,simprocAttr,ak,h2] at h);(try with_reducible intro K hK);simp only [go_sem,simprocAttr,ak,h2])))|((first|((with_reducible apply wL);exact rfl)|((with_reducible apply wM);exact rfl));all_goals (try ((with_reducible intro h);first|(exact absurd h (by decide))|(try simp only [go_sem,simprocAttr,ak,h2] at h))))|omega|((first|refine aa hX hC hP (aS g hl) rfl rfl rfl (by simp only [go_sem,simprocAttr,ak,h2]) rfl ?_|refine aa hX hC hP (cm p.ord g.n ho) rfl rfl rfl (by simp only [go_sem,simprocAttr,ak,h2]) rfl ?_);try simp only [go_sem,simprocAttr,ak,h2])|(intro h))
  |true=>
   have an:decide ((p.outs.length:Int)=g.n)=false:=decide_eq_false fun h3=>he ⟨h2,by omega⟩
   (refine Spec.intro (C:=T.cfg [] []) (rs:= [.t 4]) (T.ai _ _) Tryz.func110 rfl rfl Tryz.ntmps110 Tryz.results110 (by simp [AObj.isNest]) (by simp [AObj.isNest]) (by kernel_rfl) ?_;intro X hX hP hC aH aI vals hA;refine ⟨_,by simp,hA, ?_⟩;have af:X.P.follows .mixedOrders=true:=(by rw [hP];exact T.mixed);clear aH aI)
   repeat' (first|((first|((with_reducible (first|apply oA|apply oB));exact rfl;intro K hK)|(refine hK _ ?_;clear hK K)|((with_reducible (first|apply oG|apply oH));iterate 3 exact rfl)|((with_reducible apply oI);(iterate 2 exact rfl);intro K hK)|(with_reducible (first|apply wI|apply wJ|apply wK)));try simp only [go_sem,simprocAttr,ak,h2,an])|(with_reducible (first|apply oC|apply oJ|exact oK|apply wA|apply wB|apply wC hX hC|apply wD hX hC|apply wE hX hC af|apply wF hX hC af|apply wG|apply wH|apply And.intro))|((with_reducible refine oD ?_ ?_);kernel_rfl)|((with_reducible (first|apply oE|apply oF));(iterate 3 exact rfl);all_goals (intro h;first|(exact absurd h (by decide))|((try simp only [go_sem,simprocAttr,ak,h2,an] at h);(try with_reducible intro K hK);simp only [go_sem,simprocAttr,ak,h2,an])))|((first|((with_reducible apply wL);exact rfl)|((with_reducible apply wM);exact rfl));all_goals (try ((with_reducible intro h);first|(exact absurd h (by decide))|(try simp only [go_sem,simprocAttr,ak,h2,an] at h))))|omega|((first|refine aa hX hC hP (aS g hl) rfl rfl rfl (by simp only [go_sem,simprocAttr,ak,h2,an]) rfl ?_|refine aa hX hC hP (cm p.ord g.n ho) rfl rfl rfl (by simp only [go_sem,simprocAttr,ak,h2,an]) rfl ?_);try simp only [go_sem,simprocAttr,ak,h2,an])|(intro h))
 obtain ⟨mQ,vl⟩:=he
 have an:decide ((p.outs.length:Int)=g.n)=true:=decide_eq_true (by omega)
 (refine Spec.intro (C:=T.cfg [] []) (rs:= [.t 4]) (T.ai _ _) Tryz.func110 rfl rfl Tryz.ntmps110 Tryz.results110 (by simp [AObj.isNest]) (by simp [AObj.isNest]) (by kernel_rfl) ?_;intro X hX hP hC aH aI vals hA;refine ⟨_,by simp,hA, ?_⟩;have af:X.P.follows .mixedOrders=true:=(by rw [hP];exact T.mixed);clear aH aI)
 repeat' (first|((first|((with_reducible (first|apply oA|apply oB));exact rfl;intro K hK)|(refine hK _ ?_;clear hK K)|((with_reducible (first|apply oG|apply oH));iterate 3 exact rfl)|((with_reducible apply oI);(iterate 2 exact rfl);intro K hK)|(with_reducible (first|apply wI|apply wJ|apply wK)));try simp only [go_sem,simprocAttr,ak,mQ,an])|(with_reducible (first|apply oC|apply oJ|exact oK|apply wA|apply wB|apply wC hX hC|apply wD hX hC|apply wE hX hC af|apply wF hX hC af|apply wG|apply wH|apply And.intro))|((with_reducible refine oD ?_ ?_);kernel_rfl)|((with_reducible (first|apply oE|apply oF));(iterate 3 exact rfl);all_goals (intro h;first|(exact absurd h (by decide))|((try simp only [go_sem,simprocAttr,ak,mQ,an] at h);(try with_reducible intro K hK);simp only [go_sem,simprocAttr,ak,mQ,an])))|((first|((with_reducible apply wL);exact rfl)|((with_reducible apply wM);exact rfl));all_goals (try ((with_reducible intro h);first|(exact absurd h (by decide))|(try simp only [go_sem,simprocAttr,ak,mQ,an] at h))))|omega|((first|refine aa hX hC hP (aS g hl) rfl rfl rfl (by simp only [go_sem,simprocAttr,ak,mQ,an]) rfl ?_|refine aa hX hC hP (cm p.ord g.n ho) rfl rfl rfl (by simp only [go_sem,simprocAttr,ak,mQ,an]) rfl ?_);try simp only [go_sem,simprocAttr,ak,mQ,an])|(intro h))
 clear ak an
 have D9:List.replicate g.es.length [D.sc (.int .i64 0)]=(mJ g.es.length []).map rI:=by rw [AO,List.map_replicate];rfl
 rw [D9]
 clear D9
 refine aj (fun x:Nat=>x≤p.outs.length∧(p.outs.take x).flatten.Nodup∧∀y:Nat,y<x→∀i∈p.outs.getD y [],i∈bw g y) (fun x=>⟨[(2, .ptr 2 0),(3, .ptr 3 0),(5, .ref 32),(6,eN x)], [(32, .own 3 1 ((mJ g.es.length (p.outs.take x).flatten).map rI)),(3, .box [.d (sI p.ord), .d (.sl 1 (vI p.outs))]),(2, .box [eN g.n, .d (sE g.es)])]⟩) (fun x=>p.outs.length - x) 0 (by simp) ?_ ?_
 ·refine Le.of ?_ ?_<;>simp [go_sem,simprocAttr]
 rintro x ⟨hx,cg,sJ⟩
 rcases Nat.lt_or_ge x p.outs.length with hxl|Dk
 ·have hb:decide ((x:Int)<(p.outs.length:Int))=true:=decide_eq_true (by omega)
  have hv:=lF hxl
  have hle:=hp.each _ (bS (d:= []) hxl)
  have hpre:=fun k=>CQ (k:=k) hxl
  have hnext:(p.outs.take (x+1)).flatten=(p.outs.take x).flatten++p.outs.getD x []:=by
   rw [List.take_add_one,List.flatten_append,List.getD_eq_getElem?_getD,List.getElem?_eq_getElem hxl];simp
  have iW:∀i∈p.outs.getD x [],i∉bw g x→res=false:=fun i hi hn=>by
   rw [← Bool.not_eq_true,hr]
   rintro ⟨_,_,h3,_⟩
   exact hn (h3 x hxl i hi)
  have sq:∀k,¬((p.outs.take x).flatten++(p.outs.getD x []).take k).Nodup→res=false:=fun k hn=>by
   rw [← Bool.not_eq_true,hr]
   rintro ⟨_,_,_,h4,_⟩
   exact hn (List.Nodup.sublist (hpre k) h4)
  have Bd:(∀i∈p.outs.getD x [],i∈bw g x)→∀y:Nat,y<x+1→∀i∈p.outs.getD y [],i∈bw g y:=fun h y hy=>by
   by_cases e:y=x
   ·subst e;exact h
   ·exact sJ y (by omega)
  generalize p.outs.getD x []=l at hv hle hpre hnext iW sq Bd
  generalize (p.outs.take x).flatten=fl at cg hpre hnext sq
  clear hpre
  repeat' (first|((first|((with_reducible (first|apply oA|apply oB));exact rfl;intro K hK)|(refine hK _ ?_;clear hK K)|((with_reducible (first|apply oG|apply oH));iterate 3 exact rfl)|((with_reducible apply oI);(iterate 2 exact rfl);intro K hK)|(with_reducible (first|apply wI|apply wJ|apply wK)));try simp only [go_sem,simprocAttr,hb,hv])|(with_reducible (first|apply oC|apply oJ|exact oK|apply wA|apply wB|apply wC hX hC|apply wD hX hC|apply wE hX hC af|apply wF hX hC af|apply wG|apply wH|apply And.intro))|((with_reducible refine oD ?_ ?_);kernel_rfl)|((with_reducible (first|apply oE|apply oF));(iterate 3 exact rfl);all_goals (intro h;first|(exact absurd h (by decide))|((try simp only [go_sem,simprocAttr,hb,hv] at h);(try with_reducible intro K hK);simp only [go_sem,simprocAttr,hb,hv])))|((first|((with_reducible apply wL);exact rfl)|((with_reducible apply wM);exact rfl));all_goals (try ((with_reducible intro h);first|(exact absurd h (by decide))|(try simp only [go_sem,simprocAttr,hb,hv] at h))))|omega|((first|refine aa hX hC hP (aS g hl) rfl rfl rfl (by simp only [go_sem,simprocAttr,hb,hv]) rfl ?_|refine aa hX hC hP (cm p.ord g.n ho) rfl rfl rfl (by simp only [go_sem,simprocAttr,hb,hv]) rfl ?_);try simp only [go_sem,simprocAttr,hb,hv])|(intro h))
  clear hb
  refine aj (fun k:Nat=>k≤l.length∧(fl++l.take k).Nodup∧∀i∈l.take k,i∈bw g x) (fun k=>⟨[(2, .ptr 2 0),(3, .ptr 3 0),(5, .ref 32),(6,eN x),(7,eN k)], [(32, .own 3 1 ((mJ g.es.length (fl++l.take k)).map rI)),(3, .box [.d (sI p.ord), .d (.sl 1 (vI p.outs))]),(2, .box [eN g.n, .d (sE g.es)])]⟩) (fun k=>l.length - k) 0 (by simpa using cg) ?_ ?_
  ·refine Le.of ?_ ?_<;>simp [go_sem,simprocAttr]
  rintro k ⟨hk,zZ,Ge⟩
  rcases Nat.lt_or_ge k l.length with cn|Eu
  ·have dR:decide ((k:Int)<(l.length:Int))=true:=decide_eq_true (by omega)
   have vm:=yp cn
   have him:=bS (d:=0) cn
   have dI:=xh (m:=g.es.length) (fl:=fl++l.take k)
   generalize hi:l.getD k 0=i at vm him
   by_cases h0:i<0
   ·have hres:=iW i him (fun h=>by have:=(nM.1 h).1;omega)
    subst hres
    have ak:decide (i<0)=true:=decide_eq_true h0
    repeat' (first|((first|((with_reducible (first|apply oA|apply oB));exact rfl;intro K hK)|(refine hK _ ?_;clear hK K)|((with_reducible (first|apply oG|apply oH));iterate 3 exact rfl)|((with_reducible apply oI);(iterate 2 exact rfl);intro K hK)|(with_reducible (first|apply wI|apply wJ|apply wK)));try simp only [go_sem,simprocAttr,dR,hv,hi,ak])|(with_reducible (first|apply oC|apply oJ|exact oK|apply wA|apply wB|apply wC hX hC|apply wD hX hC|apply wE hX hC af|apply wF hX hC af|apply wG|apply wH|apply And.intro))|((with_reducible refine oD ?_ ?_);kernel_rfl)|((with_reducible (first|apply oE|apply oF));(iterate 3 exact rfl);all_goals (intro h;first|(exact absurd h (by decide))|((try simp only [go_sem,simprocAttr,dR,hv,hi,ak] at h);(try with_reducible intro K hK);simp only [go_sem,simprocAttr,dR,hv,hi,ak])))|((first|((with_reducible apply wL);exact rfl)|((with_reducible apply wM);exact rfl));all_goals (try ((with_reducible intro h);first|(exact absurd h (by decide))|(try simp only [go_sem,simprocAttr,dR,hv,hi,ak] at h))))|omega|((first|refine aa hX hC hP (aS g hl) rfl rfl rfl (by simp only [go_sem,simprocAttr,dR,hv,hi,ak]) rfl ?_|refine aa hX hC hP (cm p.ord g.n ho) rfl rfl rfl (by simp only [go_sem,simprocAttr,dR,hv,hi,ak]) rfl ?_);try simp only [go_sem,simprocAttr,dR,hv,hi,ak])|(intro h))
   have ak:decide (i<0)=false:=decide_eq_false h0
   by_cases h1:(g.es.length:Int)≤i
   ·have hres:=iW i him (fun h=>by have:=(nM.1 h).1;omega)
    subst hres
    have an:decide ((g.es.length:Int)≤i)=true:=decide_eq_true h1
    repeat' (first|((first|((with_reducible (first|apply oA|apply oB));exact rfl;intro K hK)|(refine hK _ ?_;clear hK K)|((with_reducible (first|apply oG|apply oH));iterate 3 exact rfl)|((with_reducible apply oI);(iterate 2 exact rfl);intro K hK)|(with_reducible (first|apply wI|apply wJ|apply wK)));try simp only [go_sem,simprocAttr,dR,hv,hi,ak,an,dI])|(with_reducible (first|apply oC|apply oJ|exact oK|apply wA|apply wB|apply wC hX hC|apply wD hX hC|apply wE hX hC af|apply wF hX hC af|apply wG|apply wH|apply And.intro))|((with_reducible refine oD ?_ ?_);kernel_rfl)|((with_reducible (first|apply oE|apply oF));(iterate 3 exact rfl);all_goals (intro h;first|(exact absurd h (by decide))|((try simp only [go_sem,simprocAttr,dR,hv,hi,ak,an,dI] at h);(try with_reducible intro K hK);simp only [go_sem,simprocAttr,dR,hv,hi,ak,an,dI])))|((first|((with_reducible apply wL);exact rfl)|((with_reducible apply wM);exact rfl));all_goals (try ((with_reducible intro h);first|(exact absurd h (by decide))|(try simp only [go_sem,simprocAttr,dR,hv,hi,ak,an,dI] at h))))|omega|((first|refine aa hX hC hP (aS g hl) rfl rfl rfl (by simp only [go_sem,simprocAttr,dR,hv,hi,ak,an,dI]) rfl ?_|refine aa hX hC hP (cm p.ord g.n ho) rfl rfl rfl (by simp only [go_sem,simprocAttr,dR,hv,hi,ak,an,dI]) rfl ?_);try simp only [go_sem,simprocAttr,dR,hv,hi,ak,an,dI])|(intro h))
   have an:decide ((g.es.length:Int)≤i)=false:=decide_eq_false h1
   obtain ⟨e,rfl⟩:∃e:Nat,i=e:=⟨i.toNat,by omega⟩
   have hel:e<g.es.length:=by omega
   by_cases h2:(g.es.getD e (0,0)).1=x
   rotate_left
   ·have hres:=iW _ him (fun h=>h2 (by have:=(nM.1 h).2;rwa [Int.toNat_natCast] at this))
    subst hres
    have bu:decide ((g.es.getD e (0,0)).1=(x:Int))=false:=decide_eq_false h2
    repeat' (first|((first|((with_reducible (first|apply oA|apply oB));exact rfl;intro K hK)|(refine hK _ ?_;clear hK K)|((with_reducible (first|apply oG|apply oH));iterate 3 exact rfl)|((with_reducible apply oI);(iterate 2 exact rfl);intro K hK)|(with_reducible (first|apply wI|apply wJ|apply wK)));try simp only [go_sem,simprocAttr,dR,hv,hi,ak,an,bu,dI])|(with_reducible (first|apply oC|apply oJ|exact oK|apply wA|apply wB|apply wC hX hC|apply wD hX hC|apply wE hX hC af|apply wF hX hC af|apply wG|apply wH|apply And.intro))|((with_reducible refine oD ?_ ?_);kernel_rfl)|((with_reducible (first|apply oE|apply oF));(iterate 3 exact rfl);all_goals (intro h;first|(exact absurd h (by decide))|((try simp only [go_sem,simprocAttr,dR,hv,hi,ak,an,bu,dI] at h);(try with_reducible intro K hK);simp only [go_sem,simprocAttr,dR,hv,hi,ak,an,bu,dI])))|((first|((with_reducible apply wL);exact rfl)|((with_reducible apply wM);exact rfl));all_goals (try ((with_reducible intro h);first|(exact absurd h (by decide))|(try simp only [go_sem,simprocAttr,dR,hv,hi,ak,an,bu,dI] at h))))|omega|((first|refine aa hX hC hP (aS g hl) rfl rfl rfl (by simp only [go_sem,simprocAttr,dR,hv,hi,ak,an,bu,dI]) rfl ?_|refine aa hX hC hP (cm p.ord g.n ho) rfl rfl rfl (by simp only [go_sem,simprocAttr,dR,hv,hi,ak,an,bu,dI]) rfl ?_);try simp only [go_sem,simprocAttr,dR,hv,hi,ak,an,bu,dI])|(intro h))
   have bu:decide ((g.es.getD e (0,0)).1=(x:Int))=true:=decide_eq_true h2
   have kW:=zo (fl:=fl++l.take k) hel
   by_cases h3:(e:Int)∈fl++l.take k
   ·have hres:=sq (k+1) (fun h=>by
     rw [vm, ← List.append_assoc,List.nodup_append] at h
     exact h.2.2 _ h3 _ (List.mem_singleton.2 rfl) rfl)
    subst hres
    rw [if_pos h3] at kW
    repeat' (first|((first|((with_reducible (first|apply oA|apply oB));exact rfl;intro K hK)|(refine hK _ ?_;clear hK K)|((with_reducible (first|apply oG|apply oH));iterate 3 exact rfl)|((with_reducible apply oI);(iterate 2 exact rfl);intro K hK)|(with_reducible (first|apply wI|apply wJ|apply wK)));try simp only [go_sem,simprocAttr,dR,hv,hi,ak,an,bu,dI,kW])|(with_reducible (first|apply oC|apply oJ|exact oK|apply wA|apply wB|apply wC hX hC|apply wD hX hC|apply wE hX hC af|apply wF hX hC af|apply wG|apply wH|apply And.intro))|((with_reducible refine oD ?_ ?_);kernel_rfl)|((with_reducible (first|apply oE|apply oF));(iterate 3 exact rfl);all_goals (intro h;first|(exact absurd h (by decide))|((try simp only [go_sem,simprocAttr,dR,hv,hi,ak,an,bu,dI,kW] at h);(try with_reducible intro K hK);simp only [go_sem,simprocAttr,dR,hv,hi,ak,an,bu,dI,kW])))|((first|((with_reducible apply wL);exact rfl)|((with_reducible apply wM);exact rfl));all_goals (try ((with_reducible intro h);first|(exact absurd h (by decide))|(try simp only [go_sem,simprocAttr,dR,hv,hi,ak,an,bu,dI,kW] at h))))|omega|((first|refine aa hX hC hP (aS g hl) rfl rfl rfl (by simp only [go_sem,simprocAttr,dR,hv,hi,ak,an,bu,dI,kW]) rfl ?_|refine aa hX hC hP (cm p.ord g.n ho) rfl rfl rfl (by simp only [go_sem,simprocAttr,dR,hv,hi,ak,an,bu,dI,kW]) rfl ?_);try simp only [go_sem,simprocAttr,dR,hv,hi,ak,an,bu,dI,kW])|(intro h))
   ·rw [if_neg h3] at kW
    have bY:=CP (fl:=fl++l.take k) hel
    rw [List.append_assoc, ← vm] at bY
    repeat' (first|((first|((with_reducible (first|apply oA|apply oB));exact rfl;intro K hK)|(refine hK _ ?_;clear hK K)|((with_reducible (first|apply oG|apply oH));iterate 3 exact rfl)|((with_reducible apply oI);(iterate 2 exact rfl);intro K hK)|(with_reducible (first|apply wI|apply wJ|apply wK)));try simp only [go_sem,simprocAttr,dR,hv,hi,ak,an,bu,dI,kW])|(with_reducible (first|apply oC|apply oJ|exact oK|apply wA|apply wB|apply wC hX hC|apply wD hX hC|apply wE hX hC af|apply wF hX hC af|apply wG|apply wH|apply And.intro))|((with_reducible refine oD ?_ ?_);kernel_rfl)|((with_reducible (first|apply oE|apply oF));(iterate 3 exact rfl);all_goals (intro h;first|(exact absurd h (by decide))|((try simp only [go_sem,simprocAttr,dR,hv,hi,ak,an,bu,dI,kW] at h);(try with_reducible intro K hK);simp only [go_sem,simprocAttr,dR,hv,hi,ak,an,bu,dI,kW])))|((first|((with_reducible apply wL);exact rfl)|((with_reducible apply wM);exact rfl));all_goals (try ((with_reducible intro h);first|(exact absurd h (by decide))|(try simp only [go_sem,simprocAttr,dR,hv,hi,ak,an,bu,dI,kW] at h))))|omega|((first|refine aa hX hC hP (aS g hl) rfl rfl rfl (by simp only [go_sem,simprocAttr,dR,hv,hi,ak,an,bu,dI,kW]) rfl ?_|refine aa hX hC hP (cm p.ord g.n ho) rfl rfl rfl (by simp only [go_sem,simprocAttr,dR,hv,hi,ak,an,bu,dI,kW]) rfl ?_);try simp only [go_sem,simprocAttr,dR,hv,hi,ak,an,bu,dI,kW])|(intro h))
    refine ⟨k+1,⟨by omega, ?_, ?_⟩, ?_,by omega⟩
    ·rw [vm, ← List.append_assoc,List.nodup_append]
     exact ⟨zZ,by simp,fun a ha b hb h=>h3 (by rw [List.mem_singleton] at hb;rw [← hb, ← h];exact ha)⟩
    ·intro j hj
     rw [vm,List.mem_append,List.mem_singleton] at hj
     rcases hj with hj|rfl
     ·exact Ge j hj
     ·exact nM.2 ⟨⟨by omega,by omega⟩,by rw [Int.toNat_natCast];exact h2⟩
    ·rw [← bY]
     refine Le.of ?_ ?_<;>simp [go_sem,simprocAttr,dR,hv,hi,ak,an,bu,dI,kW,rI]
  ·have dR:decide ((k:Int)<(l.length:Int))=false:=decide_eq_false (by omega)
   obtain rfl:k=l.length:=by omega
   rw [List.take_length] at zZ Ge
   repeat' (first|((first|((with_reducible (first|apply oA|apply oB));exact rfl;intro K hK)|(refine hK _ ?_;clear hK K)|((with_reducible (first|apply oG|apply oH));iterate 3 exact rfl)|((with_reducible apply oI);(iterate 2 exact rfl);intro K hK)|(with_reducible (first|apply wI|apply wJ|apply wK)));try simp only [go_sem,simprocAttr,dR,hv])|(with_reducible (first|apply oC|apply oJ|exact oK|apply wA|apply wB|apply wC hX hC|apply wD hX hC|apply wE hX hC af|apply wF hX hC af|apply wG|apply wH|apply And.intro))|((with_reducible refine oD ?_ ?_);kernel_rfl)|((with_reducible (first|apply oE|apply oF));(iterate 3 exact rfl);all_goals (intro h;first|(exact absurd h (by decide))|((try simp only [go_sem,simprocAttr,dR,hv] at h);(try with_reducible intro K hK);simp only [go_sem,simprocAttr,dR,hv])))|((first|((with_reducible apply wL);exact rfl)|((with_reducible apply wM);exact rfl));all_goals (try ((with_reducible intro h);first|(exact absurd h (by decide))|(try simp only [go_sem,simprocAttr,dR,hv] at h))))|omega|((first|refine aa hX hC hP (aS g hl) rfl rfl rfl (by simp only [go_sem,simprocAttr,dR,hv]) rfl ?_|refine aa hX hC hP (cm p.ord g.n ho) rfl rfl rfl (by simp only [go_sem,simprocAttr,dR,hv]) rfl ?_);try simp only [go_sem,simprocAttr,dR,hv])|(intro h))
   refine ⟨x+1,⟨by omega,by rw [hnext];exact zZ,Bd Ge⟩, ?_,by omega⟩
   rw [hnext]
   refine Le.of ?_ ?_<;>simp [go_sem,simprocAttr,dR,hv]
 have hb:decide ((x:Int)<(p.outs.length:Int))=false:=decide_eq_false (by omega)
 obtain rfl:x=p.outs.length:=by omega
 rw [List.take_length] at cg
 rw [List.take_length]
 have dI:=xh (m:=g.es.length) (fl:=p.outs.flatten)
 repeat' (first|((first|((with_reducible (first|apply oA|apply oB));exact rfl;intro K hK)|(refine hK _ ?_;clear hK K)|((with_reducible (first|apply oG|apply oH));iterate 3 exact rfl)|((with_reducible apply oI);(iterate 2 exact rfl);intro K hK)|(with_reducible (first|apply wI|apply wJ|apply wK)));try simp only [go_sem,simprocAttr,hb])|(with_reducible (first|apply oC|apply oJ|exact oK|apply wA|apply wB|apply wC hX hC|apply wD hX hC|apply wE hX hC af|apply wF hX hC af|apply wG|apply wH|apply And.intro))|((with_reducible refine oD ?_ ?_);kernel_rfl)|((with_reducible (first|apply oE|apply oF));(iterate 3 exact rfl);all_goals (intro h;first|(exact absurd h (by decide))|((try simp only [go_sem,simprocAttr,hb] at h);(try with_reducible intro K hK);simp only [go_sem,simprocAttr,hb])))|((first|((with_reducible apply wL);exact rfl)|((with_reducible apply wM);exact rfl));all_goals (try ((with_reducible intro h);first|(exact absurd h (by decide))|(try simp only [go_sem,simprocAttr,hb] at h))))|omega|((first|refine aa hX hC hP (aS g hl) rfl rfl rfl (by simp only [go_sem,simprocAttr,hb]) rfl ?_|refine aa hX hC hP (cm p.ord g.n ho) rfl rfl rfl (by simp only [go_sem,simprocAttr,hb]) rfl ?_);try simp only [go_sem,simprocAttr,hb])|(intro h))
 clear hb
 refine aj (fun k:Nat=>k≤g.es.length∧∀i:Nat,i<k→(i:Int)∈p.outs.flatten) (fun k=>⟨[(5, .ref 32),(9,eN k)], [(32, .own 3 1 ((mJ g.es.length p.outs.flatten).map rI))]⟩) (fun k=>g.es.length - k) 0 (by simp) ?_ ?_
 ·refine Le.of ?_ ?_<;>simp [go_sem,simprocAttr]
 rintro k ⟨hk,Ge⟩
 rcases Nat.lt_or_ge k g.es.length with cn|Eu
 ·have dR:decide ((k:Int)<(g.es.length:Int))=true:=decide_eq_true (by omega)
  have kW:=zo (fl:=p.outs.flatten) cn
  by_cases h3:(k:Int)∈p.outs.flatten
  ·rw [if_pos h3] at kW
   repeat' (first|((first|((with_reducible (first|apply oA|apply oB));exact rfl;intro K hK)|(refine hK _ ?_;clear hK K)|((with_reducible (first|apply oG|apply oH));iterate 3 exact rfl)|((with_reducible apply oI);(iterate 2 exact rfl);intro K hK)|(with_reducible (first|apply wI|apply wJ|apply wK)));try simp only [go_sem,simprocAttr,dR,dI,kW])|(with_reducible (first|apply oC|apply oJ|exact oK|apply wA|apply wB|apply wC hX hC|apply wD hX hC|apply wE hX hC af|apply wF hX hC af|apply wG|apply wH|apply And.intro))|((with_reducible refine oD ?_ ?_);kernel_rfl)|((with_reducible (first|apply oE|apply oF));(iterate 3 exact rfl);all_goals (intro h;first|(exact absurd h (by decide))|((try simp only [go_sem,simprocAttr,dR,dI,kW] at h);(try with_reducible intro K hK);simp only [go_sem,simprocAttr,dR,dI,kW])))|((first|((with_reducible apply wL);exact rfl)|((with_reducible apply wM);exact rfl));all_goals (try ((with_reducible intro h);first|(exact absurd h (by decide))|(try simp only [go_sem,simprocAttr,dR,dI,kW] at h))))|omega|((first|refine aa hX hC hP (aS g hl) rfl rfl rfl (by simp only [go_sem,simprocAttr,dR,dI,kW]) rfl ?_|refine aa hX hC hP (cm p.ord g.n ho) rfl rfl rfl (by simp only [go_sem,simprocAttr,dR,dI,kW]) rfl ?_);try simp only [go_sem,simprocAttr,dR,dI,kW])|(intro h))
   refine ⟨k+1,⟨by omega,fun i hi=> ?_⟩, ?_,by omega⟩
   ·by_cases e:i=k
    ·subst e;exact h3
    ·exact Ge i (by omega)
   ·(refine Le.of ?_ ?_<;>simp [go_sem,simprocAttr,dR,dI,kW])
  ·rw [if_neg h3] at kW
   have hres:res=false:=by
    rw [← Bool.not_eq_true,hr]
    rintro ⟨_,_,_,_,h5⟩
    exact h3 (h5 k cn)
   subst hres
   repeat' (first|((first|((with_reducible (first|apply oA|apply oB));exact rfl;intro K hK)|(refine hK _ ?_;clear hK K)|((with_reducible (first|apply oG|apply oH));iterate 3 exact rfl)|((with_reducible apply oI);(iterate 2 exact rfl);intro K hK)|(with_reducible (first|apply wI|apply wJ|apply wK)));try simp only [go_sem,simprocAttr,dR,dI,kW])|(with_reducible (first|apply oC|apply oJ|exact oK|apply wA|apply wB|apply wC hX hC|apply wD hX hC|apply wE hX hC af|apply wF hX hC af|apply wG|apply wH|apply And.intro))|((with_reducible refine oD ?_ ?_);kernel_rfl)|((with_reducible (first|apply oE|apply oF));(iterate 3 exact rfl);all_goals (intro h;first|(exact absurd h (by decide))|((try simp only [go_sem,simprocAttr,dR,dI,kW] at h);(try with_reducible intro K hK);simp only [go_sem,simprocAttr,dR,dI,kW])))|((first|((with_reducible apply wL);exact rfl)|((with_reducible apply wM);exact rfl));all_goals (try ((with_reducible intro h);first|(exact absurd h (by decide))|(try simp only [go_sem,simprocAttr,dR,dI,kW] at h))))|omega|((first|refine aa hX hC hP (aS g hl) rfl rfl rfl (by simp only [go_sem,simprocAttr,dR,dI,kW]) rfl ?_|refine aa hX hC hP (cm p.ord g.n ho) rfl rfl rfl (by simp only [go_sem,simprocAttr,dR,dI,kW]) rfl ?_);try simp only [go_sem,simprocAttr,dR,dI,kW])|(intro h))
 ·have dR:decide ((k:Int)<(g.es.length:Int))=false:=decide_eq_false (by omega)
  obtain rfl:k=g.es.length:=by omega
  have hres:res=true:=hr.2 ⟨mQ,vl,sJ,cg,Ge⟩
  subst hres
  repeat' (first|((first|((with_reducible (first|apply oA|apply oB));exact rfl;intro K hK)|(refine hK _ ?_;clear hK K)|((with_reducible (first|apply oG|apply oH));iterate 3 exact rfl)|((with_reducible apply oI);(iterate 2 exact rfl);intro K hK)|(with_reducible (first|apply wI|apply wJ|apply wK)));try simp only [go_sem,simprocAttr,dR,dI])|(with_reducible (first|apply oC|apply oJ|exact oK|apply wA|apply wB|apply wC hX hC|apply wD hX hC|apply wE hX hC af|apply wF hX hC af|apply wG|apply wH|apply And.intro))|((with_reducible refine oD ?_ ?_);kernel_rfl)|((with_reducible (first|apply oE|apply oF));(iterate 3 exact rfl);all_goals (intro h;first|(exact absurd h (by decide))|((try simp only [go_sem,simprocAttr,dR,dI] at h);(try with_reducible intro K hK);simp only [go_sem,simprocAttr,dR,dI])))|((first|((with_reducible apply wL);exact rfl)|((with_reducible apply wM);exact rfl));all_goals (try ((with_reducible intro h);first|(exact absurd h (by decide))|(try simp only [go_sem,simprocAttr,dR,dI] at h))))|omega|((first|refine aa hX hC hP (aS g hl) rfl rfl rfl (by simp only [go_sem,simprocAttr,dR,dI]) rfl ?_|refine aa hX hC hP (cm p.ord g.n ho) rfl rfl rfl (by simp only [go_sem,simprocAttr,dR,dI]) rfl ?_);try simp only [go_sem,simprocAttr,dR,dI])|(intro h))
end Go.Ab
end
section
namespace Go.Ab
open Go.Proofs
attribute [local congr] ACall.congr
set_option maxRecDepth 10000
set_option maxHeartbeats 8000000
def bU (b:Bool) (g:Gr) (p:Pl):(List (List It) × List It) × Int × Int:=
 if b=false then (([], []),(1,0)) else
 match iR g p g.n.toNat with
 |some i=>(([], []),(3,(i:Int)))
 |none=>((fI g p g.n.toNat,(fK g p g.n.toNat).row),(0,0))
theorem CS {n:Nat} :List.replicate n [D.sl 3 []]=vT (List.replicate n []):=by simp [vT,sT]
theorem CT {ls:List (List It)} {k:Nat} {l:List It} :(vT ls).set k [sT l]=vT (ls.set k l):=by simp [vT,List.map_set]
theorem tI {g:Gr} {p:Pl} {k:Nat} :fI g p (k+1)=(fI g p k).set (aK p k).toNat (kq g p k):=rfl
theorem xj (g:Gr) (hl:g.es.length≤9223372036854775807) (p:Pl) (hp:rS p) (b:Bool) (hr:b=true↔(cA g).1=0∧bF g p):
 Spec Tryz.prog 58 (Args [eG g,ePl p]) [] (.tup [.d (.sl 1 (vT (bU b g p).1.1)), .d (sT (bU b g p).1.2),eN (bU b g p).2.1,eN (bU b g p).2.2]) []:=by
 have hO:=CR g hl p hp b hr
 cases b with
 |false=>
  have hR:bU false g p=(([], []),(1,0)):=rfl
  rw [hR]
  (refine Spec.intro (C:=T.cfg [] []) (rs:= [.t 4, .t 5, .t 6, .t 7]) (T.ai _ _) Tryz.func58 rfl rfl Tryz.ntmps58 Tryz.results58 (by simp [AObj.isNest]) (by simp [AObj.isNest]) (by kernel_rfl) ?_;intro X hX hP hC aH aI vals hA;refine ⟨_,by simp,hA, ?_⟩;have af:X.P.follows .mixedOrders=true:=(by rw [hP];exact T.mixed);clear aH aI)
  repeat' (first|((first|((with_reducible (first|apply oA|apply oB));exact rfl;intro K hK)|(refine hK _ ?_;clear hK K)|((with_reducible (first|apply oG|apply oH));iterate 3 exact rfl)|((with_reducible apply oI);(iterate 2 exact rfl);intro K hK)|(with_reducible (first|apply wI|apply wJ|apply wK)));try simp only [go_sem,simprocAttr,vT,List.map_nil])|(with_reducible (first|apply oC|apply oJ|exact oK|apply wA|apply wB|apply wC hX hC|apply wD hX hC|apply wE hX hC af|apply wF hX hC af|apply wG|apply wH|apply And.intro))|((with_reducible refine oD ?_ ?_);kernel_rfl)|((with_reducible (first|apply oE|apply oF));(iterate 3 exact rfl);all_goals (intro h;first|(exact absurd h (by decide))|((try simp only [go_sem,simprocAttr,vT,List.map_nil] at h);(try with_reducible intro K hK);simp only [go_sem,simprocAttr,vT,List.map_nil])))|((first|((with_reducible apply wL);exact rfl)|((with_reducible apply wM);exact rfl));all_goals (try ((with_reducible intro h);first|(exact absurd h (by decide))|(try simp only [go_sem,simprocAttr,vT,List.map_nil] at h))))|omega|((first|refine aa hX hC hP (hO) rfl rfl rfl (by simp only [go_sem,simprocAttr,vT,List.map_nil]) rfl ?_);try simp only [go_sem,simprocAttr,vT,List.map_nil])|(intro h))
 |true=>
 obtain ⟨hc,AP⟩:=hr.1 rfl
 have hm:=az hc
 have hn:=aR hm
 have hle:=b9 AP
 have hR:bU true g p=match iR g p g.n.toNat with
  |some i=>(([], []),(3,(i:Int)))
  |none=>((fI g p g.n.toNat,(fK g p g.n.toNat).row),(0,0)):=rfl
 generalize bU true g p=R at hR
 (refine Spec.intro (C:=T.cfg [] []) (rs:= [.t 4, .t 5, .t 6, .t 7]) (T.ai _ _) Tryz.func58 rfl rfl Tryz.ntmps58 Tryz.results58 (by simp [AObj.isNest]) (by simp [AObj.isNest]) (by kernel_rfl) ?_;intro X hX hP hC aH aI vals hA;refine ⟨_,by simp,hA, ?_⟩;have af:X.P.follows .mixedOrders=true:=(by rw [hP];exact T.mixed);clear aH aI)
 repeat' (first|((first|((with_reducible (first|apply oA|apply oB));exact rfl;intro K hK)|(refine hK _ ?_;clear hK K)|((with_reducible (first|apply oG|apply oH));iterate 3 exact rfl)|((with_reducible apply oI);(iterate 2 exact rfl);intro K hK)|(with_reducible (first|apply wI|apply wJ|apply wK)));try simp only [go_sem,simprocAttr])|(show dH _ (.seq (.region 4 _ _) _) _ _;(refine nc 20 2 3 rfl rfl rfl ?_;simp only [LA.app,ASt.put,ASt.kill,putM,rml,List.set_cons_zero,List.set_cons_succ,go_sem,simprocAttr]);(refine nc 20 3 1 rfl rfl rfl ?_;simp only [LA.app,ASt.put,ASt.kill,putM,rml,List.set_cons_zero,List.set_cons_succ,go_sem,simprocAttr]))|(with_reducible (first|apply oC|apply oJ|exact oK|apply wA|apply wB|apply wC hX hC|apply wD hX hC|apply wE hX hC af|apply wF hX hC af|apply wG|apply wH|apply And.intro))|((with_reducible refine oD ?_ ?_);kernel_rfl)|((with_reducible (first|apply oE|apply oF));(iterate 3 exact rfl);all_goals (intro h;first|(exact absurd h (by decide))|((try simp only [go_sem,simprocAttr] at h);(try with_reducible intro K hK);simp only [go_sem,simprocAttr])))|((first|((with_reducible apply wL);exact rfl)|((with_reducible apply wM);exact rfl));all_goals (try ((with_reducible intro h);first|(exact absurd h (by decide))|(try simp only [go_sem,simprocAttr] at h))))|omega|((first|refine aa hX hC hP (hO) rfl rfl rfl (by simp only [go_sem,simprocAttr]) rfl ?_);try simp only [go_sem,simprocAttr])|(intro h))
 rw [CS]
 refine aj (fun k:Nat=>k≤g.n.toNat∧∀j,j<k→vo g p j=true) (fun k=>⟨[(2, .ptr 2 0),(3, .ptr 3 0),(8, .ptr 20 0),(9, .ref 23),(10,eN k)], [(23, .own 64 1 (vT (fI g p k))),(20, .box (eV g (fK g p k))),(3, .box [.d (sI p.ord), .d (.sl 1 (vI p.outs))]),(2, .box [eN g.n, .d (sE g.es)])]⟩) (fun k=>g.n.toNat - k) 0 (by simp) ?_ ?_
 ·refine Le.of ?_ ?_<;>simp [go_sem,simprocAttr,eV,fK,fI]
 rintro k ⟨hk,hok⟩
 obtain ⟨hi,_,hrl⟩:=dK hm AP hk hok
 have hel:=nI (g:=g) (p:=p) (k:=k)
 rcases Nat.lt_or_ge k g.n.toNat with hlt|hge
 ·have hb:decide ((k:Int)<(p.ord.length:Int))=true:=decide_eq_true (by omega)
  have FO:=bn AP hlt
  have c7:=tI (g:=g) (p:=p) (k:=k)
  have AQ:fK g p (k+1)=(au g (fK g p k) (aK p k) (cQ p (aK p k))).2:=rfl
  have sJ:kq g p k=(au g (fK g p k) (aK p k) (cQ p (aK p k))).1.1:=rfl
  have hpk:=w4 AP hlt
  have CU:=w5 (g:=g) (p:=p) (k:=k)
  have hsk:vo g p k=false→R=(([], []),(3,(k:Int))):=fun h=>by
   rw [hR,mH.2 ⟨hlt,h,hok⟩]
  have hmul:k*(g.es.length+1)≤64*129:=Nat.mul_le_mul (by omega) (by omega)
  have wP:=nH AP FO.1 FO.2
  have gF:p.ord.getD k 0=aK p k:=rfl
  have CV:(fK g p k).pl.length≤64:=by
   rcases EI hi.todJ with h|h
   ·omega
   ·rw [h];simp
  obtain ⟨x,hx⟩:∃x:Nat,aK p k=x:=⟨(aK p k).toNat,by omega⟩
  rw [hx] at gF AQ sJ hpk CU FO wP c7
  have hxl:x<p.outs.length:=by have:=AP.1;omega
  have hv:=lF hxl
  have hla:cQ p (x:Int)=p.outs.getD x []:=by unfold cQ;rw [Int.toNat_natCast]
  rw [hla] at AQ sJ hpk CU wP
  rw [Int.toNat_natCast] at c7
  have sK:=wX g (by omega) (fK g p k) (x:Int) (p.outs.getD x []) (by omega) (by omega) (by omega)
  have bY:=CT (ls:=fI g p k) (k:=x) (l:=kq g p k)
  generalize p.outs.getD x []=o at hv AQ sJ hpk CU sK
  rw [← c7] at bY
  generalize fK g p k=f at AQ sJ hpk CU sK hi hrl CV
  cases ve:vo g p k with
  |false=>
   rw [CU ve] at sK
   have AR:=hsk ve
   subst AR
   repeat' (first|((first|((with_reducible (first|apply oA|apply oB));exact rfl;intro K hK)|(refine hK _ ?_;clear hK K)|((with_reducible (first|apply oG|apply oH));iterate 3 exact rfl)|((with_reducible apply oI);(iterate 2 exact rfl);intro K hK)|(with_reducible (first|apply wI|apply wJ|apply wK)));try simp only [go_sem,simprocAttr,hb,gF,hv,eV,vT,List.map_nil])|(with_reducible (first|apply oC|apply oJ|exact oK|apply wA|apply wB|apply wC hX hC|apply wD hX hC|apply wE hX hC af|apply wF hX hC af|apply wG|apply wH|apply And.intro))|((with_reducible refine oD ?_ ?_);kernel_rfl)|((with_reducible (first|apply oE|apply oF));(iterate 3 exact rfl);all_goals (intro h;first|(exact absurd h (by decide))|((try simp only [go_sem,simprocAttr,hb,gF,hv,eV,vT,List.map_nil] at h);(try with_reducible intro K hK);simp only [go_sem,simprocAttr,hb,gF,hv,eV,vT,List.map_nil])))|((first|((with_reducible apply wL);exact rfl)|((with_reducible apply wM);exact rfl));all_goals (try ((with_reducible intro h);first|(exact absurd h (by decide))|(try simp only [go_sem,simprocAttr,hb,gF,hv,eV,vT,List.map_nil] at h))))|omega|((first|(refine aA hX hC hP [(10000,20)] (sK) rfl rfl rfl ?_ ?_ ?_ ?_ ?_ ?_ ?_ ?_ ?_ ?_ ?_ ?_ ?_ ?_;(focus (simp only [go_sem,simprocAttr,hb,gF,hv,eV,vT,List.map_nil];done));(iterate 12 (focus (simp [go_sem,simprocAttr,hb,gF,hv,eV,vT,List.map_nil];done)));simp only [go_sem,simprocAttr,hb,gF,hv,eV,vT,List.map_nil,List.map_cons,List.map_nil]));try simp only [go_sem,simprocAttr,hb,gF,hv,eV,vT,List.map_nil])|(intro h))
  |true=>
   rw [hpk ve] at sK
   have ec:(au g f (x:Int) o).1.2=0:=rfl
   rw [sJ] at bY
   generalize au g f (x:Int) o=su at AQ sJ sK ec bY
   have HO:x<(fI g p k).length:=by omega
   generalize Mh:fI g p k=E at bY HO hel
   have hvl:(vT E).length=E.length:=vT_length
   have tJ:=fun d=>pW HO d
   repeat' (first|((first|((with_reducible (first|apply oA|apply oB));exact rfl;intro K hK)|(refine hK _ ?_;clear hK K)|((with_reducible (first|apply oG|apply oH));iterate 3 exact rfl)|((with_reducible apply oI);(iterate 2 exact rfl);intro K hK)|(with_reducible (first|apply wI|apply wJ|apply wK)));try simp only [go_sem,simprocAttr,hb,gF,hv,eV,ec,bY,tJ,List.drop_succ_cons,List.drop_zero])|(with_reducible (first|apply oC|apply oJ|exact oK|apply wA|apply wB|apply wC hX hC|apply wD hX hC|apply wE hX hC af|apply wF hX hC af|apply wG|apply wH|apply And.intro))|((with_reducible refine oD ?_ ?_);kernel_rfl)|((with_reducible (first|apply oE|apply oF));(iterate 3 exact rfl);all_goals (intro h;first|(exact absurd h (by decide))|((try simp only [go_sem,simprocAttr,hb,gF,hv,eV,ec,bY,tJ,List.drop_succ_cons,List.drop_zero] at h);(try with_reducible intro K hK);simp only [go_sem,simprocAttr,hb,gF,hv,eV,ec,bY,tJ,List.drop_succ_cons,List.drop_zero])))|((first|((with_reducible apply wL);exact rfl)|((with_reducible apply wM);exact rfl));all_goals (try ((with_reducible intro h);first|(exact absurd h (by decide))|(try simp only [go_sem,simprocAttr,hb,gF,hv,eV,ec,bY,tJ,List.drop_succ_cons,List.drop_zero] at h))))|omega|((first|(refine aA hX hC hP [(10000,20)] (sK) rfl rfl rfl ?_ ?_ ?_ ?_ ?_ ?_ ?_ ?_ ?_ ?_ ?_ ?_ ?_ ?_;(focus (simp only [go_sem,simprocAttr,hb,gF,hv,eV,ec,bY,tJ,List.drop_succ_cons,List.drop_zero];done));(iterate 12 (focus (simp [go_sem,simprocAttr,hb,gF,hv,eV,ec,bY,tJ,List.drop_succ_cons,List.drop_zero];done)));simp only [go_sem,simprocAttr,hb,gF,hv,eV,ec,bY,tJ,List.drop_succ_cons,List.drop_zero,List.map_cons,List.map_nil]));try simp only [go_sem,simprocAttr,hb,gF,hv,eV,ec,bY,tJ,List.drop_succ_cons,List.drop_zero])|(intro h))
   refine ⟨k+1,⟨by omega,fun j hj=> ?_⟩, ?_,by omega⟩
   ·by_cases e:j=k
    ·subst e;exact ve
    ·exact hok j (by omega)
   ·rw [AQ]
    have CW:(vT E).set x [D.sl 3 (List.map rT su.1.1)]=vT (fI g p (k+1)):=bY
    refine Le.of ?_ ?_<;>simp [go_sem,simprocAttr,hb,gF,hv,eV,ec,bY,tJ,List.drop_succ_cons,List.drop_zero,CW]
 have hb:decide ((k:Int)<(p.ord.length:Int))=false:=decide_eq_false (by omega)
 obtain rfl:k=g.n.toNat:=by omega
 rw [gh.2 hok] at hR
 subst hR
 repeat' (first|((first|((with_reducible (first|apply oA|apply oB));exact rfl;intro K hK)|(refine hK _ ?_;clear hK K)|((with_reducible (first|apply oG|apply oH));iterate 3 exact rfl)|((with_reducible apply oI);(iterate 2 exact rfl);intro K hK)|(with_reducible (first|apply wI|apply wJ|apply wK)));try simp only [go_sem,simprocAttr,hb,eV])|(with_reducible (first|apply oC|apply oJ|exact oK|apply wA|apply wB|apply wC hX hC|apply wD hX hC|apply wE hX hC af|apply wF hX hC af|apply wG|apply wH|apply And.intro))|((with_reducible refine oD ?_ ?_);kernel_rfl)|((with_reducible (first|apply oE|apply oF));(iterate 3 exact rfl);all_goals (intro h;first|(exact absurd h (by decide))|((try simp only [go_sem,simprocAttr,hb,eV] at h);(try with_reducible intro K hK);simp only [go_sem,simprocAttr,hb,eV])))|((first|((with_reducible apply wL);exact rfl)|((with_reducible apply wM);exact rfl));all_goals (try ((with_reducible intro h);first|(exact absurd h (by decide))|(try simp only [go_sem,simprocAttr,hb,eV] at h))))|omega|(intro h))
end Go.Ab
end
section
namespace Go.Ab
open Go.Proofs
attribute [local congr] ACall.congr
set_option maxRecDepth 10000
set_option maxHeartbeats 8000000
theorem sM (g:Gr) (hl:g.es.length≤1000) (p:Pl) (hp:rS p) (b:Bool) (hr:b=true↔(cA g).1=0∧bF g p):
 Spec Tryz.prog 37 (Args [eG g,ePl p]) [] (.tup [.d (.sl 1 (vT (bU b g p).1.1)), .d (sT (bU b g p).1.2),eF ((bU b g p).2.1,(bU b g p).2.2, [])]) []:=by
 by_cases hc:(cA g).1=0
 rotate_left
 ·obtain rfl:b=false:=by
   rw [← Bool.not_eq_true,hr]
   exact fun h=>hc h.1
  have hR:bU false g p=(([], []),(1,0)):=rfl
  rw [hR]
  (refine Spec.intro (C:=T.cfg [] []) (rs:= [.t 4, .t 5, .c 6 66]) (T.ai _ _) Tryz.func37 rfl rfl Tryz.ntmps37 Tryz.results37 (by simp [AObj.isNest]) (by simp [AObj.isNest]) (by kernel_rfl) ?_;intro X hX hP hC aH aI vals hA;refine ⟨_,by simp,hA, ?_⟩;have af:X.P.follows .mixedOrders=true:=(by rw [hP];exact T.mixed);clear aH aI)
  repeat' (first|((first|((with_reducible (first|apply oA|apply oB));exact rfl;intro K hK)|(refine hK _ ?_;clear hK K)|((with_reducible (first|apply oG|apply oH));iterate 3 exact rfl)|((with_reducible apply oI);(iterate 2 exact rfl);intro K hK)|(with_reducible (first|apply wI|apply wJ|apply wK)));try simp only [go_sem,simprocAttr,vT,List.map_nil])|(with_reducible (first|apply oC|apply oJ|exact oK|apply wA|apply wB|apply wC hX hC|apply wD hX hC|apply wE hX hC af|apply wF hX hC af|apply wG|apply wH|apply And.intro))|((with_reducible refine oD ?_ ?_);kernel_rfl)|((with_reducible (first|apply oE|apply oF));(iterate 3 exact rfl);all_goals (intro h;first|(exact absurd h (by decide))|((try simp only [go_sem,simprocAttr,vT,List.map_nil] at h);(try with_reducible intro K hK);simp only [go_sem,simprocAttr,vT,List.map_nil])))|((first|((with_reducible apply wL);exact rfl)|((with_reducible apply wM);exact rfl));all_goals (try ((with_reducible intro h);first|(exact absurd h (by decide))|(try simp only [go_sem,simprocAttr,vT,List.map_nil] at h))))|omega|((first|refine aa hX hC hP (AD g hl hc) rfl rfl rfl (by simp only [go_sem,simprocAttr,vT,List.map_nil]) rfl ?_);try simp only [go_sem,simprocAttr,vT,List.map_nil])|(intro h))
 have hm:=az hc
 have hn:=aR hm
 have hr:b=true↔bF g p:=by rw [hr];exact ⟨fun h=>h.2,fun h=>⟨hc,h⟩⟩
 have hO:=CO g hm p hp b hr
 cases b with
 |false=>
  have hR:bU false g p=(([], []),(1,0)):=rfl
  rw [hR]
  (refine Spec.intro (C:=T.cfg [] []) (rs:= [.t 4, .t 5, .c 6 66]) (T.ai _ _) Tryz.func37 rfl rfl Tryz.ntmps37 Tryz.results37 (by simp [AObj.isNest]) (by simp [AObj.isNest]) (by kernel_rfl) ?_;intro X hX hP hC aH aI vals hA;refine ⟨_,by simp,hA, ?_⟩;have af:X.P.follows .mixedOrders=true:=(by rw [hP];exact T.mixed);clear aH aI)
  repeat' (first|((first|((with_reducible (first|apply oA|apply oB));exact rfl;intro K hK)|(refine hK _ ?_;clear hK K)|((with_reducible (first|apply oG|apply oH));iterate 3 exact rfl)|((with_reducible apply oI);(iterate 2 exact rfl);intro K hK)|(with_reducible (first|apply wI|apply wJ|apply wK)));try simp only [go_sem,simprocAttr,vT,List.map_nil])|(with_reducible (first|apply oC|apply oJ|exact oK|apply wA|apply wB|apply wC hX hC|apply wD hX hC|apply wE hX hC af|apply wF hX hC af|apply wG|apply wH|apply And.intro))|((with_reducible refine oD ?_ ?_);kernel_rfl)|((with_reducible (first|apply oE|apply oF));(iterate 3 exact rfl);all_goals (intro h;first|(exact absurd h (by decide))|((try simp only [go_sem,simprocAttr,vT,List.map_nil] at h);(try with_reducible intro K hK);simp only [go_sem,simprocAttr,vT,List.map_nil])))|((first|((with_reducible apply wL);exact rfl)|((with_reducible apply wM);exact rfl));all_goals (try ((with_reducible intro h);first|(exact absurd h (by decide))|(try simp only [go_sem,simprocAttr,vT,List.map_nil] at h))))|omega|((first|(refine mh hX hC hP [(10000,13)] (oq g hl hc hm) rfl rfl rfl ?_ ?_ ?_ ?_ ?_ ?_ ?_ ?_ ?_ ?_ ?_ ?_ ?_ ?_;(focus (simp only [go_sem,simprocAttr,vT,List.map_nil];done));(iterate 12 (focus (simp [go_sem,simprocAttr,vT,List.map_nil];done)));simp only [go_sem,simprocAttr,vT,List.map_nil,List.map_cons,List.map_nil])|refine aa hX hC hP (gS g hm) rfl rfl rfl (by simp only [go_sem,simprocAttr,vT,List.map_nil]) rfl ?_|refine aa hX hC hP (hO) rfl rfl rfl (by simp only [go_sem,simprocAttr,vT,List.map_nil]) rfl ?_);try simp only [go_sem,simprocAttr,vT,List.map_nil])|(intro h))
 |true=>
 have AP:=hr.1 rfl
 have hle:=b9 AP
 have hR:bU true g p=match iR g p g.n.toNat with
  |some i=>(([], []),(3,(i:Int)))
  |none=>((fI g p g.n.toNat,(fK g p g.n.toNat).row),(0,0)):=rfl
 generalize bU true g p=R at hR
 (refine Spec.intro (C:=T.cfg [] []) (rs:= [.t 4, .t 5, .c 6 66]) (T.ai _ _) Tryz.func37 rfl rfl Tryz.ntmps37 Tryz.results37 (by simp [AObj.isNest]) (by simp [AObj.isNest]) (by kernel_rfl) ?_;intro X hX hP hC aH aI vals hA;refine ⟨_,by simp,hA, ?_⟩;have af:X.P.follows .mixedOrders=true:=(by rw [hP];exact T.mixed);clear aH aI)
 repeat' (first|((first|((with_reducible (first|apply oA|apply oB));exact rfl;intro K hK)|(refine hK _ ?_;clear hK K)|((with_reducible (first|apply oG|apply oH));iterate 3 exact rfl)|((with_reducible apply oI);(iterate 2 exact rfl);intro K hK)|(with_reducible (first|apply wI|apply wJ|apply wK)));try simp only [go_sem,simprocAttr])|(show dH _ (.seq (.region 5 _ _) _) _ _;(refine nc 13 0 3 rfl rfl rfl ?_;simp only [LA.app,ASt.put,ASt.kill,putM,rml,List.set_cons_zero,List.set_cons_succ,go_sem,simprocAttr]);(refine v8 hX 13 2 100 (.tip 3 1 []) rfl rfl rfl (by simp only [go_sem,simprocAttr]) (by decide) (by simp [go_sem,simprocAttr]) ⟨3,1,by decide, .inr rfl⟩ ?_;simp only [LA.app,ASt.put,ASt.kill,subT,rmk,putM,rml,kl,AV.sub,AV.subs,AObj.sub,List.set_cons_zero,List.set_cons_succ,go_sem,simprocAttr]))|(with_reducible (first|apply oC|apply oJ|exact oK|apply wA|apply wB|apply wC hX hC|apply wD hX hC|apply wE hX hC af|apply wF hX hC af|apply wG|apply wH|apply And.intro))|((with_reducible refine oD ?_ ?_);kernel_rfl)|((with_reducible (first|apply oE|apply oF));(iterate 3 exact rfl);all_goals (intro h;first|(exact absurd h (by decide))|((try simp only [go_sem,simprocAttr] at h);(try with_reducible intro K hK);simp only [go_sem,simprocAttr])))|((first|((with_reducible apply wL);exact rfl)|((with_reducible apply wM);exact rfl));all_goals (try ((with_reducible intro h);first|(exact absurd h (by decide))|(try simp only [go_sem,simprocAttr] at h))))|omega|((first|(refine mh hX hC hP [(10000,13)] (oq g hl hc hm) rfl rfl rfl ?_ ?_ ?_ ?_ ?_ ?_ ?_ ?_ ?_ ?_ ?_ ?_ ?_ ?_;(focus (simp only [go_sem,simprocAttr];done));(iterate 12 (focus (simp [go_sem,simprocAttr];done)));simp only [go_sem,simprocAttr,List.map_cons,List.map_nil])|refine aa hX hC hP (gS g hm) rfl rfl rfl (by simp only [go_sem,simprocAttr]) rfl ?_|refine aa hX hC hP (hO) rfl rfl rfl (by simp only [go_sem,simprocAttr]) rfl ?_);try simp only [go_sem,simprocAttr])|(intro h))
 rw [CS]
 refine aj (fun k:Nat=>k≤g.n.toNat∧∀j,j<k→vo g p j=true) (fun k=>⟨[(3, .ptr 3 0),(4, .ref 28),(6, .ptr 6 0),(7, .ptr 13 0),(30, .d (sI p.ord)),(31,eN p.ord.length),(32,eN k)], [(28, .own 64 1 (vT (fI g p k))),(13, .box [.d (sT (fK g p k).row), .d (vw g), .ref 100]),(100, .tip 3 1 ((fK g p k).pl.map rI)),(6, .box [eN 0,eN 0, .nil 3]),(3, .box [.d (sI p.ord), .d (.sl 1 (vI p.outs))])]⟩) (fun k=>g.n.toNat - k) 0 (by simp) ?_ ?_
 ·refine Le.of ?_ ?_<;>simp [go_sem,simprocAttr,eV,fK,fI]
 rintro k ⟨hk,hok⟩
 obtain ⟨hi,_,hrl⟩:=dK hm AP hk hok
 have hel:=nI (g:=g) (p:=p) (k:=k)
 have hmul:k*(g.es.length+1)≤64*129:=Nat.mul_le_mul (by omega) (by omega)
 rcases Nat.lt_or_ge k g.n.toNat with hlt|hge
 ·have hb:decide ((k:Int)<(p.ord.length:Int))=true:=decide_eq_true (by omega)
  have FO:=bn AP hlt
  have c7:=tI (g:=g) (p:=p) (k:=k)
  have AQ:fK g p (k+1)=(au g (fK g p k) (aK p k) (cQ p (aK p k))).2:=rfl
  have sJ:kq g p k=(au g (fK g p k) (aK p k) (cQ p (aK p k))).1.1:=rfl
  have hpk:=w4 AP hlt
  have CU:=w5 (g:=g) (p:=p) (k:=k)
  have hsk:vo g p k=false→R=(([], []),(3,(k:Int))):=fun h=>by
   rw [hR,mH.2 ⟨hlt,h,hok⟩]
  have wP:=nH AP FO.1 FO.2
  have gF:p.ord.getD k 0=aK p k:=rfl
  have CV:(fK g p k).pl.length≤64:=by
   rcases EI hi.todJ with h|h
   ·omega
   ·rw [h];simp
  obtain ⟨x,hx⟩:∃x:Nat,aK p k=x:=⟨(aK p k).toNat,by omega⟩
  rw [hx] at gF AQ sJ hpk CU FO wP c7
  have hxl:x<p.outs.length:=by have:=AP.1;omega
  have hv:=lF hxl
  have hla:cQ p (x:Int)=p.outs.getD x []:=by unfold cQ;rw [Int.toNat_natCast]
  rw [hla] at AQ sJ hpk CU wP
  rw [Int.toNat_natCast] at c7
  have sK:=o9 g hm (fK g p k) hi (x:Int) (p.outs.getD x []) (by omega) (by omega) (by omega)
  have bY:=CT (ls:=fI g p k) (k:=x) (l:=kq g p k)
  generalize p.outs.getD x []=o at hv AQ sJ hpk CU sK
  rw [← c7] at bY
  generalize fK g p k=f at AQ sJ hpk CU sK hi hrl CV
  have HO:x<(fI g p k).length:=by omega
  have hvl:(vT (fI g p k)).length=(fI g p k).length:=vT_length
  cases ve:vo g p k with
  |false=>
   rw [CU ve] at sK
   simp only at sK
   have AR:=hsk ve
   subst AR
   repeat' (first|((first|((with_reducible (first|apply oA|apply oB));exact rfl;intro K hK)|(refine hK _ ?_;clear hK K)|((with_reducible (first|apply oG|apply oH));iterate 3 exact rfl)|((with_reducible apply oI);(iterate 2 exact rfl);intro K hK)|(with_reducible (first|apply wI|apply wJ|apply wK)));try simp only [go_sem,simprocAttr,hb,gF,hv,eH,jz,List.map_nil])|(with_reducible (first|apply oC|apply oJ|exact oK|apply wA|apply wB|apply wC hX hC|apply wD hX hC|apply wE hX hC af|apply wF hX hC af|apply wG|apply wH|apply And.intro))|((with_reducible refine oD ?_ ?_);kernel_rfl)|((with_reducible (first|apply oE|apply oF));(iterate 3 exact rfl);all_goals (intro h;first|(exact absurd h (by decide))|((try simp only [go_sem,simprocAttr,hb,gF,hv,eH,jz,List.map_nil] at h);(try with_reducible intro K hK);simp only [go_sem,simprocAttr,hb,gF,hv,eH,jz,List.map_nil])))|((first|((with_reducible apply wL);exact rfl)|((with_reducible apply wM);exact rfl));all_goals (try ((with_reducible intro h);first|(exact absurd h (by decide))|(try simp only [go_sem,simprocAttr,hb,gF,hv,eH,jz,List.map_nil] at h))))|omega|((first|(refine aA hX hC hP [(10000,13),(10001,100),(10002,101)] (sK) rfl rfl rfl ?_ ?_ ?_ ?_ ?_ ?_ ?_ ?_ ?_ ?_ ?_ ?_ ?_ ?_;(focus (simp only [go_sem,simprocAttr,hb,gF,hv,eH,jz,List.map_nil];done));(iterate 12 (focus (simp [go_sem,simprocAttr,hb,gF,hv,eH,jz,List.map_nil];done)));simp only [go_sem,simprocAttr,hb,gF,hv,eH,jz,List.map_nil,List.map_cons,List.map_nil]));try simp only [go_sem,simprocAttr,hb,gF,hv,eH,jz,List.map_nil])|(intro h))
   all_goals rfl
  |true=>
   rw [hpk ve] at sK
   have ec:(au g f (x:Int) o).1.2=0:=rfl
   rw [sJ] at bY
   generalize au g f (x:Int) o=su at AQ sJ sK ec bY
   generalize Mh:fI g p k=E at bY HO hel hvl
   have tJ:=fun d=>pW HO d
   repeat' (first|((first|((with_reducible (first|apply oA|apply oB));exact rfl;intro K hK)|(refine hK _ ?_;clear hK K)|((with_reducible (first|apply oG|apply oH));iterate 3 exact rfl)|((with_reducible apply oI);(iterate 2 exact rfl);intro K hK)|(with_reducible (first|apply wI|apply wJ|apply wK)));try simp only [go_sem,simprocAttr,hb,gF,hv,eH,jz,ec,bY,tJ,List.drop_succ_cons,List.drop_zero])|(show dH _ (.region 11 _ _) _ _;(refine y4 hX 13 2 101 100 rfl rfl rfl (by first|exact .inl rfl|exact .inr rfl) (by decide) (by decide) ?_;simp only [LA.app,ASt.put,ASt.kill,subT,rmk,putM,rml,kl,AV.sub,AV.subs,AObj.sub,List.set_cons_zero,List.set_cons_succ,go_sem,simprocAttr,hb,gF,hv,eH,jz,ec,bY,tJ,List.drop_succ_cons,List.drop_zero]))|(with_reducible (first|apply oC|apply oJ|exact oK|apply wA|apply wB|apply wC hX hC|apply wD hX hC|apply wE hX hC af|apply wF hX hC af|apply wG|apply wH|apply And.intro))|((with_reducible refine oD ?_ ?_);kernel_rfl)|((with_reducible (first|apply oE|apply oF));(iterate 3 exact rfl);all_goals (intro h;first|(exact absurd h (by decide))|((try simp only [go_sem,simprocAttr,hb,gF,hv,eH,jz,ec,bY,tJ,List.drop_succ_cons,List.drop_zero] at h);(try with_reducible intro K hK);simp only [go_sem,simprocAttr,hb,gF,hv,eH,jz,ec,bY,tJ,List.drop_succ_cons,List.drop_zero])))|((first|((with_reducible apply wL);exact rfl)|((with_reducible apply wM);exact rfl));all_goals (try ((with_reducible intro h);first|(exact absurd h (by decide))|(try simp only [go_sem,simprocAttr,hb,gF,hv,eH,jz,ec,bY,tJ,List.drop_succ_cons,List.drop_zero] at h))))|omega|((first|(refine aA hX hC hP [(10000,13),(10001,100),(10002,101)] (sK) rfl rfl rfl ?_ ?_ ?_ ?_ ?_ ?_ ?_ ?_ ?_ ?_ ?_ ?_ ?_ ?_;(focus (simp only [go_sem,simprocAttr,hb,gF,hv,eH,jz,ec,bY,tJ,List.drop_succ_cons,List.drop_zero];done));(iterate 12 (focus (simp [go_sem,simprocAttr,hb,gF,hv,eH,jz,ec,bY,tJ,List.drop_succ_cons,List.drop_zero];done)));simp only [go_sem,simprocAttr,hb,gF,hv,eH,jz,ec,bY,tJ,List.drop_succ_cons,List.drop_zero,List.map_cons,List.map_nil]));try simp only [go_sem,simprocAttr,hb,gF,hv,eH,jz,ec,bY,tJ,List.drop_succ_cons,List.drop_zero])|(intro h))
   refine ⟨k+1,⟨by omega,fun j hj=> ?_⟩, ?_,by omega⟩
   ·by_cases e:j=k
    ·subst e;exact ve
    ·exact hok j (by omega)
   ·rw [AQ]
    have CW:(vT E).set x [D.sl 3 (List.map rT su.1.1)]=vT (fI g p (k+1)):=bY
    refine Le.of ?_ ?_<;>simp [go_sem,simprocAttr,hb,gF,hv,eH,jz,ec,bY,tJ,List.drop_succ_cons,List.drop_zero,CW]
 have hb:decide ((k:Int)<(p.ord.length:Int))=false:=decide_eq_false (by omega)
 obtain rfl:k=g.n.toNat:=by omega
 rw [gh.2 hok] at hR
 subst hR
 repeat' (first|((first|((with_reducible (first|apply oA|apply oB));exact rfl;intro K hK)|(refine hK _ ?_;clear hK K)|((with_reducible (first|apply oG|apply oH));iterate 3 exact rfl)|((with_reducible apply oI);(iterate 2 exact rfl);intro K hK)|(with_reducible (first|apply wI|apply wJ|apply wK)));try simp only [go_sem,simprocAttr,hb])|(with_reducible (first|apply oC|apply oJ|exact oK|apply wA|apply wB|apply wC hX hC|apply wD hX hC|apply wE hX hC af|apply wF hX hC af|apply wG|apply wH|apply And.intro))|((with_reducible refine oD ?_ ?_);kernel_rfl)|((with_reducible (first|apply oE|apply oF));(iterate 3 exact rfl);all_goals (intro h;first|(exact absurd h (by decide))|((try simp only [go_sem,simprocAttr,hb] at h);(try with_reducible intro K hK);simp only [go_sem,simprocAttr,hb])))|((first|((with_reducible apply wL);exact rfl)|((with_reducible apply wM);exact rfl));all_goals (try ((with_reducible intro h);first|(exact absurd h (by decide))|(try simp only [go_sem,simprocAttr,hb] at h))))|omega|((first|(refine kJ hX hC hP 60 (AA [vw g,sI (fK g p g.n.toNat).pl] (fK g p g.n.toNat).row (by omega)) rfl rfl rfl ?_ ?_ (by first|exact ⟨_,_,_,rfl,tu⟩|exact ⟨_,_,_,rfl,tv⟩|exact ⟨_,_,_,rfl,tA⟩) rfl (by decide) ?_;(iterate 2 (focus (simp only [go_sem,simprocAttr,hb];done)));simp only [go_sem,simprocAttr,hb]));try simp only [go_sem,simprocAttr,hb])|(intro h))
end Go.Ab
end
section
namespace Go.Ab
open Go.Proofs
attribute [local congr] ACall.congr
set_option maxRecDepth 10000
set_option maxHeartbeats 8000000
def Nf (n:Int) (es:List Edge) (ord:List Int) (O:List (List Int)):List (Nat × AObj):= [(10000, .box [eN n, .ref 10001, .ref 10002, .ref 10003]),(10001, .tip 73 2 (es.map rE)),(10002, .tip 3 1 (ord.map rI)),(10003, .own 31 1 (vI O))]
def Ng (n:Int) (es:List Edge) (ord:List Int) (O:List (List Int)):List (Nat × AObj):= [(10000, .box [eN n, .ref 10004, .ref 10002, .ref 10003]),(10004, .tip 73 2 (es.map rE)),(10002, .tip 3 1 (ord.map rI)),(10003, .own 31 1 (vI O))]
def Mi (x:Int) (items:List It):List Edge:=(loose items).map fun v=>(v,x)
end Go.Ab
end
section
namespace Go.Ab
open Go.Proofs
attribute [local congr] ACall.congr
set_option maxRecDepth 10000
set_option maxHeartbeats 16000000
def pz:Pl:=⟨[], []⟩
def Mj (b:Bool) (g:Gr) (p:Pl):Gr × Pl × Int:=
 if (bU b g p).2.1≠0 then (gz,pz,1) else if 64<(CN g p).n∨128<(CN g p).es.length then (gz,pz,10) else (CN g p,JT g p,0)
theorem tK {b:Bool} {g:Gr} {p:Pl} (hr:b=true↔(cA g).1=0∧bF g p) (h:(bU b g p).2.1=0):bK g p∧bU b g p=((fI g p g.n.toNat,lX g p),(0,0)):=by
 cases b with
 |false=>simp [bU] at h
 |true=>
  have hR:bU true g p=match iR g p g.n.toNat with
   |some i=>(([], []),(3,(i:Int)))
   |none=>((fI g p g.n.toNat,(fK g p g.n.toNat).row),(0,0)):=rfl
  cases hs:iR g p g.n.toNat with
  |some i=>rw [hR,hs] at h;simp at h
  |none=>
   obtain ⟨h1,h2⟩:=hr.1 rfl
   exact ⟨⟨h1,h2,gh.1 hs⟩,by rw [hR,hs];rfl⟩
end Go.Ab
end
section
namespace Go.Ab
open Go.Proofs
attribute [local congr] ACall.congr
set_option maxRecDepth 10000
set_option maxHeartbeats 16000000
def Mk (p:Pl) (x:Gr) (k:Nat):List (List Int):=(List.range k).map fun v=>if 0<(p.outs.getD v []).length then p.outs.getD v [] else bw x (v:Int)
theorem yq {g:Gr} {p:Pl} (hr:bK g p):∀t∈lX g p,t.1<0:=by
 obtain ⟨hc,h,hok⟩:=hr
 have hm:=az hc
 have hn:=aR hm
 obtain ⟨hi,fA,_⟩:=dK hm h (k:=g.n.toNat) (Nat.le_refl _) hok
 intro t ht
 refine Decidable.byContradiction fun h0=> ?_
 rcases hi.it t ht with ⟨h1,_⟩|⟨h1,h2,_,h4⟩
 ·omega
 ·have KJ:=(ee hm (k:=t.1.toNat) (by omega)).2
  rw [← h4] at KJ
  refine hi.head t ht h1 (fZ hi.todJ ?_ KJ)
  rw [fA,List.length_take,b9 h];omega
end Go.Ab
end
section
namespace Go.Ab
open Go.Proofs
attribute [local congr] ACall.congr
set_option maxRecDepth 10000
set_option maxHeartbeats 8000000
def sN (g:Gr) (p:Pl):Bool:=decide (200<g.es.length)||decide (100<p.ord.length)||decide (100<p.outs.length)||p.outs.any fun l=>decide (200<l.length)
theorem zq {g:Gr} {p:Pl} (h:sN g p=false):g.es.length≤200∧p.ord.length≤100∧p.outs.length≤100∧∀l∈p.outs,l.length≤200:=by
 simp only [sN,Bool.or_eq_false_iff,decide_eq_false_iff_not,List.any_eq_false,decide_eq_true_eq] at h
 obtain ⟨⟨⟨h1,h2⟩,h3⟩,h4⟩:=h
 exact ⟨by omega,by omega,by omega,fun l hl=>by have:=h4 l hl;omega⟩
theorem xk {g:Gr} {p:Pl} (h:sN g p=false):rS p:=by
 obtain ⟨_,h1,h2,h3⟩:=zq h
 exact ⟨by omega,by omega,fun l hl=>by have:=h3 l hl;omega⟩
structure CX (p:Pl):Prop where
 ord:p.ord.length≤9223372036854775807
 outs:p.outs.length≤9223372036854775807
 each:∀l∈p.outs,l.length≤9223372036854775807
theorem vf (g:Gr) (p:Pl) (hl:g.es.length≤9223372036854775807) (hp:CX p):Spec Tryz.prog 22 (Args [eG g,ePl p]) [] (eB (sN g p)) []:=by
 have ho:=hp.ord
 have hu:=hp.outs
 (refine Spec.intro (C:=T.cfg [] []) (rs:= [.t 4]) (T.ai _ _) Tryz.func22 rfl rfl Tryz.ntmps22 Tryz.results22 (by simp [AObj.isNest]) (by simp [AObj.isNest]) (by kernel_rfl) ?_;intro X hX hP hC aH aI vals hA;refine ⟨_,by simp,hA, ?_⟩;have af:X.P.follows .mixedOrders=true:=(by rw [hP];exact T.mixed);clear aH aI)
 generalize hB:sN g p=B
 by_cases h1:200<g.es.length
 ·have ak:decide (200<(g.es.length:Int))=true:=decide_eq_true (by omega)
  have:B=true:=by rw [← hB,sN,decide_eq_true h1];rfl
  subst this
  repeat' (first|((first|((with_reducible (first|apply oA|apply oB));exact rfl;intro K hK)|(refine hK _ ?_;clear hK K)|((with_reducible (first|apply oG|apply oH));iterate 3 exact rfl)|((with_reducible apply oI);(iterate 2 exact rfl);intro K hK)|(with_reducible (first|apply wI|apply wJ|apply wK)));try simp only [go_sem,simprocAttr,ak])|(with_reducible (first|apply oC|apply oJ|exact oK|apply wA|apply wB|apply wC hX hC|apply wD hX hC|apply wE hX hC af|apply wF hX hC af|apply wG|apply wH|apply And.intro))|((with_reducible refine oD ?_ ?_);kernel_rfl)|((with_reducible (first|apply oE|apply oF));(iterate 3 exact rfl);all_goals (intro h;first|(exact absurd h (by decide))|((try simp only [go_sem,simprocAttr,ak] at h);(try with_reducible intro K hK);simp only [go_sem,simprocAttr,ak])))|((first|((with_reducible apply wL);exact rfl)|((with_reducible apply wM);exact rfl));all_goals (try ((with_reducible intro h);first|(exact absurd h (by decide))|(try simp only [go_sem,simprocAttr,ak] at h))))|omega|(intro h))
 have ak:decide (200<(g.es.length:Int))=false:=decide_eq_false (by omega)
 by_cases h2:100<p.ord.length
 ·have an:decide (100<(p.ord.length:Int))=true:=decide_eq_true (by omega)
  have:B=true:=by rw [← hB,sN,decide_eq_true h2];simp
  subst this
  repeat' (first|((first|((with_reducible (first|apply oA|apply oB));exact rfl;intro K hK)|(refine hK _ ?_;clear hK K)|((with_reducible (first|apply oG|apply oH));iterate 3 exact rfl)|((with_reducible apply oI);(iterate 2 exact rfl);intro K hK)|(with_reducible (first|apply wI|apply wJ|apply wK)));try simp only [go_sem,simprocAttr,ak,an])|(with_reducible (first|apply oC|apply oJ|exact oK|apply wA|apply wB|apply wC hX hC|apply wD hX hC|apply wE hX hC af|apply wF hX hC af|apply wG|apply wH|apply And.intro))|((with_reducible refine oD ?_ ?_);kernel_rfl)|((with_reducible (first|apply oE|apply oF));(iterate 3 exact rfl);all_goals (intro h;first|(exact absurd h (by decide))|((try simp only [go_sem,simprocAttr,ak,an] at h);(try with_reducible intro K hK);simp only [go_sem,simprocAttr,ak,an])))|((first|((with_reducible apply wL);exact rfl)|((with_reducible apply wM);exact rfl));all_goals (try ((with_reducible intro h);first|(exact absurd h (by decide))|(try simp only [go_sem,simprocAttr,ak,an] at h))))|omega|(intro h))
 have an:decide (100<(p.ord.length:Int))=false:=decide_eq_false (by omega)
 by_cases h3:100<p.outs.length
 ·have bu:decide (100<(p.outs.length:Int))=true:=decide_eq_true (by omega)
  have:B=true:=by rw [← hB,sN,decide_eq_true h3];simp
  subst this
  repeat' (first|((first|((with_reducible (first|apply oA|apply oB));exact rfl;intro K hK)|(refine hK _ ?_;clear hK K)|((with_reducible (first|apply oG|apply oH));iterate 3 exact rfl)|((with_reducible apply oI);(iterate 2 exact rfl);intro K hK)|(with_reducible (first|apply wI|apply wJ|apply wK)));try simp only [go_sem,simprocAttr,ak,an,bu])|(with_reducible (first|apply oC|apply oJ|exact oK|apply wA|apply wB|apply wC hX hC|apply wD hX hC|apply wE hX hC af|apply wF hX hC af|apply wG|apply wH|apply And.intro))|((with_reducible refine oD ?_ ?_);kernel_rfl)|((with_reducible (first|apply oE|apply oF));(iterate 3 exact rfl);all_goals (intro h;first|(exact absurd h (by decide))|((try simp only [go_sem,simprocAttr,ak,an,bu] at h);(try with_reducible intro K hK);simp only [go_sem,simprocAttr,ak,an,bu])))|((first|((with_reducible apply wL);exact rfl)|((with_reducible apply wM);exact rfl));all_goals (try ((with_reducible intro h);first|(exact absurd h (by decide))|(try simp only [go_sem,simprocAttr,ak,an,bu] at h))))|omega|(intro h))
 have bu:decide (100<(p.outs.length:Int))=false:=decide_eq_false (by omega)
 have sD:B=p.outs.any fun l=>decide (200<l.length):=by rw [← hB,sN,decide_eq_false h1,decide_eq_false h2,decide_eq_false h3];simp
 clear hB
 repeat' (first|((first|((with_reducible (first|apply oA|apply oB));exact rfl;intro K hK)|(refine hK _ ?_;clear hK K)|((with_reducible (first|apply oG|apply oH));iterate 3 exact rfl)|((with_reducible apply oI);(iterate 2 exact rfl);intro K hK)|(with_reducible (first|apply wI|apply wJ|apply wK)));try simp only [go_sem,simprocAttr,ak,an,bu])|(with_reducible (first|apply oC|apply oJ|exact oK|apply wA|apply wB|apply wC hX hC|apply wD hX hC|apply wE hX hC af|apply wF hX hC af|apply wG|apply wH|apply And.intro))|((with_reducible refine oD ?_ ?_);kernel_rfl)|((with_reducible (first|apply oE|apply oF));(iterate 3 exact rfl);all_goals (intro h;first|(exact absurd h (by decide))|((try simp only [go_sem,simprocAttr,ak,an,bu] at h);(try with_reducible intro K hK);simp only [go_sem,simprocAttr,ak,an,bu])))|((first|((with_reducible apply wL);exact rfl)|((with_reducible apply wM);exact rfl));all_goals (try ((with_reducible intro h);first|(exact absurd h (by decide))|(try simp only [go_sem,simprocAttr,ak,an,bu] at h))))|omega|(intro h))
 refine aj (fun k:Nat=>k≤p.outs.length∧∀j,j<k→(p.outs.getD j []).length≤200) (fun k=>⟨[(24, .d (.sl 1 (vI p.outs))),(25,eN p.outs.length),(26,eN k)], []⟩) (fun k=>p.outs.length - k) 0 (by simp) ?_ ?_
 ·(refine Le.of ?_ ?_<;>simp [go_sem,simprocAttr])
 rintro k ⟨hk,hg⟩
 rcases Nat.lt_or_ge k p.outs.length with cn|Eu
 ·have hb:decide ((k:Int)<(p.outs.length:Int))=true:=decide_eq_true (by omega)
  have hv:=lF cn
  have hm:=bS (d:= []) cn
  have wP:=hp.each _ hm
  by_cases h4:200<(p.outs.getD k []).length
  ·have hb4:decide (200<((p.outs.getD k []).length:Int))=true:=decide_eq_true (by omega)
   have:B=true:=by rw [sD,List.any_eq_true];exact ⟨_,hm,decide_eq_true h4⟩
   subst this
   repeat' (first|((first|((with_reducible (first|apply oA|apply oB));exact rfl;intro K hK)|(refine hK _ ?_;clear hK K)|((with_reducible (first|apply oG|apply oH));iterate 3 exact rfl)|((with_reducible apply oI);(iterate 2 exact rfl);intro K hK)|(with_reducible (first|apply wI|apply wJ|apply wK)));try simp only [go_sem,simprocAttr,hb,hv,hb4])|(with_reducible (first|apply oC|apply oJ|exact oK|apply wA|apply wB|apply wC hX hC|apply wD hX hC|apply wE hX hC af|apply wF hX hC af|apply wG|apply wH|apply And.intro))|((with_reducible refine oD ?_ ?_);kernel_rfl)|((with_reducible (first|apply oE|apply oF));(iterate 3 exact rfl);all_goals (intro h;first|(exact absurd h (by decide))|((try simp only [go_sem,simprocAttr,hb,hv,hb4] at h);(try with_reducible intro K hK);simp only [go_sem,simprocAttr,hb,hv,hb4])))|((first|((with_reducible apply wL);exact rfl)|((with_reducible apply wM);exact rfl));all_goals (try ((with_reducible intro h);first|(exact absurd h (by decide))|(try simp only [go_sem,simprocAttr,hb,hv,hb4] at h))))|omega|(intro h))
  ·have hb4:decide (200<((p.outs.getD k []).length:Int))=false:=decide_eq_false (by omega)
   repeat' (first|((first|((with_reducible (first|apply oA|apply oB));exact rfl;intro K hK)|(refine hK _ ?_;clear hK K)|((with_reducible (first|apply oG|apply oH));iterate 3 exact rfl)|((with_reducible apply oI);(iterate 2 exact rfl);intro K hK)|(with_reducible (first|apply wI|apply wJ|apply wK)));try simp only [go_sem,simprocAttr,hb,hv,hb4])|(with_reducible (first|apply oC|apply oJ|exact oK|apply wA|apply wB|apply wC hX hC|apply wD hX hC|apply wE hX hC af|apply wF hX hC af|apply wG|apply wH|apply And.intro))|((with_reducible refine oD ?_ ?_);kernel_rfl)|((with_reducible (first|apply oE|apply oF));(iterate 3 exact rfl);all_goals (intro h;first|(exact absurd h (by decide))|((try simp only [go_sem,simprocAttr,hb,hv,hb4] at h);(try with_reducible intro K hK);simp only [go_sem,simprocAttr,hb,hv,hb4])))|((first|((with_reducible apply wL);exact rfl)|((with_reducible apply wM);exact rfl));all_goals (try ((with_reducible intro h);first|(exact absurd h (by decide))|(try simp only [go_sem,simprocAttr,hb,hv,hb4] at h))))|omega|(intro h))
   refine ⟨k+1,⟨by omega,fun j hj=> ?_⟩, ?_,by omega⟩
   ·by_cases e:j=k
    ·subst e;omega
    ·exact hg j (by omega)
   ·(refine Le.of ?_ ?_<;>simp [go_sem,simprocAttr,hb,hv,hb4])
 ·have hb:decide ((k:Int)<(p.outs.length:Int))=false:=decide_eq_false (by omega)
  have:B=false:=by
   rw [sD,List.any_eq_false]
   intro l hl
   obtain ⟨j,hj,rfl⟩:=List.mem_iff_getElem.1 hl
   have:=hg j (by omega)
   rw [List.getD_eq_getElem?_getD,List.getElem?_eq_getElem hj,Option.getD_some] at this
   simp;omega
  subst this
  repeat' (first|((first|((with_reducible (first|apply oA|apply oB));exact rfl;intro K hK)|(refine hK _ ?_;clear hK K)|((with_reducible (first|apply oG|apply oH));iterate 3 exact rfl)|((with_reducible apply oI);(iterate 2 exact rfl);intro K hK)|(with_reducible (first|apply wI|apply wJ|apply wK)));try simp only [go_sem,simprocAttr,hb])|(with_reducible (first|apply oC|apply oJ|exact oK|apply wA|apply wB|apply wC hX hC|apply wD hX hC|apply wE hX hC af|apply wF hX hC af|apply wG|apply wH|apply And.intro))|((with_reducible refine oD ?_ ?_);kernel_rfl)|((with_reducible (first|apply oE|apply oF));(iterate 3 exact rfl);all_goals (intro h;first|(exact absurd h (by decide))|((try simp only [go_sem,simprocAttr,hb] at h);(try with_reducible intro K hK);simp only [go_sem,simprocAttr,hb])))|((first|((with_reducible apply wL);exact rfl)|((with_reducible apply wM);exact rfl));all_goals (try ((with_reducible intro h);first|(exact absurd h (by decide))|(try simp only [go_sem,simprocAttr,hb] at h))))|omega|(intro h))
def pe (g:Gr):Bool:=decide ((cA g).1=0)&&decide ((b7 (·.1) g).length=1)
theorem yu (g:Gr) (hl:g.es.length≤1000):Spec Tryz.prog 60 (Args [eG g]) [] (eB (pe g)) []:=by
 by_cases hc:(cA g).1=0
 ·have hm:=az hc
  have ak:decide ((cA g).1=0)=true:=decide_eq_true hc
  have hI:pe g=decide (((b7 (·.1) g).length:Int)=1):=by
   unfold pe;rw [ak,Bool.true_and,decide_eq_decide];omega
  rw [hI]
  generalize qg:b7 (·.1) g=bl
  have hS:=yb g hm
  rw [qg] at hS
  (refine Spec.intro (C:=T.cfg [] []) (rs:= [.t 2]) (T.ai _ _) Tryz.func60 rfl rfl Tryz.ntmps60 Tryz.results60 (by simp [AObj.isNest]) (by simp [AObj.isNest]) (by kernel_rfl) ?_;intro X hX hP hC aH aI vals hA;refine ⟨_,by simp,hA, ?_⟩;have af:X.P.follows .mixedOrders=true:=(by rw [hP];exact T.mixed);clear aH aI)
  repeat' (first|((first|((with_reducible (first|apply oA|apply oB));exact rfl;intro K hK)|(refine hK _ ?_;clear hK K)|((with_reducible (first|apply oG|apply oH));iterate 3 exact rfl)|((with_reducible apply oI);(iterate 2 exact rfl);intro K hK)|(with_reducible (first|apply wI|apply wJ|apply wK)));try simp only [go_sem,simprocAttr,ak])|(with_reducible (first|apply oC|apply oJ|exact oK|apply wA|apply wB|apply wC hX hC|apply wD hX hC|apply wE hX hC af|apply wF hX hC af|apply wG|apply wH|apply And.intro))|((with_reducible refine oD ?_ ?_);kernel_rfl)|((with_reducible (first|apply oE|apply oF));(iterate 3 exact rfl);all_goals (intro h;first|(exact absurd h (by decide))|((try simp only [go_sem,simprocAttr,ak] at h);(try with_reducible intro K hK);simp only [go_sem,simprocAttr,ak])))|((first|((with_reducible apply wL);exact rfl)|((with_reducible apply wM);exact rfl));all_goals (try ((with_reducible intro h);first|(exact absurd h (by decide))|(try simp only [go_sem,simprocAttr,ak] at h))))|omega|((first|refine aa hX hC hP (jY g hl) rfl rfl rfl (by simp only [go_sem,simprocAttr,ak]) rfl ?_|refine aa hX hC hP (gS g hm) rfl rfl rfl (by simp only [go_sem,simprocAttr,ak]) rfl ?_|refine aa hX hC hP (hS) rfl rfl rfl (by simp only [go_sem,simprocAttr,ak]) rfl ?_);try simp only [go_sem,simprocAttr,ak])|(intro h))
 ·have ak:decide ((cA g).1=0)=false:=decide_eq_false hc
  have hI:pe g=false:=by unfold pe;rw [ak];rfl
  rw [hI]
  (refine Spec.intro (C:=T.cfg [] []) (rs:= [.t 2]) (T.ai _ _) Tryz.func60 rfl rfl Tryz.ntmps60 Tryz.results60 (by simp [AObj.isNest]) (by simp [AObj.isNest]) (by kernel_rfl) ?_;intro X hX hP hC aH aI vals hA;refine ⟨_,by simp,hA, ?_⟩;have af:X.P.follows .mixedOrders=true:=(by rw [hP];exact T.mixed);clear aH aI)
  repeat' (first|((first|((with_reducible (first|apply oA|apply oB));exact rfl;intro K hK)|(refine hK _ ?_;clear hK K)|((with_reducible (first|apply oG|apply oH));iterate 3 exact rfl)|((with_reducible apply oI);(iterate 2 exact rfl);intro K hK)|(with_reducible (first|apply wI|apply wJ|apply wK)));try simp only [go_sem,simprocAttr,ak])|(with_reducible (first|apply oC|apply oJ|exact oK|apply wA|apply wB|apply wC hX hC|apply wD hX hC|apply wE hX hC af|apply wF hX hC af|apply wG|apply wH|apply And.intro))|((with_reducible refine oD ?_ ?_);kernel_rfl)|((with_reducible (first|apply oE|apply oF));(iterate 3 exact rfl);all_goals (intro h;first|(exact absurd h (by decide))|((try simp only [go_sem,simprocAttr,ak] at h);(try with_reducible intro K hK);simp only [go_sem,simprocAttr,ak])))|((first|((with_reducible apply wL);exact rfl)|((with_reducible apply wM);exact rfl));all_goals (try ((with_reducible intro h);first|(exact absurd h (by decide))|(try simp only [go_sem,simprocAttr,ak] at h))))|omega|((first|refine aa hX hC hP (jY g hl) rfl rfl rfl (by simp only [go_sem,simprocAttr,ak]) rfl ?_);try simp only [go_sem,simprocAttr,ak])|(intro h))
theorem yw (g:Gr) (hl:g.es.length≤1000):Spec Tryz.prog 23 (Args [eG g]) [] (eB (pe g)) []:=by
 by_cases hc:(cA g).1=0
 ·have hm:=az hc
  have hn:=aR hm
  have ak:decide ((cA g).1=0)=true:=decide_eq_true hc
  have hI:pe g=decide (((b7 (·.1) g).length:Int)=1):=by
   unfold pe;rw [ak,Bool.true_and,decide_eq_decide];omega
  rw [hI]
  have hS:=cw g false hl (by omega)
  rw [show jZ (!false)=(·.1) from rfl] at hS
  generalize b7 (·.1) g=bl at hS
  (refine Spec.intro (C:=T.cfg [] []) (rs:= [.t 2]) (T.ai _ _) Tryz.func23 rfl rfl Tryz.ntmps23 Tryz.results23 (by simp [AObj.isNest]) (by simp [AObj.isNest]) (by kernel_rfl) ?_;intro X hX hP hC aH aI vals hA;refine ⟨_,by simp,hA, ?_⟩;have af:X.P.follows .mixedOrders=true:=(by rw [hP];exact T.mixed);clear aH aI)
  repeat' (first|((first|((with_reducible (first|apply oA|apply oB));exact rfl;intro K hK)|(refine hK _ ?_;clear hK K)|((with_reducible (first|apply oG|apply oH));iterate 3 exact rfl)|((with_reducible apply oI);(iterate 2 exact rfl);intro K hK)|(with_reducible (first|apply wI|apply wJ|apply wK)));try simp only [go_sem,simprocAttr,ak])|(with_reducible (first|apply oC|apply oJ|exact oK|apply wA|apply wB|apply wC hX hC|apply wD hX hC|apply wE hX hC af|apply wF hX hC af|apply wG|apply wH|apply And.intro))|((with_reducible refine oD ?_ ?_);kernel_rfl)|((with_reducible (first|apply oE|apply oF));(iterate 3 exact rfl);all_goals (intro h;first|(exact absurd h (by decide))|((try simp only [go_sem,simprocAttr,ak] at h);(try with_reducible intro K hK);simp only [go_sem,simprocAttr,ak])))|((first|((with_reducible apply wL);exact rfl)|((with_reducible apply wM);exact rfl));all_goals (try ((with_reducible intro h);first|(exact absurd h (by decide))|(try simp only [go_sem,simprocAttr,ak] at h))))|omega|((first|refine aa hX hC hP (aS g (by omega)) rfl rfl rfl (by simp only [go_sem,simprocAttr,ak]) rfl ?_|refine aa hX hC hP (hS) rfl rfl rfl (by simp only [go_sem,simprocAttr,ak]) rfl ?_);try simp only [go_sem,simprocAttr,ak])|(intro h))
 ·have ak:decide ((cA g).1=0)=false:=decide_eq_false hc
  have hI:pe g=false:=by unfold pe;rw [ak];rfl
  rw [hI]
  (refine Spec.intro (C:=T.cfg [] []) (rs:= [.t 2]) (T.ai _ _) Tryz.func23 rfl rfl Tryz.ntmps23 Tryz.results23 (by simp [AObj.isNest]) (by simp [AObj.isNest]) (by kernel_rfl) ?_;intro X hX hP hC aH aI vals hA;refine ⟨_,by simp,hA, ?_⟩;have af:X.P.follows .mixedOrders=true:=(by rw [hP];exact T.mixed);clear aH aI)
  repeat' (first|((first|((with_reducible (first|apply oA|apply oB));exact rfl;intro K hK)|(refine hK _ ?_;clear hK K)|((with_reducible (first|apply oG|apply oH));iterate 3 exact rfl)|((with_reducible apply oI);(iterate 2 exact rfl);intro K hK)|(with_reducible (first|apply wI|apply wJ|apply wK)));try simp only [go_sem,simprocAttr,ak])|(with_reducible (first|apply oC|apply oJ|exact oK|apply wA|apply wB|apply wC hX hC|apply wD hX hC|apply wE hX hC af|apply wF hX hC af|apply wG|apply wH|apply And.intro))|((with_reducible refine oD ?_ ?_);kernel_rfl)|((with_reducible (first|apply oE|apply oF));(iterate 3 exact rfl);all_goals (intro h;first|(exact absurd h (by decide))|((try simp only [go_sem,simprocAttr,ak] at h);(try with_reducible intro K hK);simp only [go_sem,simprocAttr,ak])))|((first|((with_reducible apply wL);exact rfl)|((with_reducible apply wM);exact rfl));all_goals (try ((with_reducible intro h);first|(exact absurd h (by decide))|(try simp only [go_sem,simprocAttr,ak] at h))))|omega|((first|refine aa hX hC hP (aS g (by omega)) rfl rfl rfl (by simp only [go_sem,simprocAttr,ak]) rfl ?_);try simp only [go_sem,simprocAttr,ak])|(intro h))
end Go.Ab
end
section
namespace Go.Ab
open Go.Proofs
attribute [local congr] ACall.congr
set_option maxRecDepth 10000
set_option maxHeartbeats 8000000
def Nh:Gr:=⟨3, [(0,1),(0,2)]⟩
def Ni:Pl:=⟨[0,1,2], [[0,1], [], []]⟩
def Nj:Gr:=⟨4, [(0,1),(0,2),(1,3),(2,3)]⟩
def Nk:Pl:=⟨[0,1,2,3], [[0,1], [2], [3], []]⟩
end Go.Ab
end
section
namespace Go.Ab
open Go.Proofs
attribute [local congr] ACall.congr
set_option maxRecDepth 10000
def Nl (l:List Int) (k:Nat):Bool:=(List.range k).all fun i=>decide (l.getD i 0=(i:Int))
def Ea (g:Gr) (names order:List Int) (k:Nat):List Edge:=(List.range k).map fun i=>(names.getD (g.es.getD (order.getD i 0).toNat (0,0)).1.toNat 0,names.getD (g.es.getD (order.getD i 0).toNat (0,0)).2.toNat 0)
def gI (g:Gr) (names order:List Int):Gr:=⟨g.n,Ea g names order order.length⟩
theorem xl {g:Gr} {names order:List Int} {k:Nat} :(Ea g names order k).length=k:=by simp [Ea]
def HP (g:Gr) (names order:List Int):Bool:=aL g&&fO names g.n&&fO order g.es.length
def Ml (g:Gr) (names order:List Int):Gr:=if HP g names order then gI g names order else ⟨0, []⟩
end Go.Ab
end
section
namespace Go.Ab
def Ed (g:Gr) (a b:Int):Prop:=∃i,i<g.es.length∧tl g i=a∧hd g i=b
def Iw (g:Gr) (l:List Int):Prop:=∀i,i<l.length→Ed g (l.getD i 0) (l.getD ((i+1) % l.length) 0)
def CY (g:Gr) (way:List Int) (at_:Int):Prop:=∀p,p<way.length→Ed g ((way++ [at_]).getD (p+1) 0) (way.getD p 0)
theorem oz {l:List Int} {a:Int} :(l++ [a]).getD l.length 0=a:=by
 rw [List.getD_eq_getElem?_getD,List.getElem?_append_right (Nat.le_refl _)];simp
theorem rV {g:Gr} (hm:aL g=true):∀(f:Nat) (way:List Int) (a:Nat),a<g.n.toNat→(a:Int)∉aN g→CY g way a→left g way≤f→
 CY g (jX g (cB g (aN g)) f way a).1 (jX g (cB g (aN g)) f way a).2∧0≤(jX g (cB g (aN g)) f way a).2∧(jX g (cB g (aN g)) f way a).2∈(jX g (cB g (aN g)) f way a).1
 |f,way,a,ha,hn,hc,hl=>by
  by_cases hmem:(a:Int)∈way
  ·rw [ju (.inr hmem)]
   exact ⟨hc,by simp only;omega,hmem⟩
  ·have hla:=iB ha hmem
   cases f with
   |zero=>omega
   |succ f=>
    obtain ⟨⟨i,hi,JU,Bb,EH⟩,_⟩:=qX hm (FI hm ha hn)
    have htr:=cr hm hi
    rw [Bb] at htr
    obtain ⟨b,HG⟩:∃b:Nat,iQ g (cB g (aN g)) a=b:=⟨(iQ g (cB g (aN g)) a).toNat,by omega⟩
    rw [HG] at EH htr Bb
    have e1:jX g (cB g (aN g)) (f+1) way a=jX g (cB g (aN g)) f (way++ [(a:Int)]) b:=by
     simp only [jX];rw [if_neg (by intro h;rcases h with h|h;omega;exact hmem h),HG]
    rw [e1]
    refine rV hm f (way++ [(a:Int)]) b (by omega) EH ?_ (by omega)
    intro p hp
    rw [List.length_append,List.length_singleton] at hp
    by_cases fA:p<way.length
    ·have:=hc p fA
     rw [kU (by simp;omega),kU fA]
     exact this
    ·have:p=way.length:=by omega
     subst this
     have e2:=oz (l:=way++ [(a:Int)]) (a:=(b:Int))
     rw [List.length_append,List.length_singleton] at e2
     rw [e2,oz]
     exact ⟨i,hi,Bb,JU⟩
theorem oL {l:List Int} {k p:Nat} :(l.drop k).getD p 0=l.getD (k+p) 0:=by
 rw [List.getD_eq_getElem?_getD,List.getElem?_drop, ← List.getD_eq_getElem?_getD]
theorem Iw.JV {g:Gr} {l:List Int} (h:∀p,p<l.length→Ed g (l.getD ((p+1) % l.length) 0) (l.getD p 0)) (h0:0<l.length):Iw g (kj l.reverse):=by
 have Iv:0<l.reverse.length:=by simpa using h0
 obtain ⟨k,xA,hk2,_⟩:=dG (iC Iv)
 rw [List.length_reverse] at hk2
 have e1:kj l.reverse=l.reverse.drop k++l.reverse.take k:=by simp only [kj,xA,Int.toNat_natCast]
 have hlen:(kj l.reverse).length=l.length:=by rw [e1];simp;omega
 have hg:∀i,i<l.length→(kj l.reverse).getD i 0=l.getD (l.length - 1 - (i+k) % l.length) 0:=by
  intro i hi
  rw [e1,List.getD_eq_getElem?_getD]
  by_cases hik:i<l.length - k
  ·rw [List.getElem?_append_left (by simp;omega),List.getElem?_drop,List.getElem?_reverse (by omega),Nat.mod_eq_of_lt (by omega), ← List.getD_eq_getElem?_getD]
   congr 1;omega
  ·rw [List.getElem?_append_right (by simp;omega),List.length_drop,List.length_reverse,List.getElem?_take,if_pos (by omega),List.getElem?_reverse (by omega), ← List.getD_eq_getElem?_getD]
   have:(i+k) % l.length=i+k - l.length:=by rw [Nat.mod_eq_sub_mod (by omega),Nat.mod_eq_of_lt (by omega)]
   rw [this];congr 1;omega
 intro i hi
 rw [hlen] at hi ⊢
 rw [hg i hi,hg _ (Nat.mod_lt _ h0)]
 have hmm:((i+1) % l.length+k) % l.length=((i+k) % l.length+1) % l.length:=by
  rw [Nat.mod_add_mod,Nat.mod_add_mod];congr 1;omega
 rw [hmm]
 have hj:=Nat.mod_lt (i+k) h0
 generalize (i+k) % l.length=j at hj ⊢
 by_cases CZ:j+1<l.length
 ·rw [Nat.mod_eq_of_lt CZ]
  have:=h (l.length - 1 - (j+1)) (by omega)
  rw [Nat.mod_eq_of_lt (by omega),show l.length - 1 - (j+1)+1=l.length - 1 - j from by omega] at this
  exact this
 ·have:j+1=l.length:=by omega
  rw [this,Nat.mod_self]
  have:=h (l.length - 1) (by omega)
  rw [show l.length - 1+1=l.length from by omega,Nat.mod_self] at this
  rw [show l.length - 1 - j=0 from by omega]
  exact this
def JW (g:Gr):Prop:=∃r:Int→Nat,∀i,i<g.es.length→r (tl g i)<r (hd g i)
theorem zu {g:Gr} (hm:aL g=true):Bg g=true↔JW g:=by
 constructor
 ·intro h
  refine ⟨fun v=>((wS g.n.toNat (aN g) (aN g).length).getD v.toNat 0).toNat,fun i hi=> ?_⟩
  have h1:=CF (Ay hm h) hi
  have h2:=q9 (n:=g.n.toNat) (l:=aN g) (k:=(aN g).length) (y:=(tl g i).toNat)
  simp only;omega
 ·rintro ⟨r,hr⟩
  cases h:Bg g with
  |true=>rfl
  |false=>
   exfalso
   obtain ⟨y,hy,hn⟩:=zf hm h
   have key:∀(p:Nat) (y:Nat),y<g.n.toNat→(y:Int)∉aN g→r y=p→False:=by
    intro p
    induction p using Nat.strongRecOn with
    |_ p ih=>
     intro y hy hn hp
     obtain ⟨t,i,hi,h1,rfl,h2⟩:=FI hm hy hn
     have htr:=cr hm hi
     have hlt:=hr i hi
     rw [h1,hp] at hlt
     have e:((tl g i).toNat:Int)=tl g i:=by omega
     exact ih (r (tl g i)) hlt (tl g i).toNat (by omega) (by rw [e];exact h2) (by rw [e])
   exact key _ y hy hn rfl
theorem Eb {g:Gr} (hm:aL g=true) (h:Bg g=true):jt g= []:=by
 have hall:=(bR.1 (za hm h)).2
 have hn:=aR hm
 rcases start_eq hm with ⟨h1,h2⟩|⟨a,ha,h1,h2,h3⟩
 ·have:js g=([], -1):=by
   unfold js;rw [h1];exact ju (.inl (by omega)) _
  simp only [jt,this]
  rw [if_pos (by omega)]
 ·exact absurd (hall a (dm.2 (by omega))) h3
theorem C0 {g:Gr} (hm:aL g=true) (h:Bg g=false):0<(jt g).length∧Iw g (jt g):=by
 obtain ⟨y,hy,Mm⟩:=zf hm h
 have hn:=aR hm
 rcases start_eq hm with ⟨h1,h2⟩|⟨a,ha,h1,h2,h3⟩
 ·exfalso
  rcases eR (f:=fun n:Int=>decide (0<n)) (l:=cB g (aN g)) 0 with ⟨_,h4⟩|⟨k,h4,_⟩
  ·have h5:=(oo hm hy).2 Mm
   have h6:=h4 ((cB g (aN g)).getD y 0) (by rw [List.getD_eq_getElem?_getD,jV hy];exact List.mem_of_getElem? (jV hy))
   rw [kO hy] at h6
   exact absurd h5 (of_decide_eq_false h6)
  ·omega
 ·obtain ⟨h4,h5,h6⟩:=rV hm g.n.toNat [] a ha h3 (fun p hp=>by simp at hp) uT
  have hw:js g=jX g (cB g (aN g)) g.n.toNat [] a:=by unfold js;rw [h1]
  rw [← hw] at h4 h5 h6
  obtain ⟨k,xA,hk2,HE⟩:=dG h6
  have hc:jt g=kj ((js g).1.drop k).reverse:=by
   simp only [jt]
   rw [if_neg (by omega),xA,Int.toNat_natCast]
  have hlen:((js g).1.drop k).length=(js g).1.length - k:=by simp
  have h0:0<((js g).1.drop k).length:=by omega
  refine ⟨?_, ?_⟩
  ·rw [hc]
   simp only [kj,List.length_append,List.length_drop,List.length_take,List.length_reverse]
   omega
  ·rw [hc]
   refine Iw.JV (fun p hp=> ?_) h0
   rw [hlen] at hp ⊢
   have h7:=h4 (k+p) (by omega)
   rw [oL (p:=p)]
   by_cases CZ:p+1<(js g).1.length - k
   ·rw [Nat.mod_eq_of_lt CZ,oL]
    rw [kU (by omega)] at h7
    exact h7
   ·have:p+1=(js g).1.length - k:=by omega
    rw [this,Nat.mod_self,oL,Nat.add_zero,HE]
    rw [show k+p+1=(js g).1.length from by omega,oz] at h7
    exact h7
end Go.Ab
end
section
namespace Go.Ab
def nm (names:List Int) (v:Int):Int:=names.getD v.toNat 0
structure iS (g:Gr) (names order:List Int):Prop where
 may:aL g=true
 FP:fO names g.n=true
 ord:fO order (g.es.length:Int)=true
section
variable {g:Gr} {names order:List Int} (h:iS g names order)
include h
theorem iS.len:(gI g names order).es.length=g.es.length:=by
 have:=(bR.1 h.ord).1
 simp only [gI,xl];omega
theorem iS.iX {i:Nat} (hi:i<g.es.length):∃j,j<g.es.length∧order.getD i 0=(j:Int)∧(gI g names order).es.getD i (0,0)=(nm names (tl g j),nm names (hd g j)):=by
 have pO:=(bR.1 h.ord).1
 have:=q8 h.ord _ (gA (l:=order) (m:=i) (by omega))
 refine ⟨(order.getD i 0).toNat,by omega,by omega, ?_⟩
 simp only [gI,Ea,nm,tl,hd]
 rw [List.getD_eq_getElem?_getD,List.getElem?_map,List.getElem?_range (by omega)]
 rfl
theorem iS.back {j:Nat} (hj:j<g.es.length):∃i,i<g.es.length∧order.getD i 0=(j:Int)∧(gI g names order).es.getD i (0,0)=(nm names (tl g j),nm names (hd g j)):=by
 obtain ⟨pO,hall⟩:=bR.1 h.ord
 obtain ⟨i,hi,hil,he⟩:=dG (hall (j:Int) (dm.2 (by omega)))
 obtain ⟨j',_,h2,h3⟩:=h.iX (i:=i) (by omega)
 have:j'=j:=by omega
 subst this
 exact ⟨i,by omega,he,h3⟩
theorem iS.inj {a b:Int} (ha:0≤a∧a<g.n) (hb:0≤b∧b<g.n) (e:nm names a=nm names b):a=b:=by
 have hnl:=(bR.1 h.FP).1
 have:=j3 h.FP (i:=a.toNat) (j:=b.toNat) (by omega) (by omega) e
 omega
theorem iS.range {a:Int} (ha:0≤a∧a<g.n):0≤nm names a∧nm names a<g.n:=by
 have hnl:=(bR.1 h.FP).1
 exact q8 h.FP _ (gA (by omega))
theorem iS.inv {a:Int} (ha:0≤a∧a<g.n):eO names (nm names a)=a:=by
 have hnl:=(bR.1 h.FP).1
 obtain ⟨k,hk,cn,he⟩:=dG (gA (l:=names) (m:=a.toNat) (by omega))
 have h2:=j3 h.FP cn (j:=a.toNat) (by omega) he
 have h3:eO names (nm names a)=k:=hk
 omega
theorem iS.of {v:Int} (hv:0≤v∧v<g.n):∃a,(0≤a∧a<g.n)∧nm names a=v:=by
 obtain ⟨hnl,hall⟩:=bR.1 h.FP
 obtain ⟨k,hk,cn,he⟩:=dG (hall v (dm.2 (by omega)))
 exact ⟨k,by omega,he⟩
theorem iS.may':aL (gI g names order)=true:=by
 have hn:=aR h.may
 have hlen:=h.len
 have hall:(gI g names order).es.any (oh (gI g names order))=false:=by
  rw [List.any_eq_false]
  intro e he
  obtain ⟨i,hi,rfl⟩:=List.getElem_of_mem he
  obtain ⟨j,hj,_,h3⟩:=h.iX (i:=i) (by omega)
  rw [List.getD_eq_getElem?_getD,List.getElem?_eq_getElem hi,Option.getD_some] at h3
  rw [h3]
  have h4:=h.range (cr h.may hj)
  have h5:=h.range (cD h.may hj)
  have e1:(gI g names order).n=g.n:=rfl
  simp only [oh,uK,e1,Bool.or_eq_true,decide_eq_true_eq]
  omega
 have e1:(gI g names order).n=g.n:=rfl
 simp only [aL,hall,e1,Bool.not_false,Bool.and_true,Bool.and_eq_true,decide_eq_true_eq]
 omega
omit h in
theorem oM {i j:Nat} (e:(gI g names order).es.getD i (0,0)=(nm names (tl g j),nm names (hd g j))):tl (gI g names order) i=nm names (tl g j)∧hd (gI g names order) i=nm names (hd g j):=⟨congrArg Prod.fst e,congrArg Prod.snd e⟩
theorem iS.loop:(0≤jv (gI g names order))↔0≤jv g:=by
 have key:∀g:Gr,(0≤jv g)↔∃i,i<g.es.length∧tl g i=hd g i:=by
  intro g
  have:=ic (fun e:Edge=>decide (e.1=e.2)) g.es
  rw [show (0≤jv g)↔g.es.any (fun e:Edge=>decide (e.1=e.2))=true from by rw [← this];simp [jv],List.any_eq_true]
  constructor
  ·rintro ⟨e,he,h2⟩
   obtain ⟨i,hi,rfl⟩:=List.getElem_of_mem he
   refine ⟨i,hi, ?_⟩
   simpa [tl,hd,List.getD_eq_getElem?_getD,List.getElem?_eq_getElem hi] using h2
  ·rintro ⟨i,hi,h2⟩
   refine ⟨_,List.getElem_mem hi, ?_⟩
   simpa [tl,hd,List.getD_eq_getElem?_getD,List.getElem?_eq_getElem hi] using h2
 rw [key,key,h.len]
 constructor
 ·rintro ⟨i,hi,e⟩
  obtain ⟨j,hj,_,h3⟩:=h.iX hi
  obtain ⟨e1,e2⟩:=oM h3
  exact ⟨j,hj,h.inj (cr h.may hj) (cD h.may hj) (by rw [← e1, ← e2,e])⟩
 ·rintro ⟨j,hj,e⟩
  obtain ⟨i,hi,_,h3⟩:=h.back hj
  obtain ⟨e1,e2⟩:=oM h3
  exact ⟨i,hi,by rw [e1,e2,e]⟩
omit h in
theorem tL (g:Gr):(0≤eS g)↔∃i k,i<g.es.length∧k<g.es.length∧i≠k∧g.es.getD i (0,0)=g.es.getD k (0,0):=by
 have:=ic (mA g) (List.range g.es.length)
 rw [show (0≤eS g)↔(List.range g.es.length).any (mA g)=true from by rw [← this];simp [eS],List.any_eq_true]
 constructor
 ·rintro ⟨i,hi,h2⟩
  have hil:=List.mem_range.1 hi
  have h3:=of_decide_eq_true h2
  rw [List.mem_iff_getElem?] at h3
  obtain ⟨k,hk⟩:=h3
  rw [List.getElem?_take] at hk
  split at hk
  ·rename_i hki
   exact ⟨i,k,hil,by omega,by omega,by rw [List.getD_eq_getElem?_getD (i:=k),hk];rfl⟩
  ·cases hk
 ·rintro ⟨i,k,hi,hk,hne,e⟩
  have main:∀i k,k<i→i<g.es.length→g.es.getD i (0,0)=g.es.getD k (0,0)→mA g i=true:=by
   intro i k hki hi e
   refine decide_eq_true ?_
   rw [e,List.mem_iff_getElem?]
   refine ⟨k, ?_⟩
   rw [List.getElem?_take,if_pos hki,List.getD_eq_getElem?_getD,List.getElem?_eq_getElem (by omega)];rfl
  rcases Nat.lt_or_gt_of_ne hne with hlt|hgt
  ·exact ⟨k,List.mem_range.2 hk,main k i hlt hk e.symm⟩
  ·exact ⟨i,List.mem_range.2 hi,main i k hgt hi e⟩
theorem iS.HQ:(0≤eS (gI g names order))↔0≤eS g:=by
 have pO:=(bR.1 h.ord).1
 rw [tL,tL,h.len]
 constructor
 ·rintro ⟨i,k,hi,hk,hne,e⟩
  obtain ⟨j,hj,ho,h3⟩:=h.iX hi
  obtain ⟨j',hj',ho',DC⟩:=h.iX hk
  refine ⟨j,j',hj,hj',fun e'=> ?_, ?_⟩
  ·subst e'
   exact hne (j3 h.ord (by omega) (by omega) (by rw [ho,ho']))
  ·rw [h3,DC,Prod.mk.injEq] at e
   have e1:=h.inj (cr h.may hj) (cr h.may hj') e.1
   have e2:=h.inj (cD h.may hj) (cD h.may hj') e.2
   exact Prod.ext e1 e2
 ·rintro ⟨j,j',hj,hj',hne,e⟩
  obtain ⟨i,hi,ho,h3⟩:=h.back hj
  obtain ⟨k,hk,ho',DC⟩:=h.back hj'
  refine ⟨i,k,hi,hk,fun e'=> ?_, ?_⟩
  ·subst e';omega
  ·have e1:tl g j=tl g j':=congrArg Prod.fst e
   have e2:hd g j=hd g j':=congrArg Prod.snd e
   rw [h3,DC,e1,e2]
theorem iS.JX:Bg (gI g names order)=Bg g:=by
 rw [Bool.eq_iff_iff,zu h.may',zu h.may]
 constructor
 ·rintro ⟨r,hr⟩
  refine ⟨fun v=>r (nm names v),fun j hj=> ?_⟩
  obtain ⟨i,hi,_,h3⟩:=h.back hj
  obtain ⟨e1,e2⟩:=oM h3
  have:=hr i (by rw [h.len];exact hi)
  rwa [e1,e2] at this
 ·rintro ⟨r,hr⟩
  refine ⟨fun v=>r (eO names v),fun i hi=> ?_⟩
  rw [h.len] at hi
  obtain ⟨j,hj,_,h3⟩:=h.iX hi
  obtain ⟨e1,e2⟩:=oM h3
  have:=hr j hj
  rw [e1,e2];simp only;rw [h.inv (cr h.may hj),h.inv (cD h.may hj)]
  exact this
omit h in
theorem iH {g:Gr} {y:Int} :y∈b7 (·.2) g↔(0≤y∧y<g.n)∧∀i,i<g.es.length→hd g i≠y:=by
 simp only [b7,iA,List.mem_map,List.mem_filter,List.mem_range,decide_eq_true_eq]
 have he:∀x:Nat,x<g.n.toNat→(((cV (·.2) g).getD x []).length=0↔∀i,i<g.es.length→hd g i≠(x:Int)):=by
  intro x hx
  have e:(cV (·.2) g).getD x []=aZ (·.2) g.es g.es.length (x:Int):=by
   simp [cV,List.getD_eq_getElem?_getD,List.getElem?_range hx,kQ]
  rw [e,List.length_eq_zero_iff]
  simp only [aZ,List.map_eq_nil_iff,List.filter_eq_nil_iff,List.mem_range,decide_eq_true_eq]
  rfl
 constructor
 ·rintro ⟨x,⟨hx,h0⟩,rfl⟩
  refine ⟨by simp;omega,(he x hx).1 h0⟩
 ·rintro ⟨⟨h1,h2⟩,h3⟩
  have e:((y.toNat:Nat):Int)=y:=by omega
  exact ⟨y.toNat,⟨by omega,(he _ (by omega)).2 (by rw [e];exact h3)⟩,e⟩
omit h in
theorem rW {f:Edge→Int} {g:Gr} :(b7 f g).Nodup:=by
 unfold b7 iA
 refine List.Pairwise.map _ (fun a b h e=>h (Int.ofNat.inj e)) (List.Pairwise.filter _ List.nodup_range)
theorem iS.bare:(b7 (·.2) (gI g names order)).length=(b7 (·.2) g).length:=by
 have e1:(gI g names order).n=g.n:=rfl
 have h1:((b7 (·.2) g).map (nm names)).length≤(b7 (·.2) (gI g names order)).length:=by
  refine Nat.le_trans (count_le _ (b7 (·.2) (gI g names order)) ?_ ?_) List.countP_le_length
  ·rw [List.nodup_iff_pairwise_ne]
   refine List.Pairwise.map _ (fun a b h=>h) ?_
   refine List.Pairwise.imp_of_mem ?_ rW
   intro a b ha hb hab e
   exact hab (h.inj (iH.1 ha).1 (iH.1 hb).1 e)
  ·intro v hv
   obtain ⟨y,hy,rfl⟩:=List.mem_map.1 hv
   obtain ⟨hy1,hy2⟩:=iH.1 hy
   refine iH.2 ⟨h.range hy1,fun i hi e=> ?_⟩
   rw [h.len] at hi
   obtain ⟨j,hj,_,h3⟩:=h.iX hi
   rw [(oM h3).2] at e
   exact hy2 j hj (h.inj (cD h.may hj) hy1 e)
 have h2:((b7 (·.2) (gI g names order)).map (eO names)).length≤(b7 (·.2) g).length:=by
  have hsplit:∀v∈b7 (·.2) (gI g names order),∃a,(0≤a∧a<g.n)∧nm names a=v:=fun v hv=>h.of (iH.1 hv).1
  refine Nat.le_trans (count_le _ (b7 (·.2) g) ?_ ?_) List.countP_le_length
  ·rw [List.nodup_iff_pairwise_ne]
   refine List.Pairwise.map _ (fun a b h=>h) ?_
   refine List.Pairwise.imp_of_mem ?_ rW
   intro a b ha hb hab e
   obtain ⟨a',Ju,rfl⟩:=hsplit a ha
   obtain ⟨b',hb',rfl⟩:=hsplit b hb
   rw [h.inv Ju,h.inv hb'] at e
   exact hab (by rw [e])
  ·intro v hv
   obtain ⟨y,hy,rfl⟩:=List.mem_map.1 hv
   obtain ⟨a,ha,rfl⟩:=hsplit y hy
   rw [h.inv ha]
   refine iH.2 ⟨ha,fun j hj e=> ?_⟩
   obtain ⟨i,hi,_,h3⟩:=h.back hj
   refine (iH.1 hy).2 i (by rw [h.len];exact hi) ?_
   rw [(oM h3).2,e]
 simp only [List.length_map] at h1 h2
 omega
theorem iS.kind:(cA (gI g names order)).1=(cA g).1:=by
 have hm:=h.may'
 have hc:(0<(jt (gI g names order)).length)↔0<(jt g).length:=by
  have key:∀g:Gr,aL g=true→((0<(jt g).length)↔Bg g=false):=by
   intro g hm
   cases ho:Bg g with
   |true=>rw [Eb hm ho];simp
   |false=>simp [(C0 hm ho).1]
  rw [key _ hm,key _ h.may,h.JX]
 have h1:=h.loop
 have h2:=h.HQ
 have h3:=h.bare
 simp only [cA,gN,hm,h.may]
 simp only [Bool.true_eq_false,if_false,h1,h2,hc,h3]
 split
 ·rfl
 split
 ·rfl
 split
 ·rfl
 split<;>rfl
end
end Go.Ab
end
section
namespace Go.Ab
open Go.Proofs
set_option maxRecDepth 10000
def KK:Nat→List Edge→Int→Option (Int × Int)
 |_, [],_=>none
 |m,e::N,v=>if e.1=v then some ((m:Int),e.2) else KK (m+1) N v
def Nm (m:Nat) (N:List Edge) (t:It):It:=if 0≤t.1 then t else match KK m N t.2.1 with
 |some (i,h)=>(i,t.2.1,h)
 |none=>t
structure KL (g:Gr) (p:Pl):Prop where
 run:bK g p
 n:(CN g p).n≤64
 es:(CN g p).es.length≤128
variable {g:Gr} {p:Pl}
end Go.Ab
end
section
namespace Go.Ab
open Go.Proofs
set_option maxRecDepth 10000
variable {g:Gr} {p:Pl}
theorem zv {p:Pl} {k:Nat} {v:Int} (hk:k≤p.ord.length) (h:v∈p.ord.take k):∃j,j<k∧aK p j=v:=by
 obtain ⟨j,hj,e⟩:=List.mem_iff_getElem.1 h
 simp only [List.length_take] at hj
 refine ⟨j,by omega, ?_⟩
 rw [← e,aK,List.getD_eq_getElem?_getD,List.getElem?_eq_getElem (by omega)]
 simp
end Go.Ab
end
section
namespace Go.Ab
open Go.Proofs
set_option maxRecDepth 10000
variable {g:Gr} {p:Pl}
theorem tM (hr:bK g p):cQ p (aK p (g.n.toNat - 1))= []∧aK p (g.n.toNat - 1)∈loose (lX g p):=by
 have hm:=az hr.1
 have hn:=aR hm
 obtain ⟨k,hk⟩:∃k,g.n.toNat=k+1:=⟨g.n.toNat - 1,by omega⟩
 obtain ⟨hi,_,_⟩:=dK hm hr.2.1 (k:=k) (by omega) fun j hj=>hr.2.2 j (by omega)
 obtain ⟨A,X,C,hrw,_,_,_,hs⟩:=mF hm hi.todJ (hr.2.2 k (by omega))
 have hL:lX g p=A++aM g (aK p k) (cQ p (aK p k))++C:=by
  unfold lX;rw [hk]
  show (au _ _ _ _).2.row=_
  rw [hs]
 have xA:g.n.toNat - 1=k:=by omega
 rw [xA]
 have wP:=yq hr
 have hx:=bn hr.2.1 (k:=k) (by omega)
 have h0:cQ p (aK p k)= []:=by
  refine Decidable.byContradiction fun h0=> ?_
  have ha:aM g (aK p k) (cQ p (aK p k))=(cQ p (aK p k)).map (fq g (aK p k)):=if_neg h0
  obtain ⟨i,hi'⟩:=List.exists_mem_of_ne_nil _ h0
  have h1:=wP (fq g (aK p k) i) (by rw [hL,ha];simp;exact .inr (.inl ⟨i,hi',rfl⟩))
  obtain ⟨e,rfl,_⟩:=jC ((bD hr.2.1 hx.1 hx.2).mem_iff.1 hi')
  simp [fq] at h1
  omega
 refine ⟨h0, ?_⟩
 have ha:aM g (aK p k) (cQ p (aK p k))= [(-1,aK p k, -1)]:=if_pos h0
 rw [hL,ha,tH,tH]
 simp [loose]
theorem tN {f:Edge→Int} {g:Gr} {y:Int} :y∈b7 f g↔(0≤y∧y<g.n)∧aZ f g.es g.es.length y= []:=by
 simp only [b7,iA,List.mem_map,List.mem_filter,List.mem_range,decide_eq_true_eq]
 have he:∀x:Nat,x<g.n.toNat→(((cV f g).getD x []).length=0↔aZ f g.es g.es.length (x:Int)= []):=by
  intro x hx
  have e:(cV f g).getD x []=aZ f g.es g.es.length (x:Int):=by
   simp [cV,List.getD_eq_getElem?_getD,List.getElem?_range hx,kQ]
  rw [e,List.length_eq_zero_iff]
 constructor
 ·rintro ⟨x,⟨hx,h0⟩,rfl⟩
  exact ⟨by simp;omega,(he x hx).1 h0⟩
 ·rintro ⟨⟨h1,h2⟩,h3⟩
  have e:((y.toNat:Nat):Int)=y:=by omega
  exact ⟨y.toNat,⟨by omega,(he _ (by omega)).2 (by rw [e];exact h3)⟩,e⟩
end Go.Ab
end
section
namespace Go.Ab
open Go.Proofs
set_option maxRecDepth 10000
def fu (l:List It):List It:=l.filter fun t=>decide (0≤t.1)
theorem j9 {a b:List It} :fu (a++b)=fu a++fu b:=by simp [fu]
theorem gr {l:List It} {t:It} :t∈fu l↔t∈l∧0≤t.1:=by simp [fu]
theorem pX {x:Int} {l:List It} (h:eW x l):eW x (fu l):=fun t ht=>h t (gr.1 ht).1
def rX (x:Int) (l:List It):Prop:=∀t∈l,t.2.2=x
theorem jE {g:Gr} {x:Int} {o:List Int} (ho:∀i∈o,0≤i):fu (aM g x o)=o.map (fq g x):=by
 unfold aM
 split
 ·rename_i h;subst h;rfl
 ·refine List.filter_eq_self.2 fun t ht=> ?_
  obtain ⟨i,hi,rfl⟩:=List.mem_map.1 ht
  exact decide_eq_true (ho i hi)
theorem tO {x:Int} :∀ {X Y c d:List It},rX x X→rX x Y→eW x c→eW x d→X++c=Y++d→X=Y∧c=d
 | [], [],c,d,_,_,_,_,e=>⟨rfl,e⟩
 | [],u::Y,c,d,_,hY,hc,_,e=>by
   simp only [List.nil_append] at e
   exact absurd (hY u (by simp)) (hc u (by rw [e];simp))
 |t::X, [],c,d,hX,_,_,hd,e=>by
  simp only [List.nil_append] at e
  exact absurd (hX t (by simp)) (hd t (by rw [← e];simp))
 |t::X,u::Y,c,d,hX,hY,hc,hd,e=>by
  simp only [List.cons_append,List.cons.injEq] at e
  obtain ⟨e1,e2⟩:=tO (fun s hs=>hX s (by simp [hs])) (fun s hs=>hY s (by simp [hs])) hc hd e.2
  exact ⟨by rw [e.1,e1],e2⟩
theorem xm {x:Int} :∀ {a b X Y c d:List It},eW x a→eW x b→rX x X→rX x Y→eW x c→eW x d→X≠ []→Y≠ []→a++X++c=b++Y++d→a=b∧X=Y∧c=d
 |t::a, [],X,u::Y,c,d,ha,_,_,hY,_,_,_,_,e=>by
  simp only [List.cons_append,List.nil_append,List.cons.injEq] at e
  exact absurd (by rw [e.1];exact hY u (by simp)) (ha t (by simp))
 | [],t::b,u::X,Y,c,d,_,hb,hX,_,_,_,_,_,e=>by
   simp only [List.cons_append,List.nil_append,List.cons.injEq] at e
   exact absurd (by rw [← e.1];exact hX u (by simp)) (hb t (by simp))
 |t::a,u::b,X,Y,c,d,ha,hb,hX,hY,hc,hd,nX,nY,e=>by
  simp only [List.cons_append,List.cons.injEq] at e
  obtain ⟨e1,e2,e3⟩:=xm (fun s hs=>ha s (by simp [hs])) (fun s hs=>hb s (by simp [hs])) hX hY hc hd nX nY e.2
  exact ⟨by rw [e.1,e1],e2,e3⟩
 | [], [],X,Y,c,d,_,_,hX,hY,hc,hd,_,_,e=>by
   refine ⟨rfl, ?_⟩
   simp only [List.nil_append] at e
   exact tO hX hY hc hd e
 | [],_::_, [],_,_,_,_,_,_,_,_,_,h,_,_=>absurd rfl h
 |_::_, [],_, [],_,_,_,_,_,_,_,_,_,h,_=>absurd rfl h
theorem C1 {g:Gr} (hm:aL g=true) {f:Fr} (hi:dJ g f) {x:Int} (hR:aq g f x=true) (hn:bf g x≠0):
 ∃a X c,fu f.row=a++X++c∧eW x a∧eW x c∧rX x X∧X.length=bf g x∧∀o,fu (au g f x o).2.row=a++fu (aM g x o)++c:=by
 obtain ⟨A,X,C,hr,hA,hC,hX,cX⟩:=b8 hm hi hR hn
 have hx:=(aB hR).1
 have hmem:∀t∈X,t∈f.row:=fun t ht=>by rw [hr];simp [ht]
 have hiff:∀t∈X,(0≤t.1↔t.2.2=x):=fun t ht=>by
  have h1:=(hi.it t (hmem t ht)).head hm
  have h2:=hX.al t ht
  omega
 refine ⟨fu A,fu X,fu C,by rw [hr,j9,j9],pX hA,pX hC,fun t ht=> ?_, ?_,fun o=> ?_⟩
 ·obtain ⟨h1,h2⟩:=gr.1 ht
  exact (hiff t h1).1 h2
 ·rw [← cX,fu, ← List.countP_eq_length_filter]
  refine List.countP_congr fun t ht=> ?_
  simp only [kA,decide_eq_true_eq]
  exact hiff t ht
 ·rw [gW o hr hA hC hX]
  simp only [j9]
theorem zw {g:Gr} (hm:aL g=true) {f:Fr} (hi:dJ g f) {x:Int} (hR:aq g f x=true) (hn:bf g x≠0) {a X c:List It} (e:fu f.row=a++X++c) (ha:eW x a) (hc:eW x c) (hX:rX x X) (nX:X≠ []) (o:List Int):
 fu (au g f x o).2.row=a++fu (aM g x o)++c:=by
 obtain ⟨b,Y,d,e',hb,hd,hY,lY,hs⟩:=C1 hm hi hR hn
 have nY:Y≠ []:=fun h=>hn (by rw [← lY,h];rfl)
 obtain ⟨e1,_,e3⟩:=xm hb ha hY hX hd hc nY nX (e'.symm.trans e)
 rw [hs o,e1,e3]
theorem xo {g:Gr} (hm:aL g=true) {f:Fr} (hi:dJ g f) {x:Int} (h0:0≤x) (h1:x<g.n) (hp:x∉f.pl) {a X c:List It} (e:fu f.row=a++X++c) (ha:eW x a) (hc:eW x c) (hX:rX x X) (nX:X≠ []) (hl:X.length=bf g x):aq g f x=true:=by
 have hmem:∀j,j<f.row.length→AE g (f.row.getD j (0,0,0)):=fun j hj=>hi.it _ (bS hj)
 have z7:f.row.countP (kA x)=X.length:=by
  have h2:f.row.countP (kA x)=(fu f.row).countP (kA x):=by
   rw [fu,List.countP_filter]
   refine List.countP_congr fun t ht=> ?_
   have:=(hi.it t ht).head hm
   simp only [kA,Bool.and_eq_true,decide_eq_true_eq]
   omega
  have c1:a.countP (kA x)=0:=List.countP_eq_zero.2 fun t ht=>by simp [kA,ha t ht]
  have c2:c.countP (kA x)=0:=List.countP_eq_zero.2 fun t ht=>by simp [kA,hc t ht]
  have c3:X.countP (kA x)=X.length:=List.countP_eq_length.2 fun t ht=>by simp [kA,hX t ht]
  rw [h2,e,List.countP_append,List.countP_append,c1,c2,c3]
  omega
 rw [← gB hm hi,dU,if_neg (by rintro (h|h|h);omega;omega;exact hp h),fY h0 h1,Bool.and_eq_true,decide_eq_true_eq]
 have hN:(aZ (fun e=>e.2) g.es g.es.length x).length=bf g x:=rfl
 rw [hN]
 refine ⟨?_, ?_⟩
 ·unfold aV
  rw [jA,j6 (Nat.le_refl _),List.take_length,z7,hl]
 ·rw [Bool.or_eq_true];right
  rcases cP (row:=f.row) (x:=x) f.row.length with ⟨hs,hno⟩|⟨p,q,n,hs,hab,qg,hc0,dI,hpx,JY,hlo,hhi⟩
  ·have hs':aV f.row x=(-1,0,0):=hs
   rw [hs'];simp [o6]
  ·have hs':aV f.row x=((p:Int),(q:Int),(n:Int)):=hs
   rw [hs']
   simp only [Int.toNat_natCast,o6,Bool.not_eq_true']
   rw [← Bool.not_eq_true,tC qg]
   rintro ⟨j,h2,h3,h4⟩
   simp only [j4,Bool.and_eq_true,decide_eq_true_eq] at h4
   have hja:p<j:=by
    refine Nat.lt_of_le_of_ne h2 fun e=> ?_
    subst e;exact h4.1 hpx
   have hjb:j<q - 1:=by
    refine Nat.lt_of_le_of_ne (by omega) fun e=> ?_
    subst e;exact h4.1 JY
   have hsub:=((rL (i:=j+1) (j:=q - 1) (rL (i:=p+1) (j:=j) (rL (i:=0) (j:=p) (List.nil_sublist _) (by omega) (by omega)) (by omega) (by omega)) (by omega) (by omega)).trans (List.take_sublist _ f.row)).filter fun t=>decide (0≤t.1)
   have hp1:=(hmem p (by omega)).head hm
   have JS:=(hmem j (by omega)).head hm
   have hq1:=(hmem (q - 1) (by omega)).head hm
   generalize f.row.getD p (0,0,0)=s1 at hsub hp1 hpx
   generalize f.row.getD j (0,0,0)=s2 at hsub JS h4
   generalize f.row.getD (q - 1) (0,0,0)=s3 at hsub hq1 JY
   have hf:([]++ [s1]++ [s2]++ [s3]).filter (fun t=>decide (0≤t.1))= [s1,s2,s3]:=List.filter_eq_self.2 fun t ht=>by
    simp only [List.nil_append,List.cons_append,List.mem_cons,List.not_mem_nil,or_false] at ht
    rcases ht with rfl|rfl|rfl
    ·exact decide_eq_true (hp1.1.2 (by omega))
    ·exact decide_eq_true (JS.1.2 h4.2)
    ·exact decide_eq_true (hq1.1.2 (by omega))
   rw [hf] at hsub
   have hsub: [s1,s2,s3].Sublist (a++(X++c)):=by rw [← List.append_assoc, ← e];exact hsub
   rw [List.sublist_append_iff] at hsub
   obtain ⟨l1,l',el,k1,k'⟩:=hsub
   rw [List.sublist_append_iff] at k'
   obtain ⟨l2,l3,rfl,k2,k3⟩:=k'
   match l1,el,k1 with
   |t::l1,el,k1=>
    simp only [List.cons_append,List.cons.injEq] at el
    exact ha t (k1.subset (by simp)) (by rw [← el.1];exact hpx)
   | [],el,_=>
     match l2,el,k2 with
     | [],el,_=>
       simp only [List.nil_append] at el
       exact hc s1 (k3.subset (by rw [← el];simp)) hpx
     | [t],el,_=>
       simp only [List.nil_append,List.cons_append,List.cons.injEq] at el
       exact hc s3 (k3.subset (by rw [← el.2];simp)) JY
     |t::u::l2,el,k2=>
      simp only [List.nil_append,List.cons_append,List.cons.injEq] at el
      exact h4.1 (by rw [el.2.1];exact hX u (k2.subset (by simp)))
end Go.Ab
end
section
namespace Go.Ab
open Go.Proofs
set_option maxRecDepth 10000
def HR (gone:List Int) (i:Nat):Bool:= !decide ((i:Int)∈gone)
def FX (gone:List Int) (k:Nat):List Nat:=(List.range k).filter (HR gone)
def Mn (gone:List Int) (k:Nat):Nat:=(FX gone k).length
def JZ (gone:List Int) (es:List Edge) (k:Nat):List Edge:=(FX gone k).map fun i=>es.getD i (0,0)
def Mo (g:Gr) (gone:List Int):Gr:=⟨g.n,JZ gone g.es g.es.length⟩
def KM (gone:List Int) (i:Int):Int:=if i∈gone then -1 else (Mn gone i.toNat:Int)
def J0 (gone:List Int) (l:List Int):List Int:=(l.filter fun i=>decide (i∉gone)).map (KM gone)
def Mp (p:Pl) (gone:List Int):Pl:=⟨p.ord,p.outs.map (J0 gone)⟩
variable {g:Gr} {p:Pl} {gone:List Int}
def Mq (gone:List Int) (t:It):It:=(KM gone t.1,t.2.1,t.2.2)
def Mr (gone:List Int) (l:List It):List It:=(l.filter fun t=>decide (t.1∉gone)).map (Mq gone)
theorem dZ (hr:bK g p):bf g (aK p 0)=0:=by
 have hm:=az hr.1
 have hn:=aR hm
 refine Decidable.byContradiction fun hnz=> ?_
 obtain ⟨A,X,C,hrw,_,_,hX,_⟩:=b8 hm (u6 g).todJ (hr.2.2 0 (by omega)) hnz
 obtain ⟨q,X0,e1,_⟩:=hX.fst
 rw [e1] at hrw
 simp at hrw
end Go.Ab
end
section
namespace Go.Ab
open Go.Proofs
set_option maxRecDepth 10000
theorem pY {g:Gr} (hm:aL g=true) {f:Fr} (hi:dJ g f) {x:Int} (hR:aq g f x=true) (hn:bf g x≠0) (o:List Int):
 ∃a c,fu f.row=a++fu (au g f x o).1.1++c∧eW x a∧eW x c∧rX x (fu (au g f x o).1.1)∧(fu (au g f x o).1.1).length=bf g x∧fu (au g f x o).2.row=a++fu (aM g x o)++c:=by
 obtain ⟨A,X,C,hr,hA,hC,hX,hc⟩:=b8 hm hi hR hn
 have hx:=(aB hR).1
 have hmem:∀t∈X,t∈f.row:=fun t ht=>by rw [hr];simp [ht]
 have hiff:∀t∈X,(0≤t.1↔t.2.2=x):=fun t ht=>by
  have h1:=(hi.it t (hmem t ht)).head hm
  have h2:=hX.al t ht
  constructor
  ·intro h;rcases h2 with h2|h2
   ·exact h2
   ·exact absurd h2 (h1.1.1 h)
  ·intro h;exact h1.1.2 (by omega)
 rw [gW o hr hA hC hX]
 refine ⟨fu A,fu C,by rw [hr,j9,j9],pX hA,pX hC,fun t ht=> ?_, ?_,by simp only [j9]⟩
 ·obtain ⟨h1,h2⟩:=gr.1 ht
  exact (hiff t h1).1 h2
 ·rw [← hc,fu, ← List.countP_eq_length_filter]
  refine List.countP_congr fun t ht=> ?_
  simp only [kA,decide_eq_true_eq]
  exact hiff t ht
def eY (g:Gr) (p:Pl) (x:Int):List Int:=(fu ((fI g p g.n.toNat).getD x.toNat [])).map (·.1)
def lN (g:Gr) (p:Pl) (f:Fr) (x:Int):List Int:=(fu (au g f x (cQ p x)).1.1).map (·.1)
def lZ (g:Gr) (p:Pl):Nat→Fr→Prop
 |0,f=>(f.pl.length:Int)=g.n
 |m+1,f=>∃x,aq g f x=true∧lN g p f x=eY g p x∧lZ g p m (nK g p f x)
theorem rY {g:Gr} {p:Pl} :∀ {m:Nat} {f f':Fr},f.row=f'.row→f.pl.Perm f'.pl→lZ g p m f→lZ g p m f'
 |0,f,f',_,hp,h=>by
  have h:(f.pl.length:Int)=g.n:=h
  show (f'.pl.length:Int)=g.n
  rw [← hp.length_eq];exact h
 |m+1,f,f',hr,hp,⟨x,h1,h3,h2⟩=>by
  refine ⟨x,by rw [← o8 hr hp];exact h1, ?_,rY ?_ ?_ h2⟩
  ·simp only [lN,au,hr] at h3 ⊢;exact h3
  ·simp only [nK,au,hr]
  ·exact hp.append_right _
theorem lH {g:Gr} (hc:(cA g).1=0) {p:Pl} (hp:bF g p):∀ {m:Nat} {f:Fr},sr g f→(f.pl.length:Int)+(m+1:Nat)=g.n→lZ g p (m+1) f→∀ {x:Int},aq g f x=true→lN g p f x=eY g p x∧lZ g p m (nK g p f x)
 |m,f,hi,hl,⟨y,pJ,Iy,hcan⟩,x,hR=>by
  have hm:=az hc
  by_cases hxy:x=y
  ·subst hxy;exact ⟨Iy,hcan⟩
  have py:=bD hp (aB pJ).1 (aB pJ).2.1
  have px:=bD hp (aB hR).1 (aB hR).2.1
  have i2:=gC hm hi pJ py
  match m,hl,hcan with
  |0,hl,hcan=>
   exfalso
   have h1:=fZ i2.todJ (by show ((f.pl++ [y]).length:Int)=g.n;simp;omega) (x:=x) ⟨(aB hR).1,(aB hR).2.1⟩
   have h2:x∈f.pl++ [y]:=h1
   simp [(aB hR).2.2,hxy] at h2
  |m+1,hl,hcan=>
   obtain ⟨h4,h5,h6,h7,h8⟩:=tE hc hi hxy hR pJ px py
   obtain ⟨h9,h3⟩:=lH hc hp i2 (by show (((f.pl++ [y]).length:Nat):Int)+_=_;simp;omega) hcan h5
   refine ⟨?_,y,h4, ?_,rY h6.symm ?_ h3⟩
   ·unfold lN at h9 ⊢;rw [h7];exact h9
   ·unfold lN at Iy ⊢;rw [h8] at Iy;exact Iy
   show (f.pl++ [y]++ [x]).Perm (f.pl++ [x]++ [y])
   rw [List.append_assoc,List.append_assoc]
   exact List.Perm.append_left _ (List.Perm.swap ..)
theorem oN {g:Gr} {p:Pl} (h:bK g p):∀ {d k:Nat},k+d=g.n.toNat→lZ g p d (fK g p k)
 |0,k,hk=>by
  have hn:=aR (az h.1)
  obtain ⟨_,fA,_⟩:=dK (az h.1) h.2.1 (k:=k) (by omega) fun j hj=>h.2.2 j (by omega)
  show ((fK g p k).pl.length:Int)=g.n
  rw [fA,List.length_take,b9 h.2.1];omega
 |d+1,k,hk=>⟨aK p k,h.2.2 k (by omega),by
   unfold eY
   rw [u9 h.2.1 (Nat.le_refl _) (show k<g.n.toNat by omega)]
   rfl,oN h (k:=k+1) (by omega)⟩
theorem zx {g:Gr} (hc:(cA g).1=0) {p:Pl} (hp:bF g p):∀ {m:Nat} {f:Fr},sr g f→lZ g p m f→∀ {i:Nat},i<g.es.length→tl g i∈f.pl→hd g i∉f.pl→∃t∈f.row,t.1=(i:Int)
 |0,f,hi,h,i,hil,_,hh=>by
  have hr:=cD (az hc) hil
  exact absurd (fZ hi.todJ h (x:=hd g i) hr) hh
 |m+1,f,hi,⟨x,hR,_,h⟩,i,hil,ht,hh=>by
  have hm:=az hc
  have px:=bD hp (aB hR).1 (aB hR).2.1
  by_cases hx:hd g i=x
  ·obtain ⟨t,h1,h2,_⟩:=u7 hm hi hR hil hx
   exact ⟨t,h1,h2⟩
  ·obtain ⟨t,h1,h2⟩:=zx hc hp (gC hm hi hR px) h hil (List.mem_append.2 (.inl ht)) (fun h1=>by
    rcases List.mem_append.1 h1 with h1|h1
    ·exact hh h1
    ·exact hx (by simpa using h1))
   obtain ⟨A,X,C,hr,_,_,_,hs⟩:=mF hm hi.todJ hR
   rw [hs] at h1
   simp only [List.mem_append] at h1
   rcases h1 with (h1|h1)|h1
   ·exact ⟨t,by rw [hr];simp [h1],h2⟩
   ·rcases jD (fun i hi=>px.mem_iff.1 hi) h1 with ⟨h3,_⟩|⟨k,h3,h4,h5,_,h6,_⟩
    ·omega
    ·have:k=i:=by omega
     subst this
     exact absurd (h6 ▸ ht) (aB hR).2.2
   ·exact ⟨t,by rw [hr];simp [h1],h2⟩
def sw (g:Gr) (e:Int):Int:=(g.es.getD e.toNat (0,0)).1
def Bh (g:Gr) (e:Int):Int:=(g.es.getD e.toNat (0,0)).2
def jb (g:Gr) (x:Int):Prop:=0≤x∧x<g.n
instance {g:Gr} {x:Int} :Decidable (jb g x):=inferInstanceAs (Decidable (0≤x∧x<g.n))
def kX (g:Gr) (p:Pl) (k:Nat) (W D:List Int):Prop:=∃f,sr g f∧f.pl=D∧W=(fu f.row).map (·.1)∧lZ g p k f∧(D.length:Int)+k=g.n∧aK p 0∈D
def C2 (g:Gr) (p:Pl) (x:Int):Nat:=((wS g.n.toNat p.ord p.ord.length).getD x.toNat 0).toNat
def bg (g:Gr) (p:Pl):PS:=
 {m:=g.es.length,src:=aK p 0,Fu:=aK p (g.n.toNat - 1),tl:=sw g,hd:=Bh g,ins:=fun x=>if jb g x then eY g p x else [],outs:=fun x=>if jb g x then cQ p x else [],F7:=C2 g p,Row:=kX g p,k0:=g.n.toNat - 1}
theorem eZ {g:Gr} {p:Pl} {x:Int} (h:jb g x):(bg g p).ins x=eY g p x:=if_pos h
theorem iT {g:Gr} {p:Pl} {x:Int} (h:¬jb g x):(bg g p).ins x= []:=if_neg h
theorem dL {g:Gr} {p:Pl} {x:Int} (h:jb g x):(bg g p).outs x=cQ p x:=if_pos h
theorem jF {g:Gr} {p:Pl} {x:Int} (h:¬jb g x):(bg g p).outs x= []:=if_neg h
theorem cE {f:Edge→Int} {es:List Edge} {x e:Int} :e∈aZ f es es.length x↔(0≤e∧e<es.length)∧f (es.getD e.toNat (0,0))=x:=by
 refine ⟨ir,fun ⟨h1,h2⟩=> ?_⟩
 simp only [aZ,List.mem_map,List.mem_filter,List.mem_range,decide_eq_true_eq]
 exact ⟨e.toNat,⟨by omega,h2⟩,by simp;omega⟩
section
variable {g:Gr} {p:Pl}
theorem zy (hm:aL g=true) (hp:bF g p) {k:Nat} (hk:k<g.n.toNat):C2 g p (aK p k)=k:=by
 have hE:=((zm hm).2 hp).1
 have:=uW hE (p:=k) (k:=p.ord.length) (by rw [b9 hp];exact hk) (Nat.le_refl _)
 unfold C2
 show ((wS _ _ _).getD (p.ord.getD k 0).toNat 0).toNat=k
 rw [this];simp
theorem vg (h:bK g p) {e:Int} (he:0≤e∧e<g.es.length) {k:Nat} (hk:k<g.n.toNat) (hx:Bh g e=aK p k):∃j,j<k∧aK p j=sw g e:=by
 have hm:=az h.1
 obtain ⟨hi,fA,_⟩:=dK hm h.2.1 (k:=k) (by omega) fun j hj=>h.2.2 j (by omega)
 obtain ⟨t,h1,h2,h3,_⟩:=u7 hm hi (h.2.2 k hk) (i:=e.toNat) (by omega) hx
 have h4:=hi.tail t h1 (by omega)
 rw [h3,fA] at h4
 exact zv (by rw [b9 h.2.1];omega) h4
theorem nN (hm:aL g=true) {f:Fr} (hi:dJ g f) {t:It} (ht:t∈fu f.row):(0≤t.1∧t.1<g.es.length)∧t.2.1=sw g t.1∧t.2.2=Bh g t.1:=by
 obtain ⟨h1,h2⟩:=gr.1 ht
 rcases hi.it t h1 with h3|h3
 ·omega
 ·exact ⟨⟨h3.1,h3.2.1⟩,h3.2.2.1,h3.2.2.2⟩
theorem C3 {f:Fr} (hi:sr g f):((fu f.row).map (·.1)).Nodup:=by
 refine List.pairwise_map.2 ?_
 have:=hi.once.filter (fun t:It=>decide (0≤t.1))
 refine List.Pairwise.imp_of_mem (fun {s t} hs ht h1=>h1 (gr.1 hs).2) this
theorem Ec (hm:aL g=true) {f:Fr} (hi:sr g f) {x:Int} (hR:aq g f x=true):(lN g p f x).Nodup∧∀e,e∈lN g p f x↔(0≤e∧e<g.es.length)∧Bh g e=x:=by
 by_cases hn:bf g x=0
 ·have hno:=rK hm hi.todJ (aB hR).1 hn
  have e0:lN g p f x= []:=by unfold lN;rw [iu _ hno];rfl
  rw [e0]
  refine ⟨List.nodup_nil,fun e=>⟨fun h=>by (cases h),fun ⟨h1,h2⟩=> ?_⟩⟩
  have:=cE.2 ⟨h1,h2⟩
  have h3:aZ (·.2) g.es g.es.length x= []:=List.eq_nil_of_length_eq_zero hn
  rw [h3] at this;cases this
 ·obtain ⟨a,c,e1,ha,hc,hX,hl,_⟩:=pY hm hi.todJ hR hn (cQ p x)
  have cg:=C3 hi
  have hmem:∀t∈fu (au g f x (cQ p x)).1.1,t∈fu f.row:=fun t ht=>by rw [e1];simp [ht]
  rw [e1,List.map_append,List.map_append,List.nodup_append] at cg
  have KN:(lN g p f x).Nodup:=(List.nodup_append.1 cg.1).2.1
  have hsub:∀e∈lN g p f x,e∈aZ (·.2) g.es g.es.length x:=fun e he=>by
   obtain ⟨t,ht,rfl⟩:=List.mem_map.1 he
   obtain ⟨h1,_,h3⟩:=nN hm hi.todJ (hmem t ht)
   exact cE.2 ⟨h1,by rw [← hX t ht,h3];rfl⟩
  have hlen:(aZ (·.2) g.es g.es.length x).length=(lN g p f x).length:=by
   unfold lN;rw [List.length_map,hl];rfl
  exact ⟨KN,fun e=>⟨fun he=>cE.1 (hsub e he),fun he=>u5 KN hsub hlen e (cE.2 he)⟩⟩
theorem pZ (h:bK g p) {k:Nat} (hk:k<g.n.toNat):eY g p (aK p k)=lN g p (fK g p k) (aK p k):=by
 unfold eY
 rw [u9 h.2.1 (Nat.le_refl _) hk];rfl
theorem jG (h:bK g p) {x:Int} (hx:jb g x):(eY g p x).Nodup∧∀e,e∈eY g p x↔(0≤e∧e<g.es.length)∧Bh g e=x:=by
 obtain ⟨k,hk,rfl⟩:=fG h.2.1 hx.1 hx.2
 have hm:=az h.1
 obtain ⟨hi,_,_⟩:=dK hm h.2.1 (k:=k) (by omega) fun j hj=>h.2.2 j (by omega)
 rw [pZ h hk]
 exact Ec hm hi (h.2.2 k hk)
theorem gE (h:bK g p) {x:Int} (hx:jb g x):(eY g p x).length=bf g x:=by
 obtain ⟨h1,h2⟩:=jG h hx
 refine Nat.le_antisymm ?_ ?_
 ·exact gZ h1 fun e he=>cE.2 ((h2 e).1 he)
 ·exact gZ dw fun e he=>(h2 e).2 (cE.1 he)
theorem jH (h:bK g p) (hI:pe g=true) {x:Int} (hx:jb g x):cQ p x= []↔x=aK p (g.n.toNat - 1):=by
 have hm:=az h.1
 have hn:=aR hm
 constructor
 ·intro h1
  have hs:=(tM h).1
  have hsi:=bn h.2.1 (k:=g.n.toNat - 1) (by omega)
  have b1:=tN (f:=(·.1)) (g:=g) (y:=x) |>.2 ⟨hx,(xg h.2.1 hx.1 hx.2).2 h1⟩
  have b2:=tN (f:=(·.1)) (g:=g) (y:=aK p (g.n.toNat - 1)) |>.2 ⟨hsi,(xg h.2.1 hsi.1 hsi.2).2 hs⟩
  have hl:(b7 (·.1) g).length=1:=by
   unfold pe at hI
   simp only [Bool.and_eq_true,decide_eq_true_eq] at hI
   exact hI.2
  obtain ⟨y,hy⟩:=List.length_eq_one_iff.1 hl
  rw [hy,List.mem_singleton] at b1 b2
  rw [b1,b2]
 ·rintro rfl;exact (tM h).1
theorem tP (h:bK g p) (hI:pe g=true) {f:Fr} (hi:sr g f):∀ {d k:Nat},k+d=g.n.toNat→k<g.n.toNat→aK p k∉f.pl→aK p (g.n.toNat - 1)∉f.pl
 |0,k,h1,h2,_=>by omega
 |d+1,k,h1,h2,h3=>by
  have hm:=az h.1
  have hx:=bn h.2.1 h2
  by_cases hs:cQ p (aK p k)= []
  ·rw [(jH h hI hx).1 hs] at h3;exact h3
  ·obtain ⟨e,u,he⟩:=gn hs
   have vn:e∈bw g (aK p k):=(bD h.2.1 hx.1 hx.2).mem_iff.1 (by rw [he];simp)
   obtain ⟨mQ,vl⟩:=cE.1 vn
   have hh:=cD hm (i:=e.toNat) (by omega)
   obtain ⟨k',hk',e'⟩:=fG h.2.1 hh.1 hh.2
   obtain ⟨j,hj,e2⟩:=vg h mQ hk' e'.symm
   have:j=k:=eL h.2.1 (by omega) h2 (e2.trans vl)
   refine tP h hI hi (d:=g.n.toNat - k') (k:=k') (by omega) hk' fun h4=> ?_
   have:=hi.low e.toNat (by omega) (e' ▸ h4)
   have h5:tl g e.toNat=aK p k:=vl
   exact h3 (h5 ▸ this)
 termination_by d=>d
theorem kX.nd {k:Nat} {W D:List Int} (h:kX g p k W D):W.Nodup:=by
 obtain ⟨f,hi,_,rfl,_⟩:=h;exact C3 hi
theorem kX.mem (h:bK g p) {k:Nat} {W D:List Int} (hr:kX g p k W D) (e:Int):e∈W↔(0≤e∧e<g.es.length)∧sw g e∈D∧Bh g e∉D:=by
 have hm:=az h.1
 obtain ⟨f,hi,rfl,rfl,hc,_⟩:=hr
 constructor
 ·intro he
  obtain ⟨t,ht,rfl⟩:=List.mem_map.1 he
  obtain ⟨h1,h2,h3⟩:=nN hm hi.todJ ht
  obtain ⟨h4,h5⟩:=gr.1 ht
  exact ⟨h1,h2 ▸ hi.tail t h4 h5,h3 ▸ hi.head t h4 h5⟩
 ·rintro ⟨h1,h2,h3⟩
  obtain ⟨t,h4,h5⟩:=zx h.1 h.2.1 hi hc (i:=e.toNat) (by omega) h2 h3
  exact List.mem_map.2 ⟨t,gr.2 ⟨h4,by omega⟩,by omega⟩
theorem kX.next (h:bK g p) {k:Nat} {W D:List Int} (hr:kX g p (k+1) W D):∃x A C,W=A++(bg g p).ins x++C∧(bg g p).ins x≠ []:=by
 have hm:=az h.1
 obtain ⟨f,hi,rfl,rfl,⟨x,hR,hg,_⟩,_,hs⟩:=hr
 obtain ⟨x0,x1,x2⟩:=aB hR
 have hx:jb g x:=⟨x0,x1⟩
 have hn:bf g x≠0:=fun h0=>by
  have:=gX h.1 (x:=x) (y:=aK p 0) hx (hi.CG _ hs) h0 (dZ h)
  exact x2 (this ▸ hs)
 obtain ⟨a,c,e1,_,_,_,hl,_⟩:=pY hm hi.todJ hR hn (cQ p x)
 refine ⟨x,a.map (·.1),c.map (·.1), ?_, ?_⟩
 ·rw [eZ hx, ← hg,e1,List.map_append,List.map_append];rfl
 ·rw [eZ hx]
  intro h0
  have:=gE h hx
  rw [h0] at this
  exact hn this.symm
theorem kX.step (h:bK g p) {k:Nat} {W D A C:List Int} {x:Int} (hr:kX g p k W D) (hW:W=A++(bg g p).ins x++C) (hI:(bg g p).ins x≠ []):∃k',k=k'+1∧kX g p k' (A++(bg g p).outs x++C) (D++ [x]):=by
 have hm:=az h.1
 have hx:jb g x:=Decidable.byContradiction fun h0=>hI (iT h0)
 have cg:=hr.nd
 have hmem:=kX.mem h hr
 rw [eZ hx] at hW hI
 rw [dL hx]
 obtain ⟨i1,i2⟩:=jG h hx
 obtain ⟨e0,u0,FE⟩:=gn hI
 have Be:x∉D:=by
  have h1:=(i2 e0).1 (by rw [FE];simp)
  have h2:=(hmem e0).1 (by rw [hW,FE];simp)
  rw [h1.2] at h2;exact h2.2.2
 obtain ⟨f,hi,rfl,Ms,hc,hD,hs⟩:=hr
 rw [Ms] at hW cg
 obtain ⟨l1,c,e1,e2,e3⟩:=List.map_eq_append_iff.1 hW
 obtain ⟨a,X,e4,e5,e6⟩:=List.map_eq_append_iff.1 e2
 have hrow:fu f.row=a++X++c:=by rw [e1,e4]
 rw [hrow,List.map_append,List.map_append,e5,e6,e3] at cg
 have hit:∀t∈a++X++c,(0≤t.1∧t.1<g.es.length)∧t.2.1=sw g t.1∧t.2.2=Bh g t.1:=fun t ht=>nN hm hi.todJ (by rw [hrow];exact ht)
 have hX:rX x X:=fun t ht=>by
  have h1:t.1∈eY g p x:=by rw [← e6];exact List.mem_map_of_mem ht
  rw [(hit t (by simp [ht])).2.2,((i2 _).1 h1).2]
 have hin:∀t∈a++X++c,t.2.2=x→t.1∈eY g p x:=fun t ht e=>by
  obtain ⟨h1,_,h3⟩:=hit t ht
  exact (i2 _).2 ⟨h1,by rw [← h3,e]⟩
 have ha:eW x a:=fun t ht e=>by
  have h1:=hin t (by simp [ht]) e
  have h2:t.1∈A:=by rw [← e5];exact List.mem_map_of_mem ht
  exact (List.nodup_append.1 (List.nodup_append.1 cg).1).2.2 _ h2 _ h1 rfl
 have EJ:eW x c:=fun t ht e=>by
  have h1:=hin t (by simp [ht]) e
  have h2:t.1∈C:=by rw [← e3];exact List.mem_map_of_mem ht
  exact (List.nodup_append.1 cg).2.2 _ (List.mem_append.2 (.inr h1)) _ h2 rfl
 have Gc:X.length=bf g x:=by rw [← gE h hx, ← e6,List.length_map]
 have nX:X≠ []:=fun h0=>hI (by rw [← e6,h0];rfl)
 have hR:=xo hm hi.todJ hx.1 hx.2 Be hrow ha EJ hX nX Gc
 have hn:bf g x≠0:=fun h0=>nX (List.eq_nil_of_length_eq_zero (Gc.trans h0))
 have px:=bD h.2.1 hx.1 hx.2
 cases k with
 |zero=>exact absurd (fZ hi.todJ (by omega) hx) Be
 |succ k=>
  refine ⟨k,rfl,nK g p f x,gC hm hi hR px,rfl, ?_,(lH h.1 h.2.1 hi (by omega) hc hR).2, ?_,List.mem_append.2 (.inl hs)⟩
  ·have:=zw hm hi.todJ hR hn hrow ha EJ hX nX (cQ p x)
   show _=(fu (au g f x (cQ p x)).2.row).map (·.1)
   rw [this,List.map_append,List.map_append,e5,e3,jE (fun i hi=>by
    have:=cE.1 (px.mem_iff.1 hi);exact this.1.1),List.map_map]
   have e7:((fun t:It=>t.1) ∘ fq g x)=id:=rfl
   rw [e7,List.map_id]
  ·show (((f.pl++ [x]).length:Nat):Int)+_=_
   rw [List.length_append,List.length_singleton];omega
theorem AS (h:bK g p):kX g p (g.n.toNat - 1) (cQ p (aK p 0)) [aK p 0]:=by
 have hm:=az h.1
 have hn:=aR hm
 have hx:=bn h.2.1 (k:=0) (by omega)
 obtain ⟨hi,fA,_⟩:=dK hm h.2.1 (k:=1) (by omega) fun j hj=>h.2.2 j (by omega)
 have px:=bD h.2.1 hx.1 hx.2
 have hno:eW (aK p 0) (fK g p 0).row:=fun t ht=>by cases ht
 have hf:fK g p 1=⟨aM g (aK p 0) (cQ p (aK p 0)), [aK p 0]⟩:=by
  show (au g (fK g p 0) (aK p 0) _).2=_
  rw [iu _ hno]
  show (⟨_++ [], []++ [_]⟩:Fr)=_
  simp
 refine ⟨fK g p 1,hi,by rw [hf], ?_,oN h (by omega),by simp;omega,by simp⟩
 rw [hf]
 show _=(fu (aM g (aK p 0) (cQ p (aK p 0)))).map (·.1)
 rw [jE (fun i hi=>(cE.1 (px.mem_iff.1 hi)).1.1),List.map_map]
 have e7:((fun t:It=>t.1) ∘ fq g (aK p 0))=id:=rfl
 rw [e7,List.map_id]
theorem pg (h:bK g p) (hI:pe g=true):(bg g p).Ok:=by
 have hm:=az h.1
 have hn:=aR hm
 have h0:jb g (aK p 0):=bn h.2.1 (by omega)
 exact {
  bM:=fun x e=>by
   show _↔(0≤e∧e<g.es.length)∧sw g e=x
   by_cases hx:jb g x
   ·rw [dL hx,(bD h.2.1 hx.1 hx.2).mem_iff];exact cE
   ·rw [jF hx]
    refine ⟨fun h=>by (cases h),fun ⟨h1,h2⟩=>absurd ?_ hx⟩
    rw [← h2];exact cr hm (i:=e.toNat) (by omega)
  cL:=fun x e=>by
   show _↔(0≤e∧e<g.es.length)∧Bh g e=x
   by_cases hx:jb g x
   ·rw [eZ hx];exact (jG h hx).2 e
   ·rw [iT hx]
    refine ⟨fun h=>by (cases h),fun ⟨h1,h2⟩=>absurd ?_ hx⟩
    rw [← h2];exact cD hm (i:=e.toNat) (by omega)
  ng:=fun x=>by
   by_cases hx:jb g x
   ·rw [dL hx,(bD h.2.1 hx.1 hx.2).nodup_iff];exact dw
   ·rw [jF hx];exact List.nodup_nil
  xZ:=fun x=>by
   by_cases hx:jb g x
   ·rw [eZ hx];exact (jG h hx).1
   ·rw [iT hx];exact List.nodup_nil
  uD:=fun e he=>by
   have he:0≤e∧e<g.es.length:=he
   have hh:=cD hm (i:=e.toNat) (by omega)
   obtain ⟨k,hk,e1⟩:=fG h.2.1 hh.1 hh.2
   obtain ⟨j,hj,e2⟩:=vg h he hk e1.symm
   show C2 g p (sw g e)<C2 g p (Bh g e)
   have e3:Bh g e=aK p k:=e1.symm
   rw [← e2,e3,zy hm h.2.1 hk,zy hm h.2.1 (by omega)]
   exact hj
  DQ:=by
   show kX g p (g.n.toNat - 1) ((bg g p).outs (aK p 0)) [aK p 0]
   rw [dL h0];exact AS h
  kK:=fun hr=>kX.nd hr
  cZ:=fun hr e=>kX.mem h hr e
  kL:=fun hr=>kX.next h hr
  nh:=fun hr h1 h2=>kX.step h hr h1 h2
  lC:=fun {W D} hr e he=>by
   obtain ⟨f,hi,rfl,_,_,hD,_⟩:=hr
   exact fZ hi.todJ (by omega) (cD hm (i:=e.toNat) (by have:=he.1;have:=he.2;have:e<g.es.length:=he.2;omega))
  ni:=fun {k W D} hr=>by obtain ⟨f,hi,rfl,_,_,_,hs⟩:=hr;exact hs
  pS:=fun {k W D} hr hs=>by
   obtain ⟨f,hi,rfl,_,_,hD,_⟩:=hr
   refine Decidable.byContradiction fun hk=> ?_
   have:∃k',k'<g.n.toNat∧aK p k'∉f.pl:=by
    refine Decidable.byContradiction fun hall=> ?_
    have hall:∀k',k'<g.n.toNat→aK p k'∈f.pl:=fun k' hk'=>Decidable.byContradiction fun h1=>hall ⟨k',hk',h1⟩
    have:=gZ (l:=p.ord) (m:=f.pl) (mI h.2.1) fun x hx=>by
     have hx:=dm.1 (h.2.1.2.1.mem_iff.1 hx)
     obtain ⟨k',h1,rfl⟩:=fG h.2.1 hx.1 (by omega)
     exact hall k' h1
    rw [b9 h.2.1] at this
    omega
   obtain ⟨k',h1,h2⟩:=this
   exact tP h hI hi (d:=g.n.toNat - k') (by omega) h1 h2 hs
  qJ:=by
   show (bg g p).ins (aK p 0)= []
   rw [eZ h0]
   have:=gE h h0
   rw [dZ h] at this
   exact List.eq_nil_of_length_eq_zero this
  nj:=fun x hx=>by
   have Dk:jb g x:=Decidable.byContradiction fun h0=>hx (iT h0)
   rw [dL Dk]
   exact jH h hI Dk}
end
end Go.Ab
end
section
namespace Go.Ab
open Go.Proofs
set_option maxRecDepth 10000
set_option linter.unusedSectionVars false
section
variable (g:Gr) (p:Pl)
def cK:Nat→Nat
 |0=>1
 |k+1=>cK k+((cQ p (aK p k)).length - 1)
def FQ (e:Int):Nat:=(cQ p (sw g e)).findIdx (fun i=>decide (i=e))
def nO (x:Int):Int:=(eY g p x).headD 0
def tQ (x:Int):Int:=(eY g p x).getLastD 0
def LK:Nat→Int→Int
 |0,_=>0
 |k+1,e=>if sw g e=aK p k then (if FQ g p e=0 then (if k=0 then 0 else LK k (nO g p (aK p k))) else (cK p k:Int)+FQ g p e - 1) else LK k e
def RK (r:Int):Nat→Int→Int
 |0,_=>0
 |k+1,e=>if sw g e=aK p k then (if FQ g p e+1<(cQ p (aK p k)).length then (cK p k:Int)+FQ g p e else (if k=0 then r else RK r k (tQ g p (aK p k)))) else RK r k e
def nP:Nat→List Int
 |0=> [aK p 0]
 |k+1=>nP k++List.replicate ((cQ p (aK p k)).length - 1) (aK p k)
end
section
variable {g:Gr} {p:Pl}
theorem kY:∀ {k:Nat},(nP p k).length=cK p k
 |0=>rfl
 |k+1=>by rw [nP,List.length_append,List.length_replicate,kY,cK]
theorem yx:∀ {k:Nat},0<cK p k
 |0=>by simp [cK]
 |k+1=>by rw [cK];have:= @yx k;omega
theorem p4 {k:Nat} :∀ {d:Nat},cK p k≤cK p (k+d)
 |0=>Nat.le_refl _
 |d+1=>by
  have:= @p4 k d
  show _≤cK p (k+d+1)
  rw [cK];omega
theorem tR {k:Nat} {f:Nat} (hf:f<cK p k):∀ {d:Nat},(nP p (k+d)).getD f 0=(nP p k).getD f 0
 |0=>rfl
 |d+1=>by
  show (nP p (k+d+1)).getD f 0=_
  have:=p4 (p:=p) (k:=k) (d:=d)
  rw [nP,List.getD_eq_getElem?_getD,List.getElem?_append_left (by rw [kY];omega), ← List.getD_eq_getElem?_getD,tR hf]
theorem C4 {k f:Nat} (h1:cK p k≤f) (h2:f<cK p (k+1)):(nP p (k+1)).getD f 0=aK p k:=by
 rw [nP,List.getD_eq_getElem?_getD,List.getElem?_append_right (by rw [kY];exact h1),List.getElem?_replicate,kY,if_pos (by rw [cK] at h2;omega)]
 rfl
variable (h:bK g p)
include h
theorem rZ {k:Nat} (hk:k<g.n.toNat) {u v:List Int} {e:Int} (he:cQ p (aK p k)=u++e::v):sw g e=aK p k∧FQ g p e=u.length:=by
 have hx:=bn h.2.1 hk
 have px:=bD h.2.1 hx.1 hx.2
 have h1:=(cE.1 (px.mem_iff.1 (show e∈cQ p (aK p k) by rw [he];simp))).2
 have h1:sw g e=aK p k:=h1
 refine ⟨h1, ?_⟩
 have cg:(cQ p (aK p k)).Nodup:=px.nodup_iff.2 dw
 unfold FQ
 rw [h1,he]
 rw [he,List.nodup_append] at cg
 rw [List.findIdx_append]
 have h2:u.findIdx (fun i=>decide (i=e))=u.length:=by
  rw [List.findIdx_eq_length]
  intro i hi
  exact decide_eq_false fun e2=>cg.2.2 i hi e (by simp) e2
 rw [h2,if_neg (by omega)]
 simp [List.findIdx_cons]
theorem zA {e:Int} {k:Nat} (hk:k<g.n.toNat) (he:sw g e=aK p k):∀ {d:Nat},k+1+d≤g.n.toNat→LK g p (k+1+d) e=LK g p (k+1) e
 |0,_=>rfl
 |d+1,hd=>by
  show LK g p (k+1+d+1) e=_
  rw [LK,if_neg (fun e2=>by have:=eL h.2.1 hk (show k+1+d<g.n.toNat by omega) (he.symm.trans e2);omega),zA hk he (by omega)]
theorem zB {r:Int} {e:Int} {k:Nat} (hk:k<g.n.toNat) (he:sw g e=aK p k):∀ {d:Nat},k+1+d≤g.n.toNat→RK g p r (k+1+d) e=RK g p r (k+1) e
 |0,_=>rfl
 |d+1,hd=>by
  show RK g p r (k+1+d+1) e=_
  rw [RK,if_neg (fun e2=>by have:=eL h.2.1 hk (show k+1+d<g.n.toNat by omega) (he.symm.trans e2);omega),zB hk he (by omega)]
theorem kZ {e:Int} {k:Nat} (hk:k<g.n.toNat) (he:sw g e=aK p k) {j:Nat} (h1:k+1≤j) (h2:j≤g.n.toNat):LK g p j e=LK g p (k+1) e:=by
 obtain ⟨d,rfl⟩:=Nat.exists_eq_add_of_le h1
 exact zA h hk he h2
theorem k8 {r:Int} {e:Int} {k:Nat} (hk:k<g.n.toNat) (he:sw g e=aK p k) {j:Nat} (h1:k+1≤j) (h2:j≤g.n.toNat):RK g p r j e=RK g p r (k+1) e:=by
 obtain ⟨d,rfl⟩:=Nat.exists_eq_add_of_le h1
 exact zB h hk he h2
theorem vh {k:Nat} (hk:k<g.n.toNat) {v:List Int} {e:Int} (he:cQ p (aK p k)=e::v) {j:Nat} (h1:k+1≤j) (h2:j≤g.n.toNat):LK g p j e=if k=0 then 0 else LK g p k (nO g p (aK p k)):=by
 obtain ⟨a,b⟩:=rZ h hk (u:= []) he
 rw [kZ h hk a h1 h2,LK,if_pos a,if_pos (show FQ g p e=0 from b)]
theorem zC {k:Nat} (hk:k<g.n.toNat) {u v:List Int} {e:Int} (he:cQ p (aK p k)=u++e::v) (hu:u≠ []) {j:Nat} (h1:k+1≤j) (h2:j≤g.n.toNat):LK g p j e=(cK p k:Int)+u.length - 1:=by
 obtain ⟨a,b⟩:=rZ h hk he
 have:=List.length_pos_iff.2 hu
 rw [kZ h hk a h1 h2,LK,if_pos a,if_neg (by omega),b]
theorem yy {r:Int} {k:Nat} (hk:k<g.n.toNat) {u:List Int} {e:Int} (he:cQ p (aK p k)=u++ [e]) {j:Nat} (h1:k+1≤j) (h2:j≤g.n.toNat):RK g p r j e=if k=0 then r else RK g p r k (tQ g p (aK p k)):=by
 obtain ⟨a,b⟩:=rZ h hk he
 rw [k8 h hk a h1 h2,RK,if_pos a,if_neg (by rw [b,he];simp)]
theorem lI {r:Int} {k:Nat} (hk:k<g.n.toNat) {u v:List Int} {e c:Int} (he:cQ p (aK p k)=u++e::c::v) {j:Nat} (h1:k+1≤j) (h2:j≤g.n.toNat):RK g p r j e=(cK p k:Int)+u.length:=by
 obtain ⟨a,b⟩:=rZ h hk he
 rw [k8 h hk a h1 h2,RK,if_pos a,if_pos (by rw [b,he];simp),b]
theorem tS {x:Int} {a:Int} {u:List Int} (hu:eY g p x=a::u):nO g p x=a:=by unfold nO;rw [hu];rfl
theorem xp {x:Int} {a:Int} {u:List Int} (hu:eY g p x=u++ [a]):tQ g p x=a:=by unfold tQ;rw [hu];simp
theorem C5 {k:Nat} (hk:k<g.n.toNat) (hI:eY g p (aK p k)≠ []):k≠0:=fun h0=>by
 subst h0
 have:=gE h (bn h.2.1 hk)
 rw [dZ h] at this
 exact hI (List.eq_nil_of_length_eq_zero this)
theorem r6 {k:Nat} (hk:k<g.n.toNat) {a:Int} (ha:a∈eY g p (aK p k)):∃j,j<k∧sw g a=aK p j:=by
 obtain ⟨h1,h2⟩:=((jG h (bn h.2.1 hk)).2 a).1 ha
 obtain ⟨j,h3,h4⟩:=vg h h1 hk h2
 exact ⟨j,h3,h4.symm⟩
def WK (g:Gr) (p:Pl) (k:Nat):List Int:=(fu (fK g p k).row).map (·.1)
theorem C6 (hn:0<g.n.toNat):WK g p 1=cQ p (aK p 0):=by
 have hx:=bn h.2.1 hn
 have px:=bD h.2.1 hx.1 hx.2
 have hno:eW (aK p 0) (fK g p 0).row:=fun t ht=>by cases ht
 have hf:(fK g p 1).row=aM g (aK p 0) (cQ p (aK p 0)):=by
  show (au g (fK g p 0) (aK p 0) _).2.row=_
  rw [iu _ hno]
  show _++ []=_
  simp
 unfold WK
 rw [hf,jE (fun i hi=>(cE.1 (px.mem_iff.1 hi)).1.1),List.map_map]
 have e7:((fun t:It=>t.1) ∘ fq g (aK p 0))=id:=rfl
 rw [e7,List.map_id]
theorem zD {k:Nat} (h0:k≠0) (hk:k<g.n.toNat):∃A C,WK g p k=A++eY g p (aK p k)++C∧eY g p (aK p k)≠ []∧WK g p (k+1)=A++cQ p (aK p k)++C:=by
 have hm:=az h.1
 obtain ⟨hi,fA,_⟩:=dK hm h.2.1 (k:=k) (by omega) fun j hj=>h.2.2 j (by omega)
 have hR:=h.2.2 k hk
 have hx:=bn h.2.1 hk
 have px:=bD h.2.1 hx.1 hx.2
 have hn:bf g (aK p k)≠0:=fun hz=>by
  have Mt:=bn h.2.1 (show 0<g.n.toNat by omega)
  have:=gX h.1 hx Mt hz (dZ h)
  exact h0 (eL h.2.1 hk (by omega) this)
 obtain ⟨a,c,e1,_,_,_,hl,e2⟩:=pY hm hi.todJ hR hn (cQ p (aK p k))
 refine ⟨a.map (·.1),c.map (·.1), ?_, ?_, ?_⟩
 ·rw [pZ h hk];unfold WK;rw [e1,List.map_append,List.map_append];rfl
 ·intro h1
  have:=gE h hx
  rw [h1] at this
  exact hn this.symm
 ·unfold WK
  show (fu (au g (fK g p k) (aK p k) _).2.row).map (·.1)=_
  rw [e2,List.map_append,List.map_append,jE (fun i hi=>(cE.1 (px.mem_iff.1 hi)).1.1),List.map_map]
  have e7:((fun t:It=>t.1) ∘ fq g (aK p k))=id:=rfl
  rw [e7,List.map_id]
theorem zE {k:Nat} (hk:k≤g.n.toNat) {a:Int} (ha:a∈WK g p k):∃j,j<k∧sw g a=aK p j:=by
 have hm:=az h.1
 obtain ⟨hi,fA,_⟩:=dK hm h.2.1 (k:=k) (by omega) fun j hj=>h.2.2 j (by omega)
 obtain ⟨t,ht,rfl⟩:=List.mem_map.1 ha
 obtain ⟨h1,h2,_⟩:=nN hm hi.todJ ht
 obtain ⟨h4,h5⟩:=gr.1 ht
 have:=hi.tail t h4 h5
 rw [fA,h2] at this
 obtain ⟨j,hj,e⟩:=zv (by rw [b9 h.2.1];omega) this
 exact ⟨j,hj,e.symm⟩
theorem zF {r:Int} {k:Nat} (hk:k<g.n.toNat) {j:Nat} (h1:k+1≤j) (h2:j≤g.n.toNat):fL (LK g p j) (RK g p r j) (if k=0 then 0 else LK g p k (nO g p (aK p k))) (cQ p (aK p k)):=by
 refine nq (fun u a b v e=> ?_) fun a u e=>vh h hk e h1 h2
 rw [lI h hk e h1 h2,zC h hk (u:=u++ [a]) (v:=v) (e:=b) (by rw [e];simp) (by simp) h1 h2]
 simp;omega
theorem zG {r:Int} {k:Nat} (hk:k<g.n.toNat) {j:Nat} (h1:k+1≤j) (h2:j≤g.n.toNat) (hO:cQ p (aK p k)≠ []) (f:Int):gR (RK g p r j) f (cQ p (aK p k))=if k=0 then r else RK g p r k (tQ g p (aK p k)):=by
 obtain ⟨v,b,hv⟩:=fC hO
 rw [hv,di,yy h hk hv h1 h2]
theorem k9 {L R L' R':Int→Int} :∀ {W:List Int} {f:Int},(∀a∈W,L a=L' a∧R a=R' a)→(fL L R f W↔fL L' R' f W)
 | [],_,_=>Iff.rfl
 |a::W,f,hh=>by
  have h1:=hh a (List.mem_cons_self ..)
  simp only [fL,h1.1,h1.2,k9 (W:=W) fun b hb=>hh b (List.mem_cons_of_mem _ hb)]
theorem r7 {R R':Int→Int} :∀ {W:List Int} {f:Int},(∀a∈W,R a=R' a)→gR R f W=gR R' f W
 | [],_,_=>rfl
 |a::W,f,hh=>by
  simp only [gR,hh a (List.mem_cons_self ..),r7 (W:=W) fun b hb=>hh b (List.mem_cons_of_mem _ hb)]
theorem C7 {r:Int} (hI:pe g=true):∀ {k:Nat},1≤k→k<g.n.toNat→WK g p k≠ []→fL (LK g p k) (RK g p r k) 0 (WK g p k)∧gR (RK g p r k) 0 (WK g p k)=r
 |0,h1,_,_=>by omega
 |k+1,_,hk,hW=>by
  by_cases h0:k=0
  ·subst h0
   rw [C6 h (by omega)] at hW ⊢
   have a:=zF (r:=r) h (k:=0) (by omega) (j:=1) (Nat.le_refl _) (by omega)
   have b:=zG (r:=r) h (k:=0) (by omega) (j:=1) (Nat.le_refl _) (by omega) hW 0
   rw [if_pos rfl] at a b
   exact ⟨a,b⟩
  ·obtain ⟨A,C,e1,hne,e2⟩:=zD h h0 (show k<g.n.toNat by omega)
   obtain ⟨l1,l2⟩:=C7 hI (k:=k) (by omega) (by omega) (by rw [e1];simp [hne])
   have hO:cQ p (aK p k)≠ []:=fun h1=>by
    have:=(jH h hI (bn h.2.1 (show k<g.n.toNat by omega))).1 h1
    have:=eL h.2.1 (show k<g.n.toNat by omega) (by omega) this
    omega
   have EK:∀a∈WK g p k,LK g p (k+1) a=LK g p k a∧RK g p r (k+1) a=RK g p r k a:=fun a ha=>by
    obtain ⟨j,hj,e⟩:=zE h (by omega) ha
    exact ⟨by rw [kZ h (by omega) e (j:=k+1) (by omega) (by omega),kZ h (by omega) e (j:=k) (by omega) (by omega)],by rw [k8 h (by omega) e (j:=k+1) (by omega) (by omega),k8 h (by omega) e (j:=k) (by omega) (by omega)]⟩
   rw [← k9 h EK] at l1
   rw [← r7 h fun a ha=>(EK a ha).2] at l2
   rw [e1] at l1 l2 EK
   rw [e2]
   obtain ⟨a0,u0,F8⟩:=gn hne
   obtain ⟨u,a,hu⟩:=fC hne
   obtain ⟨l3,l5⟩:=cl.1 l1
   obtain ⟨l4,l6⟩:=cl.1 l3
   have Mu:LK g p (k+1) a0=gR (RK g p r (k+1)) 0 A:=by rw [F8] at l6;exact l6.1
   have HB:∀f,gR (RK g p r (k+1)) f (eY g p (aK p k))=RK g p r k (tQ g p (aK p k)):=fun f=>by
    rw [xp h hu,hu,di,(EK a (by rw [hu];simp)).2]
   have hlk:=zF (r:=r) h (k:=k) (by omega) (j:=k+1) (Nat.le_refl _) (by omega)
   have J1:=zG (r:=r) h (k:=k) (by omega) (j:=k+1) (Nat.le_refl _) (by omega) hO
   rw [if_neg h0] at hlk J1
   rw [tS h F8, ← (EK a0 (by rw [F8];simp)).1,Mu] at hlk
   refine ⟨?_, ?_⟩
   ·rw [cl,cl,cq,J1]
    rw [cq,HB] at l5
    exact ⟨⟨l4,hlk⟩,l5⟩
   ·rw [cq,cq,J1]
    rw [cq,cq,HB] at l2
    exact l2
theorem yz (hI:pe g=true) {r:Int} (hr:r<0∨cK p g.n.toNat≤r):(bg g p).er (LK g p g.n.toNat) (RK g p r g.n.toNat) 0 r (fun f=>(nP p g.n.toNat).getD f.toNat 0):=by
 have hm:=az h.1
 have hn:=aR hm
 have yc:∀ {x:Int} {l:List Int},(bg g p).outs x=l→l≠ []→∃k,k<g.n.toNat∧aK p k=x∧cQ p (aK p k)=l:=fun {x l} h1 h2=>by
  by_cases hx:jb g x
  ·obtain ⟨k,hk,rfl⟩:=fG h.2.1 hx.1 hx.2
   exact ⟨k,hk,rfl,by rw [← h1,dL hx]⟩
  ·rw [jF hx] at h1;exact absurd h1.symm h2
 have J2:∀ {x:Int} {l:List Int},(bg g p).ins x=l→l≠ []→∃k,k<g.n.toNat∧aK p k=x∧eY g p (aK p k)=l:=fun {x l} h1 h2=>by
  by_cases hx:jb g x
  ·obtain ⟨k,hk,rfl⟩:=fG h.2.1 hx.1 hx.2
   exact ⟨k,hk,rfl,by rw [← h1,eZ hx]⟩
  ·rw [iT hx] at h1;exact absurd h1.symm h2
 have h0:(bg g p).src=aK p 0:=rfl
 have Ij:∀k,0<cK p k:=fun k=>yx
 exact {
  ne:=by have:=Ij g.n.toNat;omega
  gQ:=fun {x u a b v} e=>by
   obtain ⟨k,hk,_,e2⟩:=yc e (by simp)
   rw [lI h hk e2 (by omega) (Nat.le_refl _),zC h hk (u:=u++ [a]) (v:=v) (e:=b) (by rw [e2];simp) (by simp) (by omega) (Nat.le_refl _)]
   simp;omega
  mj:=fun {x u a b v} e=>by
   obtain ⟨k,hk,_,e2⟩:=J2 e (by simp)
   have xQ:=C5 h hk (by rw [e2];simp)
   obtain ⟨A,C,e1,hne,_⟩:=zD h xQ hk
   have l1:=(C7 (r:=r) h hI (k:=k) (by omega) hk (by rw [e1];simp [hne])).1
   have EK:∀a∈WK g p k,LK g p g.n.toNat a=LK g p k a∧RK g p r g.n.toNat a=RK g p r k a:=fun a ha=>by
    obtain ⟨j,hj,e⟩:=zE h (by omega) ha
    exact ⟨by rw [kZ h (by omega) e (j:=g.n.toNat) (by omega) (by omega),kZ h (by omega) e (j:=k) (by omega) (by omega)],by rw [k8 h (by omega) e (j:=g.n.toNat) (by omega) (by omega),k8 h (by omega) e (j:=k) (by omega) (by omega)]⟩
   rw [← k9 h EK,e1,e2,show A++(u++a::b::v)++C=(A++u)++a::b::(v++C) by simp] at l1
   exact Cd l1
  fst:=fun {x a u b v} e1 e2=>by
   obtain ⟨k,hk,hx,e3⟩:=yc e2 (by simp)
   have e4:eY g p (aK p k)=a::u:=by
    have Dk:jb g x:=by rw [← hx];exact bn h.2.1 hk
    rw [hx, ← eZ Dk];exact e1
   have xQ:=C5 h hk (by rw [e4];simp)
   obtain ⟨j,hj,et⟩:=r6 h hk (a:=a) (by rw [e4];simp)
   rw [vh h hk e3 (by omega) (Nat.le_refl _),if_neg xQ,tS h e4,kZ h (by omega) et (j:=g.n.toNat) (by omega) (Nat.le_refl _),kZ h (by omega) et (j:=k) (by omega) (by omega)]
  Cb:=fun {x a u b v} e1 e2=>by
   obtain ⟨k,hk,hx,e3⟩:=yc e2 (by simp)
   have e4:eY g p (aK p k)=u++ [a]:=by
    have Dk:jb g x:=by rw [← hx];exact bn h.2.1 hk
    rw [hx, ← eZ Dk];exact e1
   have xQ:=C5 h hk (by rw [e4];simp)
   obtain ⟨j,hj,et⟩:=r6 h hk (a:=a) (by rw [e4];simp)
   rw [yy h hk e3 (by omega) (Nat.le_refl _),if_neg xQ,xp h e4,k8 h (by omega) et (j:=g.n.toNat) (by omega) (Nat.le_refl _),k8 h (by omega) et (j:=k) (by omega) (by omega)]
  s0:=fun {b v} e=>by
   obtain ⟨k,hk,hx,e3⟩:=yc e (by simp)
   have:k=0:=eL h.2.1 hk (by omega) hx
   rw [vh h hk e3 (by omega) (Nat.le_refl _),if_pos this]
  s1:=fun {b v} e=>by
   obtain ⟨k,hk,hx,e3⟩:=yc e (by simp)
   have:k=0:=eL h.2.1 hk (by omega) hx
   rw [yy h hk e3 (by omega) (Nat.le_refl _),if_pos this]
  new:=fun {x u a b v} e=>by
   obtain ⟨k,hk,hx,e3⟩:=yc e (by simp)
   have hR:=lI (r:=r) h hk e3 (j:=g.n.toNat) (by omega) (Nat.le_refl _)
   have hl:(cQ p (aK p k)).length=u.length+(v.length+2):=by rw [e3];simp
   have Di:cK p (k+1)=cK p k+((cQ p (aK p k)).length - 1):=rfl
   obtain ⟨d,hd⟩:=Nat.exists_eq_add_of_le (show k+1≤g.n.toNat by omega)
   have hmo:=p4 (p:=p) (k:=k+1) (d:=d)
   rw [← hd] at hmo
   have:=Ij k
   refine ⟨?_,by omega,by omega⟩
   show (nP p g.n.toNat).getD (RK g p r g.n.toNat a).toNat 0=x
   rw [hR,show ((cK p k:Int)+(u.length:Int)).toNat=cK p k+u.length by omega,hd,tR (by omega),C4 (by omega) (by omega),hx]
  new1:=fun {x u a b v u' a' b' v'} e1 e2 e3=>by
   obtain ⟨k,hk,hx,e4⟩:=yc e1 (by simp)
   have e5:cQ p (aK p k)=u'++a'::b'::v':=by
    have Dk:jb g x:=by rw [← hx];exact bn h.2.1 hk
    rw [hx, ← dL Dk];exact e2
   rw [lI h hk e4 (by omega) (Nat.le_refl _),lI h hk e5 (by omega) (Nat.le_refl _)] at e3
   have hl:u.length=u'.length:=by omega
   rw [e4] at e5
   have:=(List.append_inj e5 hl).2
   simp only [List.cons.injEq] at this
   exact this.1}
end
end Go.Ab
end
section
namespace Go.Ab
open Go.Proofs
set_option maxRecDepth 10000
set_option linter.unusedSectionVars false
section
variable {g:Gr} {p:Pl} (h:bK g p)
include h
theorem tT {f:Fr} (hi:sr g f) {A C:List Int} {x:Int} (hW:(fu f.row).map (·.1)=A++(bg g p).ins x++C) (hI:(bg g p).ins x≠ []) (Be:x∉f.pl):
 aq g f x=true∧jb g x∧bf g x≠0∧∃a X c,fu f.row=a++X++c∧a.map (·.1)=A∧X.map (·.1)=(bg g p).ins x∧c.map (·.1)=C∧eW x a∧eW x c∧rX x X∧X≠ []:=by
 have hm:=az h.1
 have hx:jb g x:=Decidable.byContradiction fun h0=>hI (iT h0)
 have cg:((fu f.row).map (·.1)).Nodup:=C3 hi
 rw [eZ hx] at hW hI ⊢
 obtain ⟨i1,i2⟩:=jG h hx
 rw [hW] at cg
 obtain ⟨l1,c,e1,e2,e3⟩:=List.map_eq_append_iff.1 hW
 obtain ⟨a,X,e4,e5,e6⟩:=List.map_eq_append_iff.1 e2
 have hrow:fu f.row=a++X++c:=by rw [e1,e4]
 have hit:∀t∈a++X++c,(0≤t.1∧t.1<g.es.length)∧t.2.1=sw g t.1∧t.2.2=Bh g t.1:=fun t ht=>nN hm hi.todJ (by rw [hrow];exact ht)
 have hX:rX x X:=fun t ht=>by
  have h1:t.1∈eY g p x:=by rw [← e6];exact List.mem_map_of_mem ht
  rw [(hit t (by simp [ht])).2.2,((i2 _).1 h1).2]
 have hin:∀t∈a++X++c,t.2.2=x→t.1∈eY g p x:=fun t ht e=>by
  obtain ⟨h1,_,h3⟩:=hit t ht
  exact (i2 _).2 ⟨h1,by rw [← h3,e]⟩
 have ha:eW x a:=fun t ht e=>by
  have h1:=hin t (by simp [ht]) e
  have h2:t.1∈A:=by rw [← e5];exact List.mem_map_of_mem ht
  exact (List.nodup_append.1 (List.nodup_append.1 cg).1).2.2 _ h2 _ h1 rfl
 have EJ:eW x c:=fun t ht e=>by
  have h1:=hin t (by simp [ht]) e
  have h2:t.1∈C:=by rw [← e3];exact List.mem_map_of_mem ht
  exact (List.nodup_append.1 cg).2.2 _ (List.mem_append.2 (.inr h1)) _ h2 rfl
 have Gc:X.length=bf g x:=by rw [← gE h hx, ← e6,List.length_map]
 have nX:X≠ []:=fun h0=>hI (by rw [← e6,h0];rfl)
 have hR:=xo hm hi.todJ hx.1 hx.2 Be hrow ha EJ hX nX Gc
 have hn:bf g x≠0:=fun h0=>nX (List.eq_nil_of_length_eq_zero (Gc.trans h0))
 exact ⟨hR,hx,hn,a,X,c,hrow,e5,e6,e3,ha,EJ,hX,nX⟩
theorem yA {f:Fr} (hi:sr g f) {k:Nat} (hc:lZ g p (k+1) f) (hlen:(f.pl.length:Int)+(k+1:Nat)=g.n) {A C:List Int} {x:Int} (hW:(fu f.row).map (·.1)=A++(bg g p).ins x++C) (hI:(bg g p).ins x≠ []) (Be:x∉f.pl) (hs:aK p 0∈f.pl)
 (hno:∀z,(bg g p).ins z≠ []→¬(bg g p).ins z<:+:A):cR g f false=x:=by
 have hm:=az h.1
 obtain ⟨hR,hx,hn,a,X,c,hrow,e5,e6,e3,ha,EJ,hX,nX⟩:=tT h hi hW hI Be
 unfold cR fP
 simp only [Bool.false_eq_true,if_false]
 cases hf:f.row.find? (fun t=>aq g f t.2.2) with
 |none=>
  exfalso
  obtain ⟨t,X',rfl⟩:∃t X',X=t::X':=by
   cases X with
   |nil=>exact absurd rfl nX
   |cons t X'=>exact ⟨t,X',rfl⟩
  have h1:t∈f.row:=(gr.1 (by rw [hrow];simp)).1
  have h2:=List.find?_eq_none.1 hf t h1
  rw [hX t (by simp)] at h2
  exact h2 hR
 |some t=>
  show t.2.2=x
  obtain ⟨ht,l,r,hlr,hl⟩:=List.find?_eq_some_iff_append.1 hf
  refine Decidable.byContradiction fun J3=> ?_
  have hz:=aB ht
  have J4:0≤t.1:=by
   have:=(hi.it t (by rw [hlr];simp)).head hm
   exact this.1.2 (by omega)
  have Mv:fu f.row=fu l++t::fu r:=by rw [hlr,j9];simp [fu,J4]
  have J5:∀s∈fu l,s.2.2≠x:=fun s hs e=>by
   have:=hl s (gr.1 hs).1
   rw [e,hR] at this;cases this
  have Mw:t∈a:=by
   have he:fu l++t::fu r=a++(X++c):=by rw [← Mv,hrow,List.append_assoc]
   rcases List.append_eq_append_iff.1 he with ⟨q,h1,h2⟩|⟨q,h1,h2⟩
   ·cases q with
    |nil=>
     exfalso
     cases X with
     |nil=>exact nX rfl
     |cons u X'=>
      have:t=u:=by simpa using (List.cons.inj h2).1
      exact J3 (this ▸ hX u (by simp))
    |cons u q=>
     have:t=u:=(List.cons.inj h2).1
     rw [h1,this];simp
   ·cases q with
    |nil=>
     exfalso
     cases X with
     |nil=>exact nX rfl
     |cons u X'=>
      have:u=t:=by simpa using (List.cons.inj h2).1
      exact J3 (this ▸ hX u (by simp))
    |cons u q=>
     exfalso
     cases X with
     |nil=>exact nX rfl
     |cons u' X'=>
      have:u'=u:=(List.cons.inj h2).1
      exact J5 u (by rw [h1];simp) (this ▸ hX u' (by simp))
  have hnz:bf g t.2.2≠0:=fun h0=>by
   have:=gX h.1 (x:=t.2.2) (y:=aK p 0) ⟨hz.1,hz.2.1⟩ (hi.CG _ hs) h0 (dZ h)
   exact hz.2.2 (this ▸ hs)
  obtain ⟨b,d,g1,g2,g3,g4,g5,_⟩:=pY hm hi.todJ ht hnz (cQ p t.2.2)
  have Bd:(fu (au g f t.2.2 (cQ p t.2.2)).1.1).map (·.1)=(bg g p).ins t.2.2:=by
   rw [eZ ⟨hz.1,hz.2.1⟩];exact (lH h.1 h.2.1 hi hlen hc ht).1
  generalize fu (au g f t.2.2 (cQ p t.2.2)).1.1=Y at g1 g4 g5 Bd
  have nY:Y≠ []:=fun h0=>hnz (by rw [← g5,h0];rfl)
  have Mx:Y<:+:a:=by
   have he:b++(Y++d)=a++(X++c):=by rw [← List.append_assoc, ← g1,hrow,List.append_assoc]
   rcases List.append_eq_append_iff.1 he with ⟨q,h1,h2⟩|⟨q,h1,h2⟩
   ·rcases List.append_eq_append_iff.1 h2 with ⟨q2,h3,h4⟩|⟨q2,h3,h4⟩
    ·exact ⟨b,q2,by rw [h1,h3,List.append_assoc]⟩
    ·cases q2 with
     |nil=>exact ⟨b, [],by rw [h1,h3];simp⟩
     |cons u q2=>
      exfalso
      cases X with
      |nil=>exact nX rfl
      |cons u' X'=>
       have e1:u'=u:=(List.cons.inj h4).1
       have h5:=g4 u (by rw [h3];simp)
       exact J3 (by rw [← h5, ← e1];exact hX u' (by simp))
   ·exfalso
    exact g2 t (by rw [h1];simp [Mw]) rfl
  refine hno t.2.2 (fun h0=>nY (by rw [← Bd] at h0;simpa using h0)) ?_
  rw [← Bd, ← e5]
  obtain ⟨u,v,huv⟩:=Mx
  exact ⟨u.map (·.1),v.map (·.1),by rw [← huv];simp⟩
theorem tU:∀ {k:Nat},k≤g.n.toNat→lZ g p (g.n.toNat - k) (aO g p false k)
 |0,_=>oN h (k:=0) (by omega)
 |k+1,hk=>by
  have ih:=tU (k:=k) (by omega)
  obtain ⟨h1,h2,_,_⟩:=eA h false (k:=k) (by omega)
  have hR:=(j7 h false (k:=k) (by omega)).1
  rw [show g.n.toNat - k=(g.n.toNat - (k+1))+1 by omega] at ih
  exact (lH h.1 h.2.1 h1 (by omega) ih hR).2
variable (hI:pe g=true)
include hI
theorem r8:∀ {j:Nat},j≤g.es.length→∃k,1≤k∧k≤g.n.toNat∧(aO g p false k).pl=((bg g p).st j).D∧(fu (aO g p false k).row).map (·.1)=((bg g p).st j).A++((bg g p).st j).B
 |0,_=>by
  have hm:=az h.1
  have hn:=aR hm
  have hq:=lG h false
  have h0:=bn h.2.1 (k:=0) (by omega)
  have Fk:=bn hq.2.1 (k:=0) (by omega)
  have he:aK (⟨eX g p false,p.outs⟩:Pl) 0=aK p 0:=gX h.1 Fk h0 (dZ hq) (dZ h)
  have hp:cR g (aO g p false 0) false=aK p 0:=by
   rw [← he]
   show _=(eX g p false).getD 0 0
   rw [eX,List.getD_eq_getElem?_getD,List.getElem?_map,List.getElem?_range (by omega)];rfl
  have hw:aO g p false 1=fK g p 1:=by
   show nK g p (aO g p false 0) (cR g (aO g p false 0) false)=_
   rw [hp];rfl
  refine ⟨1,by omega,by omega, ?_, ?_⟩
  ·rw [hw];rfl
  ·have:=C6 h (by omega)
   unfold WK at this
   rw [hw,this]
   show _= []++(bg g p).outs (aK p 0)
   rw [dL h0];rfl
 |j+1,hj=>by
  have hm:=az h.1
  obtain ⟨k,k1,k2,k3,k4⟩:=r8 (j:=j) (by omega)
  have hok:=pg h hI
  obtain ⟨B,hB,hc⟩:=iP hok (j:=j) (by show j<g.es.length;omega)
  rcases hc with ⟨A',h1,h2,h3⟩|⟨h1,h3⟩
  rotate_left
  ·refine ⟨k,k1,k2,by rw [h3];exact k3, ?_⟩
   rw [h3,k4,hB];simp
  obtain ⟨i1,i2,_,_⟩:=eA h false (k:=k) k2
  have hinv:=(bg g p).inv hok j (by show j≤g.es.length;omega)
  have hW:(fu (aO g p false k).row).map (·.1)=A'++(bg g p).ins ((bg g p).hd ((bg g p).sh j))++B:=by rw [k4,hB, ← h1];simp
  have Be:(bg g p).hd ((bg g p).sh j)∉(aO g p false k).pl:=by
   rw [k3]
   obtain ⟨r,hr⟩:=jT hok (j:=j) (by show j≤g.es.length;omega)
   exact ((hok.cZ hr ((bg g p).sh j)).1 (by rw [hB];simp)).2.2
  obtain ⟨hR,hx,hn,a,X,c,hrow,e5,e6,e3,ha,EJ,hX,nX⟩:=tT h i1 hW h2 Be
  have hkn:k<g.n.toNat:=by
   refine Decidable.byContradiction fun hge=>Be ?_
   exact fZ i1.todJ (by omega) hx
  have hcmp:=tU h (k:=k) k2
  rw [show g.n.toNat - k=(g.n.toNat - k - 1)+1 by omega] at hcmp
  have hsrc:aK p 0∈(aO g p false k).pl:=by
   rw [k3]
   obtain ⟨r,hr⟩:=jT hok (j:=j) (by show j≤g.es.length;omega)
   exact hok.ni hr
  have hpk:=yA h i1 hcmp (by omega) hW h2 Be hsrc fun z hz hA=>hinv.no z hz (by
   obtain ⟨u,w,My⟩:=hA
   rcases List.eq_nil_or_concat ((bg g p).ins ((bg g p).hd ((bg g p).sh j))) with g0|⟨I',b,g0⟩
   ·exact absurd g0 h2
   ·rw [g0,List.concat_eq_append, ← List.append_assoc] at h1
    have h5:=(List.append_inj' h1 rfl).1
    exact ⟨u,w++I',by rw [h5, ← My];simp⟩)
  have px:=bD h.2.1 hx.1 hx.2
  refine ⟨k+1,by omega,by omega, ?_, ?_⟩
  ·show (aO g p false k).pl++ [cR g (aO g p false k) false]=_
   rw [hpk,k3,h3]
  ·show (fu (au g (aO g p false k) (cR g (aO g p false k) false) (cQ p (cR g (aO g p false k) false))).2.row).map (·.1)=_
   rw [hpk,zw hm i1.todJ hR hn hrow ha EJ hX nX (cQ p _),h3,List.map_append,List.map_append,e5,e3,jE (fun i hi=>by
    have:=cE.1 (px.mem_iff.1 hi);exact this.1.1),List.map_map,dL hx]
   have e7:((fun t:It=>t.1) ∘ fq g ((bg g p).hd ((bg g p).sh j)))=id:=rfl
   rw [e7,List.map_id,List.append_assoc]
end
end Go.Ab
end
section
namespace Go.Ab
open Go.Proofs
attribute [local congr] ACall.congr
set_option maxRecDepth 10000
set_option maxHeartbeats 8000000
def zH (A o:List Int) (f:Nat→Int):Nat→List Int
 |0=>A
 |j+1=>(zH A o f j).set (o.getD j 0).toNat (f j)
def KO (A o:List Int) (left:Int) (c:Nat) (j:Nat):List Int:=zH A o (fun j=>if j=0 then left else (c:Int)+j - 1) j
def KP (A o:List Int) (right:Int) (c:Nat) (j:Nat):List Int:=zH A o (fun j=>if j+1<o.length then (c:Int)+j else right) j
def EL (c k:Nat):List Int:=(List.range k).map fun i:Nat=>((c+i:Nat):Int)
def Nn (left:Int) (c d j:Nat):Int:=if min j (d - 1)=0 then left else (c:Int)+(min j (d - 1):Nat) - 1
def No (ed gp:D) (A B lo hi:List Int):List (Nat × AObj):= [(10000, .box [.d ed, .d gp, .ref 10001, .ref 10002, .ref 10003, .ref 10004]),(10001, .own 3 1 (A.map rI)),(10002, .own 3 1 (B.map rI)),(10003, .tip 3 1 (lo.map rI)),(10004, .own 3 1 (hi.map rI))]
def Np (ed gp:D) (A B lo hi:List Int):List (Nat × AObj):= [(10000, .box [.d ed, .d gp, .ref 10001, .ref 10002, .ref 10005, .ref 10006]),(10001, .own 3 1 (A.map rI)),(10002, .own 3 1 (B.map rI)),(10005, .tip 3 1 (lo.map rI)),(10006, .own 3 1 (hi.map rI))]
end Go.Ab
end
section
namespace Go.Ab
open Go.Proofs
attribute [local congr] ACall.congr
set_option maxRecDepth 10000
set_option maxHeartbeats 8000000
def HS (A fs:List Int) (x:Int) (j:Nat):List Int:=zH A fs (fun _=>x) j
end Go.Ab
end
section
namespace Go.Ab
open Go.Proofs
set_option maxRecDepth 10000
set_option linter.unusedSectionVars false
def arr (f:Int→Int) (m:Nat):List Int:=(List.range m).map fun i:Nat=>f (i:Int)
section
variable {g:Gr} {p:Pl} (h:bK g p)
include h
theorem Ee {k:Nat} (hk:k<g.n.toNat) {e:Int} (he:e∈cQ p (aK p k)):(0≤e∧e<g.es.length)∧sw g e=aK p k:=by
 have hx:=bn h.2.1 hk
 exact cE.1 ((bD h.2.1 hx.1 hx.2).mem_iff.1 he)
end
section
variable (g:Gr) (p:Pl)
def yB:Nat→List Int
 |0=>cQ p (aK p 0)
 |j+1=>if cQ p (aK p (j+1))= [] then yB j else (yB j).take (eO (yB j) (nO g p (aK p (j+1)))).toNat++cQ p (aK p (j+1))++(yB j).drop ((eO (yB j) (nO g p (aK p (j+1)))).toNat+(eY g p (aK p (j+1))).length)
def HT:Nat→List Int
 |0=> [0]++EL 1 ((cQ p (aK p 0)).length - 1)++ [-1]
 |j+1=>(HT j).take ((eO (yB g p j) (nO g p (aK p (j+1)))).toNat+1)++EL (cK p (j+1)) ((cQ p (aK p (j+1))).length - 1)++(HT j).drop ((eO (yB g p j) (nO g p (aK p (j+1)))).toNat+(eY g p (aK p (j+1))).length)
def HU (k:Nat):List Int:=((eY g p (aK p k)).dropLast).map (RK g p (-1) k)
def J6:Nat→List Int
 |0=> [aK p (g.n.toNat - 1)]
 |k+1=>HS (J6 k) (HU g p k) (aK p k) (HU g p k).length++List.replicate ((cQ p (aK p k)).length - 1) 0
end
section
variable {g:Gr} {p:Pl}
variable (h:bK g p)
include h
end
end Go.Ab
end
section
namespace Go.Ab
open Go.Proofs
attribute [local congr] ACall.congr
set_option maxRecDepth 10000
set_option maxHeartbeats 8000000
def swapT (l:List It) (k:Nat):List It:=(List.range l.length).map fun p=>if p<k∨l.length - 1<p+k then l.getD (l.length - 1 - p) (0,0,0) else l.getD p (0,0,0)
theorem bX {l:List It} {k:Nat} :(swapT l k).length=l.length:=by simp [swapT]
theorem jI {l:List It} {k p:Nat} (h:p<l.length):(swapT l k)[p]? =some (if p<k∨l.length - 1<p+k then l.getD (l.length - 1 - p) (0,0,0) else l.getD p (0,0,0)):=by
 simp [swapT,List.getElem?_range h]
theorem r9 {l:List It} {k p:Nat} (h:p<l.length) (d:It):(swapT l k).getD p d=if p<k∨l.length - 1<p+k then l.getD (l.length - 1 - p) (0,0,0) else l.getD p (0,0,0):=by
 rw [List.getD_eq_getElem?_getD,jI h];rfl
theorem yC {l:List It} :swapT l 0=l:=by
 refine List.ext_getElem? fun i=> ?_
 by_cases hi:i<l.length
 ·rw [jI hi,if_neg (by omega),List.getD_eq_getElem?_getD,List.getElem?_eq_getElem hi];rfl
 ·rw [List.getElem?_eq_none (by rw [bX];omega),List.getElem?_eq_none (by omega)]
theorem AT {l:List It} {k:Nat} (h:l.length≤2*k+1):swapT l k=l.reverse:=by
 refine List.ext_getElem? fun i=> ?_
 by_cases hi:i<l.length
 ·rw [jI hi,List.getElem?_reverse hi]
  split
  ·rw [List.getD_eq_getElem?_getD,List.getElem?_eq_getElem (by omega)];rfl
  ·have:i=l.length - 1 - i:=by omega
   rw [← this,List.getD_eq_getElem?_getD,List.getElem?_eq_getElem hi];rfl
 ·rw [List.getElem?_eq_none (by rw [bX];omega),List.getElem?_eq_none (by rw [List.length_reverse];omega)]
theorem yD {l:List It} {k:Nat} (h:k<l.length - 1 - k):((swapT l k).set k ((swapT l k).getD (l.length - 1 - k) (0,0,0))).set (l.length - 1 - k) ((swapT l k).getD k (0,0,0))=swapT l (k+1):=by
 refine List.ext_getElem? fun i=> ?_
 rw [List.getElem?_set,List.length_set,bX,List.getElem?_set,bX]
 by_cases hi:i<l.length
 ·rw [jI hi,jI hi,r9 (by omega),r9 (by omega)]
  by_cases h1:l.length - 1 - k=i
  ·rw [if_pos h1,if_pos (by omega),if_neg (by omega),if_pos (by omega)]
   congr 2;omega
  ·rw [if_neg h1]
   by_cases h2:k=i
   ·rw [if_pos h2,if_pos (by omega),if_neg (by omega),if_pos (by omega)]
    congr 2;omega
   ·rw [if_neg h2]
    congr 1
    by_cases h3:i<k∨l.length - 1<i+k
    ·rw [if_pos h3,if_pos (by omega)]
    ·rw [if_neg h3,if_neg (by omega)]
 ·rw [List.getElem?_eq_none (by rw [bX];omega),List.getElem?_eq_none (by rw [bX];omega),if_neg (by omega),if_neg (by omega)]
theorem vi (l:List It) (k:Nat) (t:It):(l.map rT).set k [.sc (.int .i64 t.1), .sc (.int .i64 t.2.1), .sc (.int .i64 t.2.2)]=(l.set k t).map rT:=by
 rw [List.map_set];rfl
theorem sO (l:List It) (hl:l.length≤1000000):Spec Tryz.prog 63 (Args [.ref 10000]) [(10000, .own 100 3 (l.map rT))] (.tup []) [(10000, .own 100 3 (l.reverse.map rT))]:=by
 (refine Spec.intro (C:=T.cfg [] []) (rs:= []) (T.ai _ _) Tryz.func63 rfl rfl Tryz.ntmps63 Tryz.results63 (by simp [AObj.isNest]) (by simp [AObj.isNest]) (by kernel_rfl) ?_;intro X hX hP hC aH aI vals hA;refine ⟨_,by simp,hA, ?_⟩;have af:X.P.follows .mixedOrders=true:=(by rw [hP];exact T.mixed);clear aH aI)
 repeat' (first|((first|((with_reducible (first|apply oA|apply oB));exact rfl;intro K hK)|(refine hK _ ?_;clear hK K)|((with_reducible (first|apply oG|apply oH));iterate 3 exact rfl)|((with_reducible apply oI);(iterate 2 exact rfl);intro K hK)|(with_reducible (first|apply wI|apply wJ|apply wK)));try simp only [go_sem,simprocAttr])|(with_reducible (first|apply oC|apply oJ|exact oK|apply wA|apply wB|apply wC hX hC|apply wD hX hC|apply wE hX hC af|apply wF hX hC af|apply wG|apply wH|apply And.intro))|((with_reducible refine oD ?_ ?_);kernel_rfl)|((with_reducible (first|apply oE|apply oF));(iterate 3 exact rfl);all_goals (intro h;first|(exact absurd h (by decide))|((try simp only [go_sem,simprocAttr] at h);(try with_reducible intro K hK);simp only [go_sem,simprocAttr])))|((first|((with_reducible apply wL);exact rfl)|((with_reducible apply wM);exact rfl));all_goals (try ((with_reducible intro h);first|(exact absurd h (by decide))|(try simp only [go_sem,simprocAttr] at h))))|omega|(intro h))
 refine aj (fun k:Nat=>2*k≤l.length+1) (fun k=>⟨[(0, .ref 10000),(2,eN k),(3,eN ((l.length:Int) - 1 - k))], [(10000, .own 100 3 ((swapT l k).map rT))]⟩) (fun k=>l.length+1 - k) 0 (by omega) ?_ ?_
 ·refine Le.of ?_ ?_<;>simp [go_sem,simprocAttr,yC]
 rintro k hk
 rcases Nat.lt_or_ge (2*k+1) l.length with hlt|hge
 ·have hb:decide ((k:Int)<(l.length:Int) - 1 - (k:Int))=true:=decide_eq_true (by omega)
  have ht:((l.length:Int) - 1 - (k:Int)).toNat=l.length - 1 - k:=by omega
  repeat' (first|((first|((with_reducible (first|apply oA|apply oB));exact rfl;intro K hK)|(refine hK _ ?_;clear hK K)|((with_reducible (first|apply oG|apply oH));iterate 3 exact rfl)|((with_reducible apply oI);(iterate 2 exact rfl);intro K hK)|(with_reducible (first|apply wI|apply wJ|apply wK)));try simp only [go_sem,simprocAttr,hb,ht,bX,vi,List.length_cons,List.length_nil,List.drop_succ_cons,List.drop_zero,List.drop_nil])|(with_reducible (first|apply oC|apply oJ|exact oK|apply wA|apply wB|apply wC hX hC|apply wD hX hC|apply wE hX hC af|apply wF hX hC af|apply wG|apply wH|apply And.intro))|((with_reducible refine oD ?_ ?_);kernel_rfl)|((with_reducible (first|apply oE|apply oF));(iterate 3 exact rfl);all_goals (intro h;first|(exact absurd h (by decide))|((try simp only [go_sem,simprocAttr,hb,ht,bX,vi,List.length_cons,List.length_nil,List.drop_succ_cons,List.drop_zero,List.drop_nil] at h);(try with_reducible intro K hK);simp only [go_sem,simprocAttr,hb,ht,bX,vi,List.length_cons,List.length_nil,List.drop_succ_cons,List.drop_zero,List.drop_nil])))|((first|((with_reducible apply wL);exact rfl)|((with_reducible apply wM);exact rfl));all_goals (try ((with_reducible intro h);first|(exact absurd h (by decide))|(try simp only [go_sem,simprocAttr,hb,ht,bX,vi,List.length_cons,List.length_nil,List.drop_succ_cons,List.drop_zero,List.drop_nil] at h))))|omega|(intro h))
  refine ⟨k+1,by omega, ?_,by omega⟩
  refine Le.of ?_ ?_<;>simp [go_sem,simprocAttr]
  ·omega
  ·rw [← yD (by omega),List.map_set,List.map_set]
   simp only [List.getD_eq_getElem?_getD]
   rfl
 ·have hb:decide ((k:Int)<(l.length:Int) - 1 - (k:Int))=false:=decide_eq_false (by omega)
  repeat' (first|((first|((with_reducible (first|apply oA|apply oB));exact rfl;intro K hK)|(refine hK _ ?_;clear hK K)|((with_reducible (first|apply oG|apply oH));iterate 3 exact rfl)|((with_reducible apply oI);(iterate 2 exact rfl);intro K hK)|(with_reducible (first|apply wI|apply wJ|apply wK)));try simp only [go_sem,simprocAttr,hb])|(with_reducible (first|apply oC|apply oJ|exact oK|apply wA|apply wB|apply wC hX hC|apply wD hX hC|apply wE hX hC af|apply wF hX hC af|apply wG|apply wH|apply And.intro))|((with_reducible refine oD ?_ ?_);kernel_rfl)|((with_reducible (first|apply oE|apply oF));(iterate 3 exact rfl);all_goals (intro h;first|(exact absurd h (by decide))|((try simp only [go_sem,simprocAttr,hb] at h);(try with_reducible intro K hK);simp only [go_sem,simprocAttr,hb])))|((first|((with_reducible apply wL);exact rfl)|((with_reducible apply wM);exact rfl));all_goals (try ((with_reducible intro h);first|(exact absurd h (by decide))|(try simp only [go_sem,simprocAttr,hb] at h))))|omega|(intro h))
  simp only [go_sem,simprocAttr,hb,AT hge]
theorem xq (ps:List It) (hl:ps.length≤1000000):
 Spec Tryz.prog 127 (Args [.d (sT ps)]) [] (.ref 10000) [(10000, .own 100 3 (ps.map rT))]:=by
 (refine Spec.dO (C:=T.cfg [5,7] []) (rs:= [.t 2]) [(10000,7)] (T.ai _ _) Tryz.func127 rfl rfl Tryz.ntmps127 Tryz.results127 (by simp [AObj.isNest]) (by simp [AObj.isNest]) (by first|(simp [look];done)|(simp [asN];done)|(intro l hl;simp only [asN];repeat (rw [if_neg (fun e=>by subst e;simp [look] at hl)]))) (by first|(simp [look];done)|(simp [asN];done)|(intro l hl;simp only [asN];repeat (rw [if_neg (fun e=>by subst e;simp [look] at hl)]))) (by kernel_rfl) ?_;intro X hX hP hC aH aI vals hA;refine ⟨_,by simp,hA, ?_⟩;have af:X.P.follows .mixedOrders=true:=(by rw [hP];exact T.mixed);clear aH aI)
 repeat' (first|(show dH _ .ret _ _;(try simp only [go_sem,simprocAttr]);refine gm hX 2 7 (.own 100 3 []) ?_ ?_ (by decide) ⟨100,3,by decide, .inl rfl⟩ ?_;(iterate 2 (focus (simp only [go_sem,simprocAttr];done)));simp only [go_sem,simprocAttr])|((first|((with_reducible (first|apply oA|apply oB));exact rfl;intro K hK)|(refine hK _ ?_;clear hK K)|((with_reducible (first|apply oG|apply oH));iterate 3 exact rfl)|((with_reducible apply oI);(iterate 2 exact rfl);intro K hK)|(with_reducible (first|apply wI|apply wJ|apply wK)));try simp only [go_sem,simprocAttr])|(with_reducible (first|apply oC|apply oJ|exact oK|apply wA|apply wB|apply wC hX hC|apply wD hX hC|apply wE hX hC af|apply wF hX hC af|apply wG|apply wH|apply And.intro))|((with_reducible refine oD ?_ ?_);kernel_rfl)|((with_reducible (first|apply oE|apply oF));(iterate 3 exact rfl);all_goals (intro h;first|(exact absurd h (by decide))|((try simp only [go_sem,simprocAttr] at h);(try with_reducible intro K hK);simp only [go_sem,simprocAttr])))|((first|((with_reducible apply wL);exact rfl)|((with_reducible apply wM);exact rfl));all_goals (try ((with_reducible intro h);first|(exact absurd h (by decide))|(try simp only [go_sem,simprocAttr] at h))))|omega|(intro h))
 exact h.symm
theorem AU (ds:List D) (row:List It) (hr:row.length≤1000000):Spec Tryz.prog 84 (Args [.d (.pt (sT row::ds))]) [] (.ref 10000) [(10000, .own 100 3 (row.map rT))]:=by
 (refine Spec.dO (C:=T.cfg [] []) (rs:= [.t 2]) [(10000,7)] (T.ai _ _) Tryz.func84 rfl rfl Tryz.ntmps84 Tryz.results84 (by simp [AObj.isNest]) (by simp [AObj.isNest]) (by first|(simp [look];done)|(simp [asN];done)|(intro l hl;simp only [asN];repeat (rw [if_neg (fun e=>by subst e;simp [look] at hl)]))) (by first|(simp [look];done)|(simp [asN];done)|(intro l hl;simp only [asN];repeat (rw [if_neg (fun e=>by subst e;simp [look] at hl)]))) (by kernel_rfl) ?_;intro X hX hP hC aH aI vals hA;refine ⟨_,by simp,hA, ?_⟩;have af:X.P.follows .mixedOrders=true:=(by rw [hP];exact T.mixed);clear aH aI)
 repeat' (first|((first|((with_reducible (first|apply oA|apply oB));exact rfl;intro K hK)|(refine hK _ ?_;clear hK K)|((with_reducible (first|apply oG|apply oH));iterate 3 exact rfl)|((with_reducible apply oI);(iterate 2 exact rfl);intro K hK)|(with_reducible (first|apply wI|apply wJ|apply wK)));try simp only [go_sem,simprocAttr])|(with_reducible (first|apply oC|apply oJ|exact oK|apply wA|apply wB|apply wC hX hC|apply wD hX hC|apply wE hX hC af|apply wF hX hC af|apply wG|apply wH|apply And.intro))|((with_reducible refine oD ?_ ?_);kernel_rfl)|((with_reducible (first|apply oE|apply oF));(iterate 3 exact rfl);all_goals (intro h;first|(exact absurd h (by decide))|((try simp only [go_sem,simprocAttr] at h);(try with_reducible intro K hK);simp only [go_sem,simprocAttr])))|((first|((with_reducible apply wL);exact rfl)|((with_reducible apply wM);exact rfl));all_goals (try ((with_reducible intro h);first|(exact absurd h (by decide))|(try simp only [go_sem,simprocAttr] at h))))|omega|((first|(refine aA hX hC hP [(10000,7)] (xq row hr) rfl rfl rfl ?_ ?_ ?_ ?_ ?_ ?_ ?_ ?_ ?_ ?_ ?_ ?_ ?_ ?_;(focus (simp only [go_sem,simprocAttr];done));(iterate 12 (focus (simp [go_sem,simprocAttr];done)));simp only [go_sem,simprocAttr,List.map_cons,List.map_nil]));try simp only [go_sem,simprocAttr])|(intro h))
def tV (rs:List Int) (l:List It):Int:=match l.find? (fun t=>decide (t.2.2∈rs)) with
 |some t=>t.2.2
 |none=>rs.headD (-1)
theorem AW (rs:List Int) (l:List It) (hr:rs≠ []) (hrl:rs.length≤1000000) (hl:l.length≤1000000):Spec Tryz.prog 112 (Args [.d (sI rs), .d (sT l)]) [] (eN (tV rs l)) []:=by
 generalize hH:tV rs l=H
 (refine Spec.intro (C:=T.cfg [] []) (rs:= [.t 4]) (T.ai _ _) Tryz.func112 rfl rfl Tryz.ntmps112 Tryz.results112 (by simp [AObj.isNest]) (by simp [AObj.isNest]) (by kernel_rfl) ?_;intro X hX hP hC aH aI vals hA;refine ⟨_,by simp,hA, ?_⟩;have af:X.P.follows .mixedOrders=true:=(by rw [hP];exact T.mixed);clear aH aI)
 repeat' (first|((first|((with_reducible (first|apply oA|apply oB));exact rfl;intro K hK)|(refine hK _ ?_;clear hK K)|((with_reducible (first|apply oG|apply oH));iterate 3 exact rfl)|((with_reducible apply oI);(iterate 2 exact rfl);intro K hK)|(with_reducible (first|apply wI|apply wJ|apply wK)));try simp only [go_sem,simprocAttr])|(with_reducible (first|apply oC|apply oJ|exact oK|apply wA|apply wB|apply wC hX hC|apply wD hX hC|apply wE hX hC af|apply wF hX hC af|apply wG|apply wH|apply And.intro))|((with_reducible refine oD ?_ ?_);kernel_rfl)|((with_reducible (first|apply oE|apply oF));(iterate 3 exact rfl);all_goals (intro h;first|(exact absurd h (by decide))|((try simp only [go_sem,simprocAttr] at h);(try with_reducible intro K hK);simp only [go_sem,simprocAttr])))|((first|((with_reducible apply wL);exact rfl)|((with_reducible apply wM);exact rfl));all_goals (try ((with_reducible intro h);first|(exact absurd h (by decide))|(try simp only [go_sem,simprocAttr] at h))))|omega|(intro h))
 refine aj (fun k:Nat=>k≤l.length∧∀j,j<k→(l.getD j (0,0,0)).2.2∉rs) (fun k=>⟨[(0, .d (sI rs)),(7, .d (sT l)),(8,eN l.length),(9,eN k)], []⟩) (fun k=>l.length - k) 0 (by simp) ?_ ?_
 ·(refine Le.of ?_ ?_<;>simp [go_sem,simprocAttr])
 rintro k ⟨hk,hg⟩
 rcases Nat.lt_or_ge k l.length with cn|Eu
 ·have hb:decide ((k:Int)<(l.length:Int))=true:=decide_eq_true (by omega)
  by_cases h1:(l.getD k (0,0,0)).2.2∈rs
  ·have ak:decide ((l.getD k (0,0,0)).2.2∈rs)=true:=decide_eq_true h1
   have:(l.getD k (0,0,0)).2.2=H:=by
    rw [← hH];unfold tV
    have:l.find? (fun t=>decide (t.2.2∈rs))=some (l.getD k (0,0,0)):=by
     rw [List.find?_eq_some_iff_getElem]
     refine ⟨ak,k,cn,by rw [List.getD_eq_getElem?_getD,List.getElem?_eq_getElem cn];rfl,fun j hj=> ?_⟩
     have:=hg j hj
     rw [List.getD_eq_getElem?_getD,List.getElem?_eq_getElem (by omega)] at this
     simpa using this
    rw [this]
   have an:decide (H∈rs)=true:=by rw [← this];exact ak
   repeat' (first|((first|((with_reducible (first|apply oA|apply oB));exact rfl;intro K hK)|(refine hK _ ?_;clear hK K)|((with_reducible (first|apply oG|apply oH));iterate 3 exact rfl)|((with_reducible apply oI);(iterate 2 exact rfl);intro K hK)|(with_reducible (first|apply wI|apply wJ|apply wK)));try simp only [go_sem,simprocAttr,hb,an,this])|(with_reducible (first|apply oC|apply oJ|exact oK|apply wA|apply wB|apply wC hX hC|apply wD hX hC|apply wE hX hC af|apply wF hX hC af|apply wG|apply wH|apply And.intro))|((with_reducible refine oD ?_ ?_);kernel_rfl)|((with_reducible (first|apply oE|apply oF));(iterate 3 exact rfl);all_goals (intro h;first|(exact absurd h (by decide))|((try simp only [go_sem,simprocAttr,hb,an,this] at h);(try with_reducible intro K hK);simp only [go_sem,simprocAttr,hb,an,this])))|((first|((with_reducible apply wL);exact rfl)|((with_reducible apply wM);exact rfl));all_goals (try ((with_reducible intro h);first|(exact absurd h (by decide))|(try simp only [go_sem,simprocAttr,hb,an,this] at h))))|omega|((first|refine aa hX hC hP (aX rs H (by omega)) rfl rfl rfl (by simp only [go_sem,simprocAttr,hb,an,this]) rfl ?_);try simp only [go_sem,simprocAttr,hb,an,this])|(intro h))
  ·have ak:decide ((l.getD k (0,0,0)).2.2∈rs)=false:=decide_eq_false h1
   repeat' (first|((first|((with_reducible (first|apply oA|apply oB));exact rfl;intro K hK)|(refine hK _ ?_;clear hK K)|((with_reducible (first|apply oG|apply oH));iterate 3 exact rfl)|((with_reducible apply oI);(iterate 2 exact rfl);intro K hK)|(with_reducible (first|apply wI|apply wJ|apply wK)));try simp only [go_sem,simprocAttr,hb,ak])|(with_reducible (first|apply oC|apply oJ|exact oK|apply wA|apply wB|apply wC hX hC|apply wD hX hC|apply wE hX hC af|apply wF hX hC af|apply wG|apply wH|apply And.intro))|((with_reducible refine oD ?_ ?_);kernel_rfl)|((with_reducible (first|apply oE|apply oF));(iterate 3 exact rfl);all_goals (intro h;first|(exact absurd h (by decide))|((try simp only [go_sem,simprocAttr,hb,ak] at h);(try with_reducible intro K hK);simp only [go_sem,simprocAttr,hb,ak])))|((first|((with_reducible apply wL);exact rfl)|((with_reducible apply wM);exact rfl));all_goals (try ((with_reducible intro h);first|(exact absurd h (by decide))|(try simp only [go_sem,simprocAttr,hb,ak] at h))))|omega|((first|refine aa hX hC hP (aX rs (l.getD k (0,0,0)).2.2 (by omega)) rfl rfl rfl (by simp only [go_sem,simprocAttr,hb,ak]) rfl ?_);try simp only [go_sem,simprocAttr,hb,ak])|(intro h))
   refine ⟨k+1,⟨by omega,fun j hj=> ?_⟩, ?_,by omega⟩
   ·by_cases e:j=k
    ·subst e;exact h1
    ·exact hg j (by omega)
   ·(refine Le.of ?_ ?_<;>simp [go_sem,simprocAttr,hb,ak])
 ·have hb:decide ((k:Int)<(l.length:Int))=false:=decide_eq_false (by omega)
  have hpos:=List.length_pos_iff.2 hr
  have:rs.getD 0 0=H:=by
   rw [← hH];unfold tV
   have:l.find? (fun t=>decide (t.2.2∈rs))=none:=by
    rw [List.find?_eq_none]
    intro t ht
    obtain ⟨j,hj,rfl⟩:=List.mem_iff_getElem.1 ht
    have:=hg j (by omega)
    rw [List.getD_eq_getElem?_getD,List.getElem?_eq_getElem hj] at this
    simpa using this
   rw [this]
   match rs,hr with
   |a::_,_=>rfl
  repeat' (first|((first|((with_reducible (first|apply oA|apply oB));exact rfl;intro K hK)|(refine hK _ ?_;clear hK K)|((with_reducible (first|apply oG|apply oH));iterate 3 exact rfl)|((with_reducible apply oI);(iterate 2 exact rfl);intro K hK)|(with_reducible (first|apply wI|apply wJ|apply wK)));try simp only [go_sem,simprocAttr,hb,this])|(with_reducible (first|apply oC|apply oJ|exact oK|apply wA|apply wB|apply wC hX hC|apply wD hX hC|apply wE hX hC af|apply wF hX hC af|apply wG|apply wH|apply And.intro))|((with_reducible refine oD ?_ ?_);kernel_rfl)|((with_reducible (first|apply oE|apply oF));(iterate 3 exact rfl);all_goals (intro h;first|(exact absurd h (by decide))|((try simp only [go_sem,simprocAttr,hb,this] at h);(try with_reducible intro K hK);simp only [go_sem,simprocAttr,hb,this])))|((first|((with_reducible apply wL);exact rfl)|((with_reducible apply wM);exact rfl));all_goals (try ((with_reducible intro h);first|(exact absurd h (by decide))|(try simp only [go_sem,simprocAttr,hb,this] at h))))|omega|(intro h))
end Go.Ab
end
