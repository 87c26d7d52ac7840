/- A part of the proof. -/
import Derived.Test.YtjmaiddbinlooaaGreatL8P14
set_option linter.unusedSimpArgs false
set_option linter.unusedVariables false
section
namespace Go.Ab
open Go.Proofs
attribute [local congr] ACall.congr
set_option maxRecDepth 10000
set_option maxHeartbeats 8000000
def bU (b:Bool) (g:Gr) (p:Pl):(List (List It) × List It) × Int × Int:=
 if b=false then (([], []),(1,0)) else
 match jo g p g.n.toNat with
 |some i=>(([], []),(3,(i:Int)))
 |none=>((eu g p g.n.toNat,(fK g p g.n.toNat).row),(0,0))
theorem Er {n:Nat} :List.replicate n [D.sl 3 []]=vT (List.replicate n []):=by simp [vT,sT]
theorem Es {ls:List (List It)} {k:Nat} {l:List It} :(vT ls).set k [sT l]=vT (ls.set k l):=by simp [vT,List.map_set]
theorem u6 {g:Gr} {p:Pl} {k:Nat} :eu g p (k+1)=(eu g p k).set (aq p k).toNat (fN g p k):=rfl
theorem yG (g:Gr) (hl:g.es.length≤9223372036854775807) (p:Pl) (hp:pg p) (b:Bool) (hr:b=true↔(bJ g).1=0∧bw g p):
 Spec Tryz.prog 88 (Args [eG g,ePl p]) [] (.tup [.d (.sl 1 (vT (bU b g p).1.1)), .d (sT (bU b g p).1.2),eN (bU b g p).2.1,eN (bU b g p).2.2]) []:=by
 have hO:=Ep g hl p hp b hr
 cases b with
 |false=>
  have hR:bU false g p=(([], []),(1,0)):=rfl
  rw [hR]
  (refine Spec.intro (C:=T.cfg [] []) (rs:= [.t 4, .t 5, .t 6, .t 7]) (T.aj _ _) Tryz.func88 rfl rfl Tryz.ntmps88 Tryz.results88 (by simp [AObj.isNest]) (by simp [AObj.isNest]) (by kernel_rfl) ?_;intro X hX hP hC aD aF vals hA;refine ⟨_,by simp,hA, ?_⟩;have af:X.P.follows .mixedOrders=true:=(by rw [hP];exact T.mixed);clear aD aF)
  repeat' (first|((first|((with_reducible (first|apply oA|apply oB));exact rfl;intro K hK)|(refine hK _ ?_;clear hK K)|((with_reducible (first|apply oG|apply oH));iterate 3 exact rfl)|((with_reducible apply oI);(iterate 2 exact rfl);intro K hK)|(with_reducible (first|apply wI|apply wJ|apply wK)));try simp only [go_sem,simprocAttr,vT,List.map_nil])|(with_reducible (first|apply oC|apply oJ|exact oK|apply wA|apply wB|apply wC hX hC|apply wD hX hC|apply wE hX hC af|apply wF hX hC af|apply wG|apply wH|apply And.intro))|((with_reducible refine oD ?_ ?_);kernel_rfl)|((with_reducible (first|apply oE|apply oF));(iterate 3 exact rfl);all_goals (intro h;first|(exact absurd h (by decide))|((try simp only [go_sem,simprocAttr,vT,List.map_nil] at h);(try with_reducible intro K hK);simp only [go_sem,simprocAttr,vT,List.map_nil])))|((first|((with_reducible apply wL);exact rfl)|((with_reducible apply wM);exact rfl));all_goals (try ((with_reducible intro h);first|(exact absurd h (by decide))|(try simp only [go_sem,simprocAttr,vT,List.map_nil] at h))))|omega|((first|refine aa hX hC hP (hO) rfl rfl rfl (by simp only [go_sem,simprocAttr,vT,List.map_nil]) rfl ?_);try simp only [go_sem,simprocAttr,vT,List.map_nil])|(intro h))
 |true=>
 obtain ⟨hc,Ck⟩:=hr.1 rfl
 have hm:=aA hc
 have hn:=aT hm
 have hle:=bK Ck
 have hR:bU true g p=match jo g p g.n.toNat with
  |some i=>(([], []),(3,(i:Int)))
  |none=>((eu g p g.n.toNat,(fK g p g.n.toNat).row),(0,0)):=rfl
 generalize bU true g p=R at hR
 (refine Spec.intro (C:=T.cfg [] []) (rs:= [.t 4, .t 5, .t 6, .t 7]) (T.aj _ _) Tryz.func88 rfl rfl Tryz.ntmps88 Tryz.results88 (by simp [AObj.isNest]) (by simp [AObj.isNest]) (by kernel_rfl) ?_;intro X hX hP hC aD aF vals hA;refine ⟨_,by simp,hA, ?_⟩;have af:X.P.follows .mixedOrders=true:=(by rw [hP];exact T.mixed);clear aD aF)
 repeat' (first|((first|((with_reducible (first|apply oA|apply oB));exact rfl;intro K hK)|(refine hK _ ?_;clear hK K)|((with_reducible (first|apply oG|apply oH));iterate 3 exact rfl)|((with_reducible apply oI);(iterate 2 exact rfl);intro K hK)|(with_reducible (first|apply wI|apply wJ|apply wK)));try simp only [go_sem,simprocAttr])|(show dz _ (.seq (.region 4 _ _) _) _ _;(refine oP 20 2 3 rfl rfl rfl ?_;simp only [LA.app,ASt.put,ASt.kill,putM,rml,List.set_cons_zero,List.set_cons_succ,go_sem,simprocAttr]);(refine oP 20 3 1 rfl rfl rfl ?_;simp only [LA.app,ASt.put,ASt.kill,putM,rml,List.set_cons_zero,List.set_cons_succ,go_sem,simprocAttr]))|(with_reducible (first|apply oC|apply oJ|exact oK|apply wA|apply wB|apply wC hX hC|apply wD hX hC|apply wE hX hC af|apply wF hX hC af|apply wG|apply wH|apply And.intro))|((with_reducible refine oD ?_ ?_);kernel_rfl)|((with_reducible (first|apply oE|apply oF));(iterate 3 exact rfl);all_goals (intro h;first|(exact absurd h (by decide))|((try simp only [go_sem,simprocAttr] at h);(try with_reducible intro K hK);simp only [go_sem,simprocAttr])))|((first|((with_reducible apply wL);exact rfl)|((with_reducible apply wM);exact rfl));all_goals (try ((with_reducible intro h);first|(exact absurd h (by decide))|(try simp only [go_sem,simprocAttr] at h))))|omega|((first|refine aa hX hC hP (hO) rfl rfl rfl (by simp only [go_sem,simprocAttr]) rfl ?_);try simp only [go_sem,simprocAttr])|(intro h))
 rw [Er]
 refine ah (fun k:Nat=>k≤g.n.toNat∧∀j,j<k→uX g p j=true) (fun k=>⟨[(2, .ptr 2 0),(3, .ptr 3 0),(8, .ptr 20 0),(9, .ref 23),(10,eN k)], [(23, .own 80 1 (vT (eu g p k))),(20, .box (fu g (fK g p k))),(3, .box [.d (sI p.ord), .d (.sl 1 (vI p.outs))]),(2, .box [eN g.n, .d (sE g.es)])]⟩) (fun k=>g.n.toNat - k) 0 (by simp) ?_ ?_
 ·refine Le.of ?_ ?_<;>simp [go_sem,simprocAttr,fu,fK,eu]
 rintro k ⟨hk,hok⟩
 obtain ⟨hi,_,hrl⟩:=dm hm Ck hk hok
 have hel:=lW (g:=g) (p:=p) (k:=k)
 rcases Nat.lt_or_ge k g.n.toNat with hlt|hge
 ·have hb:decide ((k:Int)<(p.ord.length:Int))=true:=decide_eq_true (by omega)
  have Fv:=aM Ck hlt
  have dQ:=u6 (g:=g) (p:=p) (k:=k)
  have Cl:fK g p (k+1)=(az g (fK g p k) (aq p k) (bH p (aq p k))).2:=rfl
  have oa:fN g p k=(az g (fK g p k) (aq p k) (bH p (aq p k))).1.1:=rfl
  have hpk:=yA Ck hlt
  have Et:=yC (g:=g) (p:=p) (k:=k)
  have hsk:uX g p k=false→R=(([], []),(3,(k:Int))):=fun h=>by
   rw [hR,nR.2 ⟨hlt,h,hok⟩]
  have hmul:k*(g.es.length+1)≤64*129:=Nat.mul_le_mul (by omega) (by omega)
  have lu:=kN Ck Fv.1 Fv.2
  have gJ:p.ord.getD k 0=aq p k:=rfl
  have Eu:(fK g p k).pl.length≤64:=by
   rcases GR hi.toij with h|h
   ·omega
   ·rw [h];simp
  obtain ⟨x,hx⟩:∃x:Nat,aq p k=x:=⟨(aq p k).toNat,by omega⟩
  rw [hx] at gJ Cl oa hpk Et Fv lu dQ
  have hxl:x<p.outs.length:=by have:=Ck.1;omega
  have hv:=kK hxl
  have hla:bH p (x:Int)=p.outs.getD x []:=by unfold bH;rw [Int.toNat_natCast]
  rw [hla] at Cl oa hpk Et lu
  rw [Int.toNat_natCast] at dQ
  have kO:=yw g (by omega) (fK g p k) (x:Int) (p.outs.getD x []) (by omega) (by omega) (by omega)
  have cz:=Es (ls:=eu g p k) (k:=x) (l:=fN g p k)
  generalize p.outs.getD x []=o at hv Cl oa hpk Et kO
  rw [← dQ] at cz
  generalize fK g p k=f at Cl oa hpk Et kO hi hrl Eu
  cases wW:uX g p k with
  |false=>
   rw [Et wW] at kO
   have IW:=hsk wW
   subst IW
   repeat' (first|((first|((with_reducible (first|apply oA|apply oB));exact rfl;intro K hK)|(refine hK _ ?_;clear hK K)|((with_reducible (first|apply oG|apply oH));iterate 3 exact rfl)|((with_reducible apply oI);(iterate 2 exact rfl);intro K hK)|(with_reducible (first|apply wI|apply wJ|apply wK)));try simp only [go_sem,simprocAttr,hb,gJ,hv,fu,vT,List.map_nil])|(with_reducible (first|apply oC|apply oJ|exact oK|apply wA|apply wB|apply wC hX hC|apply wD hX hC|apply wE hX hC af|apply wF hX hC af|apply wG|apply wH|apply And.intro))|((with_reducible refine oD ?_ ?_);kernel_rfl)|((with_reducible (first|apply oE|apply oF));(iterate 3 exact rfl);all_goals (intro h;first|(exact absurd h (by decide))|((try simp only [go_sem,simprocAttr,hb,gJ,hv,fu,vT,List.map_nil] at h);(try with_reducible intro K hK);simp only [go_sem,simprocAttr,hb,gJ,hv,fu,vT,List.map_nil])))|((first|((with_reducible apply wL);exact rfl)|((with_reducible apply wM);exact rfl));all_goals (try ((with_reducible intro h);first|(exact absurd h (by decide))|(try simp only [go_sem,simprocAttr,hb,gJ,hv,fu,vT,List.map_nil] at h))))|omega|((first|(refine au hX hC hP [(10000,20)] (kO) rfl rfl rfl ?_ ?_ ?_ ?_ ?_ ?_ ?_ ?_ ?_ ?_ ?_ ?_ ?_ ?_;(focus (simp only [go_sem,simprocAttr,hb,gJ,hv,fu,vT,List.map_nil];done));(iterate 12 (focus (simp [go_sem,simprocAttr,hb,gJ,hv,fu,vT,List.map_nil];done)));simp only [go_sem,simprocAttr,hb,gJ,hv,fu,vT,List.map_nil,List.map_cons,List.map_nil]));try simp only [go_sem,simprocAttr,hb,gJ,hv,fu,vT,List.map_nil])|(intro h))
  |true=>
   rw [hpk wW] at kO
   have eO:(az g f (x:Int) o).1.2=0:=rfl
   rw [oa] at cz
   generalize az g f (x:Int) o=su at Cl oa kO eO cz
   have Kc:x<(eu g p k).length:=by omega
   generalize Po:eu g p k=E at cz Kc hel
   have hvl:(vT E).length=E.length:=vT_length
   have u7:=fun d=>o5 Kc d
   repeat' (first|((first|((with_reducible (first|apply oA|apply oB));exact rfl;intro K hK)|(refine hK _ ?_;clear hK K)|((with_reducible (first|apply oG|apply oH));iterate 3 exact rfl)|((with_reducible apply oI);(iterate 2 exact rfl);intro K hK)|(with_reducible (first|apply wI|apply wJ|apply wK)));try simp only [go_sem,simprocAttr,hb,gJ,hv,fu,eO,cz,u7,List.drop_succ_cons,List.drop_zero])|(with_reducible (first|apply oC|apply oJ|exact oK|apply wA|apply wB|apply wC hX hC|apply wD hX hC|apply wE hX hC af|apply wF hX hC af|apply wG|apply wH|apply And.intro))|((with_reducible refine oD ?_ ?_);kernel_rfl)|((with_reducible (first|apply oE|apply oF));(iterate 3 exact rfl);all_goals (intro h;first|(exact absurd h (by decide))|((try simp only [go_sem,simprocAttr,hb,gJ,hv,fu,eO,cz,u7,List.drop_succ_cons,List.drop_zero] at h);(try with_reducible intro K hK);simp only [go_sem,simprocAttr,hb,gJ,hv,fu,eO,cz,u7,List.drop_succ_cons,List.drop_zero])))|((first|((with_reducible apply wL);exact rfl)|((with_reducible apply wM);exact rfl));all_goals (try ((with_reducible intro h);first|(exact absurd h (by decide))|(try simp only [go_sem,simprocAttr,hb,gJ,hv,fu,eO,cz,u7,List.drop_succ_cons,List.drop_zero] at h))))|omega|((first|(refine au hX hC hP [(10000,20)] (kO) rfl rfl rfl ?_ ?_ ?_ ?_ ?_ ?_ ?_ ?_ ?_ ?_ ?_ ?_ ?_ ?_;(focus (simp only [go_sem,simprocAttr,hb,gJ,hv,fu,eO,cz,u7,List.drop_succ_cons,List.drop_zero];done));(iterate 12 (focus (simp [go_sem,simprocAttr,hb,gJ,hv,fu,eO,cz,u7,List.drop_succ_cons,List.drop_zero];done)));simp only [go_sem,simprocAttr,hb,gJ,hv,fu,eO,cz,u7,List.drop_succ_cons,List.drop_zero,List.map_cons,List.map_nil]));try simp only [go_sem,simprocAttr,hb,gJ,hv,fu,eO,cz,u7,List.drop_succ_cons,List.drop_zero])|(intro h))
   refine ⟨k+1,⟨by omega,fun j hj=> ?_⟩, ?_,by omega⟩
   ·by_cases e:j=k
    ·subst e;exact wW
    ·exact hok j (by omega)
   ·rw [Cl]
    have Ev:(vT E).set x [D.sl 3 (List.map rT su.1.1)]=vT (eu g p (k+1)):=cz
    refine Le.of ?_ ?_<;>simp [go_sem,simprocAttr,hb,gJ,hv,fu,eO,cz,u7,List.drop_succ_cons,List.drop_zero,Ev]
 have hb:decide ((k:Int)<(p.ord.length:Int))=false:=decide_eq_false (by omega)
 obtain rfl:k=g.n.toNat:=by omega
 rw [fz.2 hok] at hR
 subst hR
 repeat' (first|((first|((with_reducible (first|apply oA|apply oB));exact rfl;intro K hK)|(refine hK _ ?_;clear hK K)|((with_reducible (first|apply oG|apply oH));iterate 3 exact rfl)|((with_reducible apply oI);(iterate 2 exact rfl);intro K hK)|(with_reducible (first|apply wI|apply wJ|apply wK)));try simp only [go_sem,simprocAttr,hb,fu])|(with_reducible (first|apply oC|apply oJ|exact oK|apply wA|apply wB|apply wC hX hC|apply wD hX hC|apply wE hX hC af|apply wF hX hC af|apply wG|apply wH|apply And.intro))|((with_reducible refine oD ?_ ?_);kernel_rfl)|((with_reducible (first|apply oE|apply oF));(iterate 3 exact rfl);all_goals (intro h;first|(exact absurd h (by decide))|((try simp only [go_sem,simprocAttr,hb,fu] at h);(try with_reducible intro K hK);simp only [go_sem,simprocAttr,hb,fu])))|((first|((with_reducible apply wL);exact rfl)|((with_reducible apply wM);exact rfl));all_goals (try ((with_reducible intro h);first|(exact absurd h (by decide))|(try simp only [go_sem,simprocAttr,hb,fu] at h))))|omega|(intro h))
end Go.Ab
end
section
namespace Go.Ab
open Go.Proofs
attribute [local congr] ACall.congr
set_option maxRecDepth 10000
set_option maxHeartbeats 8000000
theorem jB (g:Gr) (hl:g.es.length≤1000) (p:Pl) (hp:pg p) (b:Bool) (hr:b=true↔(bJ g).1=0∧bw g p):
 Spec Tryz.prog 46 (Args [eG g,ePl p]) [] (.tup [.d (.sl 1 (vT (bU b g p).1.1)), .d (sT (bU b g p).1.2),eF ((bU b g p).2.1,(bU b g p).2.2, [])]) []:=by
 by_cases hc:(bJ g).1=0
 rotate_left
 ·obtain rfl:b=false:=by
   rw [← Bool.not_eq_true,hr]
   exact fun h=>hc h.1
  have hR:bU false g p=(([], []),(1,0)):=rfl
  rw [hR]
  (refine Spec.intro (C:=T.cfg [] []) (rs:= [.t 4, .t 5, .c 6 82]) (T.aj _ _) Tryz.func46 rfl rfl Tryz.ntmps46 Tryz.results46 (by simp [AObj.isNest]) (by simp [AObj.isNest]) (by kernel_rfl) ?_;intro X hX hP hC aD aF vals hA;refine ⟨_,by simp,hA, ?_⟩;have af:X.P.follows .mixedOrders=true:=(by rw [hP];exact T.mixed);clear aD aF)
  repeat' (first|((first|((with_reducible (first|apply oA|apply oB));exact rfl;intro K hK)|(refine hK _ ?_;clear hK K)|((with_reducible (first|apply oG|apply oH));iterate 3 exact rfl)|((with_reducible apply oI);(iterate 2 exact rfl);intro K hK)|(with_reducible (first|apply wI|apply wJ|apply wK)));try simp only [go_sem,simprocAttr,vT,List.map_nil])|(with_reducible (first|apply oC|apply oJ|exact oK|apply wA|apply wB|apply wC hX hC|apply wD hX hC|apply wE hX hC af|apply wF hX hC af|apply wG|apply wH|apply And.intro))|((with_reducible refine oD ?_ ?_);kernel_rfl)|((with_reducible (first|apply oE|apply oF));(iterate 3 exact rfl);all_goals (intro h;first|(exact absurd h (by decide))|((try simp only [go_sem,simprocAttr,vT,List.map_nil] at h);(try with_reducible intro K hK);simp only [go_sem,simprocAttr,vT,List.map_nil])))|((first|((with_reducible apply wL);exact rfl)|((with_reducible apply wM);exact rfl));all_goals (try ((with_reducible intro h);first|(exact absurd h (by decide))|(try simp only [go_sem,simprocAttr,vT,List.map_nil] at h))))|omega|((first|refine aa hX hC hP (B7 g hl hc) rfl rfl rfl (by simp only [go_sem,simprocAttr,vT,List.map_nil]) rfl ?_);try simp only [go_sem,simprocAttr,vT,List.map_nil])|(intro h))
 have hm:=aA hc
 have hn:=aT hm
 have hr:b=true↔bw g p:=by rw [hr];exact ⟨fun h=>h.2,fun h=>⟨hc,h⟩⟩
 have hO:=El g hm p hp b hr
 cases b with
 |false=>
  have hR:bU false g p=(([], []),(1,0)):=rfl
  rw [hR]
  (refine Spec.intro (C:=T.cfg [] []) (rs:= [.t 4, .t 5, .c 6 82]) (T.aj _ _) Tryz.func46 rfl rfl Tryz.ntmps46 Tryz.results46 (by simp [AObj.isNest]) (by simp [AObj.isNest]) (by kernel_rfl) ?_;intro X hX hP hC aD aF vals hA;refine ⟨_,by simp,hA, ?_⟩;have af:X.P.follows .mixedOrders=true:=(by rw [hP];exact T.mixed);clear aD aF)
  repeat' (first|((first|((with_reducible (first|apply oA|apply oB));exact rfl;intro K hK)|(refine hK _ ?_;clear hK K)|((with_reducible (first|apply oG|apply oH));iterate 3 exact rfl)|((with_reducible apply oI);(iterate 2 exact rfl);intro K hK)|(with_reducible (first|apply wI|apply wJ|apply wK)));try simp only [go_sem,simprocAttr,vT,List.map_nil])|(with_reducible (first|apply oC|apply oJ|exact oK|apply wA|apply wB|apply wC hX hC|apply wD hX hC|apply wE hX hC af|apply wF hX hC af|apply wG|apply wH|apply And.intro))|((with_reducible refine oD ?_ ?_);kernel_rfl)|((with_reducible (first|apply oE|apply oF));(iterate 3 exact rfl);all_goals (intro h;first|(exact absurd h (by decide))|((try simp only [go_sem,simprocAttr,vT,List.map_nil] at h);(try with_reducible intro K hK);simp only [go_sem,simprocAttr,vT,List.map_nil])))|((first|((with_reducible apply wL);exact rfl)|((with_reducible apply wM);exact rfl));all_goals (try ((with_reducible intro h);first|(exact absurd h (by decide))|(try simp only [go_sem,simprocAttr,vT,List.map_nil] at h))))|omega|((first|(refine sV hX hC hP [(10000,13)] (uU g hl hc hm) rfl rfl rfl ?_ ?_ ?_ ?_ ?_ ?_ ?_ ?_ ?_ ?_ ?_ ?_ ?_ ?_;(focus (simp only [go_sem,simprocAttr,vT,List.map_nil];done));(iterate 12 (focus (simp [go_sem,simprocAttr,vT,List.map_nil];done)));simp only [go_sem,simprocAttr,vT,List.map_nil,List.map_cons,List.map_nil])|refine aa hX hC hP (ff g hm) rfl rfl rfl (by simp only [go_sem,simprocAttr,vT,List.map_nil]) rfl ?_|refine aa hX hC hP (hO) rfl rfl rfl (by simp only [go_sem,simprocAttr,vT,List.map_nil]) rfl ?_);try simp only [go_sem,simprocAttr,vT,List.map_nil])|(intro h))
 |true=>
 have Ck:=hr.1 rfl
 have hle:=bK Ck
 have hR:bU true g p=match jo g p g.n.toNat with
  |some i=>(([], []),(3,(i:Int)))
  |none=>((eu g p g.n.toNat,(fK g p g.n.toNat).row),(0,0)):=rfl
 generalize bU true g p=R at hR
 (refine Spec.intro (C:=T.cfg [] []) (rs:= [.t 4, .t 5, .c 6 82]) (T.aj _ _) Tryz.func46 rfl rfl Tryz.ntmps46 Tryz.results46 (by simp [AObj.isNest]) (by simp [AObj.isNest]) (by kernel_rfl) ?_;intro X hX hP hC aD aF vals hA;refine ⟨_,by simp,hA, ?_⟩;have af:X.P.follows .mixedOrders=true:=(by rw [hP];exact T.mixed);clear aD aF)
 repeat' (first|((first|((with_reducible (first|apply oA|apply oB));exact rfl;intro K hK)|(refine hK _ ?_;clear hK K)|((with_reducible (first|apply oG|apply oH));iterate 3 exact rfl)|((with_reducible apply oI);(iterate 2 exact rfl);intro K hK)|(with_reducible (first|apply wI|apply wJ|apply wK)));try simp only [go_sem,simprocAttr])|(show dz _ (.seq (.region 5 _ _) _) _ _;(refine oP 13 0 3 rfl rfl rfl ?_;simp only [LA.app,ASt.put,ASt.kill,putM,rml,List.set_cons_zero,List.set_cons_succ,go_sem,simprocAttr]);(refine iK hX 13 2 100 (.tip 3 1 []) rfl rfl rfl (by simp only [go_sem,simprocAttr]) (by decide) (by simp [go_sem,simprocAttr]) ⟨3,1,by decide, .inr rfl⟩ ?_;simp only [LA.app,ASt.put,ASt.kill,subT,rmk,putM,rml,kl,AV.sub,AV.subs,AObj.sub,List.set_cons_zero,List.set_cons_succ,go_sem,simprocAttr]))|(with_reducible (first|apply oC|apply oJ|exact oK|apply wA|apply wB|apply wC hX hC|apply wD hX hC|apply wE hX hC af|apply wF hX hC af|apply wG|apply wH|apply And.intro))|((with_reducible refine oD ?_ ?_);kernel_rfl)|((with_reducible (first|apply oE|apply oF));(iterate 3 exact rfl);all_goals (intro h;first|(exact absurd h (by decide))|((try simp only [go_sem,simprocAttr] at h);(try with_reducible intro K hK);simp only [go_sem,simprocAttr])))|((first|((with_reducible apply wL);exact rfl)|((with_reducible apply wM);exact rfl));all_goals (try ((with_reducible intro h);first|(exact absurd h (by decide))|(try simp only [go_sem,simprocAttr] at h))))|omega|((first|(refine sV hX hC hP [(10000,13)] (uU g hl hc hm) rfl rfl rfl ?_ ?_ ?_ ?_ ?_ ?_ ?_ ?_ ?_ ?_ ?_ ?_ ?_ ?_;(focus (simp only [go_sem,simprocAttr];done));(iterate 12 (focus (simp [go_sem,simprocAttr];done)));simp only [go_sem,simprocAttr,List.map_cons,List.map_nil])|refine aa hX hC hP (ff g hm) rfl rfl rfl (by simp only [go_sem,simprocAttr]) rfl ?_|refine aa hX hC hP (hO) rfl rfl rfl (by simp only [go_sem,simprocAttr]) rfl ?_);try simp only [go_sem,simprocAttr])|(intro h))
 rw [Er]
 refine ah (fun k:Nat=>k≤g.n.toNat∧∀j,j<k→uX g p j=true) (fun k=>⟨[(3, .ptr 3 0),(4, .ref 28),(6, .ptr 6 0),(7, .ptr 13 0),(30, .d (sI p.ord)),(31,eN p.ord.length),(32,eN k)], [(28, .own 80 1 (vT (eu g p k))),(13, .box [.d (sT (fK g p k).row), .d (vw g), .ref 100]),(100, .tip 3 1 ((fK g p k).pl.map rI)),(6, .box [eN 0,eN 0, .nil 3]),(3, .box [.d (sI p.ord), .d (.sl 1 (vI p.outs))])]⟩) (fun k=>g.n.toNat - k) 0 (by simp) ?_ ?_
 ·refine Le.of ?_ ?_<;>simp [go_sem,simprocAttr,fu,fK,eu]
 rintro k ⟨hk,hok⟩
 obtain ⟨hi,_,hrl⟩:=dm hm Ck hk hok
 have hel:=lW (g:=g) (p:=p) (k:=k)
 have hmul:k*(g.es.length+1)≤64*129:=Nat.mul_le_mul (by omega) (by omega)
 rcases Nat.lt_or_ge k g.n.toNat with hlt|hge
 ·have hb:decide ((k:Int)<(p.ord.length:Int))=true:=decide_eq_true (by omega)
  have Fv:=aM Ck hlt
  have dQ:=u6 (g:=g) (p:=p) (k:=k)
  have Cl:fK g p (k+1)=(az g (fK g p k) (aq p k) (bH p (aq p k))).2:=rfl
  have oa:fN g p k=(az g (fK g p k) (aq p k) (bH p (aq p k))).1.1:=rfl
  have hpk:=yA Ck hlt
  have Et:=yC (g:=g) (p:=p) (k:=k)
  have hsk:uX g p k=false→R=(([], []),(3,(k:Int))):=fun h=>by
   rw [hR,nR.2 ⟨hlt,h,hok⟩]
  have lu:=kN Ck Fv.1 Fv.2
  have gJ:p.ord.getD k 0=aq p k:=rfl
  have Eu:(fK g p k).pl.length≤64:=by
   rcases GR hi.toij with h|h
   ·omega
   ·rw [h];simp
  obtain ⟨x,hx⟩:∃x:Nat,aq p k=x:=⟨(aq p k).toNat,by omega⟩
  rw [hx] at gJ Cl oa hpk Et Fv lu dQ
  have hxl:x<p.outs.length:=by have:=Ck.1;omega
  have hv:=kK hxl
  have hla:bH p (x:Int)=p.outs.getD x []:=by unfold bH;rw [Int.toNat_natCast]
  rw [hla] at Cl oa hpk Et lu
  rw [Int.toNat_natCast] at dQ
  have kO:=yE g hm (fK g p k) hi (x:Int) (p.outs.getD x []) (by omega) (by omega) (by omega)
  have cz:=Es (ls:=eu g p k) (k:=x) (l:=fN g p k)
  generalize p.outs.getD x []=o at hv Cl oa hpk Et kO
  rw [← dQ] at cz
  generalize fK g p k=f at Cl oa hpk Et kO hi hrl Eu
  have Kc:x<(eu g p k).length:=by omega
  have hvl:(vT (eu g p k)).length=(eu g p k).length:=vT_length
  cases wW:uX g p k with
  |false=>
   rw [Et wW] at kO
   simp only at kO
   have IW:=hsk wW
   subst IW
   repeat' (first|((first|((with_reducible (first|apply oA|apply oB));exact rfl;intro K hK)|(refine hK _ ?_;clear hK K)|((with_reducible (first|apply oG|apply oH));iterate 3 exact rfl)|((with_reducible apply oI);(iterate 2 exact rfl);intro K hK)|(with_reducible (first|apply wI|apply wJ|apply wK)));try simp only [go_sem,simprocAttr,hb,gJ,hv,jc,tu,List.map_nil])|(with_reducible (first|apply oC|apply oJ|exact oK|apply wA|apply wB|apply wC hX hC|apply wD hX hC|apply wE hX hC af|apply wF hX hC af|apply wG|apply wH|apply And.intro))|((with_reducible refine oD ?_ ?_);kernel_rfl)|((with_reducible (first|apply oE|apply oF));(iterate 3 exact rfl);all_goals (intro h;first|(exact absurd h (by decide))|((try simp only [go_sem,simprocAttr,hb,gJ,hv,jc,tu,List.map_nil] at h);(try with_reducible intro K hK);simp only [go_sem,simprocAttr,hb,gJ,hv,jc,tu,List.map_nil])))|((first|((with_reducible apply wL);exact rfl)|((with_reducible apply wM);exact rfl));all_goals (try ((with_reducible intro h);first|(exact absurd h (by decide))|(try simp only [go_sem,simprocAttr,hb,gJ,hv,jc,tu,List.map_nil] at h))))|omega|((first|(refine au hX hC hP [(10000,13),(10001,100),(10002,101)] (kO) rfl rfl rfl ?_ ?_ ?_ ?_ ?_ ?_ ?_ ?_ ?_ ?_ ?_ ?_ ?_ ?_;(focus (simp only [go_sem,simprocAttr,hb,gJ,hv,jc,tu,List.map_nil];done));(iterate 12 (focus (simp [go_sem,simprocAttr,hb,gJ,hv,jc,tu,List.map_nil];done)));simp only [go_sem,simprocAttr,hb,gJ,hv,jc,tu,List.map_nil,List.map_cons,List.map_nil]));try simp only [go_sem,simprocAttr,hb,gJ,hv,jc,tu,List.map_nil])|(intro h))
   all_goals rfl
  |true=>
   rw [hpk wW] at kO
   have eO:(az g f (x:Int) o).1.2=0:=rfl
   rw [oa] at cz
   generalize az g f (x:Int) o=su at Cl oa kO eO cz
   generalize Po:eu g p k=E at cz Kc hel hvl
   have u7:=fun d=>o5 Kc d
   repeat' (first|((first|((with_reducible (first|apply oA|apply oB));exact rfl;intro K hK)|(refine hK _ ?_;clear hK K)|((with_reducible (first|apply oG|apply oH));iterate 3 exact rfl)|((with_reducible apply oI);(iterate 2 exact rfl);intro K hK)|(with_reducible (first|apply wI|apply wJ|apply wK)));try simp only [go_sem,simprocAttr,hb,gJ,hv,jc,tu,eO,cz,u7,List.drop_succ_cons,List.drop_zero])|(show dz _ (.region 11 _ _) _ _;(refine dN hX 13 2 101 100 rfl rfl rfl (by first|exact .inl rfl|exact .inr rfl) (by decide) (by decide) ?_;simp only [LA.app,ASt.put,ASt.kill,subT,rmk,putM,rml,kl,AV.sub,AV.subs,AObj.sub,List.set_cons_zero,List.set_cons_succ,go_sem,simprocAttr,hb,gJ,hv,jc,tu,eO,cz,u7,List.drop_succ_cons,List.drop_zero]))|(with_reducible (first|apply oC|apply oJ|exact oK|apply wA|apply wB|apply wC hX hC|apply wD hX hC|apply wE hX hC af|apply wF hX hC af|apply wG|apply wH|apply And.intro))|((with_reducible refine oD ?_ ?_);kernel_rfl)|((with_reducible (first|apply oE|apply oF));(iterate 3 exact rfl);all_goals (intro h;first|(exact absurd h (by decide))|((try simp only [go_sem,simprocAttr,hb,gJ,hv,jc,tu,eO,cz,u7,List.drop_succ_cons,List.drop_zero] at h);(try with_reducible intro K hK);simp only [go_sem,simprocAttr,hb,gJ,hv,jc,tu,eO,cz,u7,List.drop_succ_cons,List.drop_zero])))|((first|((with_reducible apply wL);exact rfl)|((with_reducible apply wM);exact rfl));all_goals (try ((with_reducible intro h);first|(exact absurd h (by decide))|(try simp only [go_sem,simprocAttr,hb,gJ,hv,jc,tu,eO,cz,u7,List.drop_succ_cons,List.drop_zero] at h))))|omega|((first|(refine au hX hC hP [(10000,13),(10001,100),(10002,101)] (kO) rfl rfl rfl ?_ ?_ ?_ ?_ ?_ ?_ ?_ ?_ ?_ ?_ ?_ ?_ ?_ ?_;(focus (simp only [go_sem,simprocAttr,hb,gJ,hv,jc,tu,eO,cz,u7,List.drop_succ_cons,List.drop_zero];done));(iterate 12 (focus (simp [go_sem,simprocAttr,hb,gJ,hv,jc,tu,eO,cz,u7,List.drop_succ_cons,List.drop_zero];done)));simp only [go_sem,simprocAttr,hb,gJ,hv,jc,tu,eO,cz,u7,List.drop_succ_cons,List.drop_zero,List.map_cons,List.map_nil]));try simp only [go_sem,simprocAttr,hb,gJ,hv,jc,tu,eO,cz,u7,List.drop_succ_cons,List.drop_zero])|(intro h))
   refine ⟨k+1,⟨by omega,fun j hj=> ?_⟩, ?_,by omega⟩
   ·by_cases e:j=k
    ·subst e;exact wW
    ·exact hok j (by omega)
   ·rw [Cl]
    have Ev:(vT E).set x [D.sl 3 (List.map rT su.1.1)]=vT (eu g p (k+1)):=cz
    refine Le.of ?_ ?_<;>simp [go_sem,simprocAttr,hb,gJ,hv,jc,tu,eO,cz,u7,List.drop_succ_cons,List.drop_zero,Ev]
 have hb:decide ((k:Int)<(p.ord.length:Int))=false:=decide_eq_false (by omega)
 obtain rfl:k=g.n.toNat:=by omega
 rw [fz.2 hok] at hR
 subst hR
 repeat' (first|((first|((with_reducible (first|apply oA|apply oB));exact rfl;intro K hK)|(refine hK _ ?_;clear hK K)|((with_reducible (first|apply oG|apply oH));iterate 3 exact rfl)|((with_reducible apply oI);(iterate 2 exact rfl);intro K hK)|(with_reducible (first|apply wI|apply wJ|apply wK)));try simp only [go_sem,simprocAttr,hb])|(with_reducible (first|apply oC|apply oJ|exact oK|apply wA|apply wB|apply wC hX hC|apply wD hX hC|apply wE hX hC af|apply wF hX hC af|apply wG|apply wH|apply And.intro))|((with_reducible refine oD ?_ ?_);kernel_rfl)|((with_reducible (first|apply oE|apply oF));(iterate 3 exact rfl);all_goals (intro h;first|(exact absurd h (by decide))|((try simp only [go_sem,simprocAttr,hb] at h);(try with_reducible intro K hK);simp only [go_sem,simprocAttr,hb])))|((first|((with_reducible apply wL);exact rfl)|((with_reducible apply wM);exact rfl));all_goals (try ((with_reducible intro h);first|(exact absurd h (by decide))|(try simp only [go_sem,simprocAttr,hb] at h))))|omega|((first|(refine qC hX hC hP 60 (B5 [vw g,sI (fK g p g.n.toNat).pl] (fK g p g.n.toNat).row (by omega)) rfl rfl rfl ?_ ?_ (by first|exact ⟨_,_,_,rfl,yo⟩|exact ⟨_,_,_,rfl,yp⟩|exact ⟨_,_,_,rfl,yu⟩) rfl (by decide) ?_;(iterate 2 (focus (simp only [go_sem,simprocAttr,hb];done)));simp only [go_sem,simprocAttr,hb]));try simp only [go_sem,simprocAttr,hb])|(intro h))
end Go.Ab
end
section
namespace Go.Ab
open Go.Proofs
attribute [local congr] ACall.congr
set_option maxRecDepth 10000
set_option maxHeartbeats 8000000
def QE (n:Int) (es:List Edge) (ord:List Int) (O:List (List Int)):List (Nat × AObj):= [(10000, .box [eN n, .ref 10001, .ref 10002, .ref 10003]),(10001, .tip 58 2 (es.map rE)),(10002, .tip 3 1 (ord.map rI)),(10003, .own 25 1 (vI O))]
def QF (n:Int) (es:List Edge) (ord:List Int) (O:List (List Int)):List (Nat × AObj):= [(10000, .box [eN n, .ref 10004, .ref 10002, .ref 10003]),(10004, .tip 58 2 (es.map rE)),(10002, .tip 3 1 (ord.map rI)),(10003, .own 25 1 (vI O))]
def Pp (x:Int) (items:List It):List Edge:=(loose items).map fun v=>(v,x)
end Go.Ab
end
section
namespace Go.Ab
open Go.Proofs
attribute [local congr] ACall.congr
set_option maxRecDepth 10000
set_option maxHeartbeats 16000000
def pz:Pl:=⟨[], []⟩
def Pq (b:Bool) (g:Gr) (p:Pl):Gr × Pl × Int:=
 if (bU b g p).2.1≠0 then (gz,pz,1) else if 64<(Ek g p).n∨128<(Ek g p).es.length then (gz,pz,10) else (Ek g p,MB g p,0)
theorem u9 {b:Bool} {g:Gr} {p:Pl} (hr:b=true↔(bJ g).1=0∧bw g p) (h:(bU b g p).2.1=0):cA g p∧bU b g p=((eu g p g.n.toNat,kX g p),(0,0)):=by
 cases b with
 |false=>simp [bU] at h
 |true=>
  have hR:bU true g p=match jo g p g.n.toNat with
   |some i=>(([], []),(3,(i:Int)))
   |none=>((eu g p g.n.toNat,(fK g p g.n.toNat).row),(0,0)):=rfl
  cases hs:jo g p g.n.toNat with
  |some i=>rw [hR,hs] at h;simp at h
  |none=>
   obtain ⟨h1,h2⟩:=hr.1 rfl
   exact ⟨⟨h1,h2,fz.1 hs⟩,by rw [hR,hs];rfl⟩
end Go.Ab
end
section
namespace Go.Ab
open Go.Proofs
attribute [local congr] ACall.congr
set_option maxRecDepth 10000
set_option maxHeartbeats 16000000
def Pr (p:Pl) (x:Gr) (k:Nat):List (List Int):=(List.range k).map fun v=>if 0<(p.outs.getD v []).length then p.outs.getD v [] else bn x (v:Int)
theorem zV {g:Gr} {p:Pl} (hr:cA g p):∀t∈kX g p,t.1<0:=by
 obtain ⟨hc,h,hok⟩:=hr
 have hm:=aA hc
 have hn:=aT hm
 obtain ⟨hi,eR,_⟩:=dm hm h (k:=g.n.toNat) (Nat.le_refl _) hok
 intro t ht
 refine Decidable.byContradiction fun h0=> ?_
 rcases hi.it t ht with ⟨h1,_⟩|⟨h1,h2,_,h4⟩
 ·omega
 ·have NJ:=(dS hm (k:=t.1.toNat) (by omega)).2
  rw [← h4] at NJ
  refine hi.head t ht h1 (j7 hi.toij ?_ NJ)
  rw [eR,List.length_take,bK h];omega
end Go.Ab
end
section
namespace Go.Ab
open Go.Proofs
attribute [local congr] ACall.congr
set_option maxRecDepth 10000
set_option maxHeartbeats 8000000
def Ew (g:Gr) (p:Pl):Bool:=decide (200<g.es.length)||decide (100<p.ord.length)||decide (100<p.outs.length)||p.outs.any fun l=>decide (200<l.length)
theorem wX {g:Gr} {p:Pl} (h:Ew g p=false):g.es.length≤200∧p.ord.length≤100∧p.outs.length≤100∧∀l∈p.outs,l.length≤200:=by
 simp only [Ew,Bool.or_eq_false_iff,decide_eq_false_iff_not,List.any_eq_false,decide_eq_true_eq] at h
 obtain ⟨⟨⟨h1,h2⟩,h3⟩,h4⟩:=h
 exact ⟨by omega,by omega,by omega,fun l hl=>by have:=h4 l hl;omega⟩
theorem yH {g:Gr} {p:Pl} (h:Ew g p=false):pg p:=by
 obtain ⟨_,h1,h2,h3⟩:=wX h
 exact ⟨by omega,by omega,fun l hl=>by have:=h3 l hl;omega⟩
structure Ke (p:Pl):Prop where
 ord:p.ord.length≤9223372036854775807
 outs:p.outs.length≤9223372036854775807
 each:∀l∈p.outs,l.length≤9223372036854775807
def pQ (g:Gr):Bool:=decide ((bJ g).1=0)&&decide ((bS (·.1) g).length=1)
theorem tJ (g:Gr) (hl:g.es.length≤1000):Spec Tryz.prog 51 (Args [eG g]) [] (eB (pQ g)) []:=by
 by_cases hc:(bJ g).1=0
 ·have hm:=aA hc
  have an:decide ((bJ g).1=0)=true:=decide_eq_true hc
  have hI:pQ g=decide (((bS (·.1) g).length:Int)=1):=by
   unfold pQ;rw [an,Bool.true_and,decide_eq_decide];omega
  rw [hI]
  generalize jG:bS (·.1) g=bl
  have hS:=s7 g hm
  rw [jG] at hS
  (refine Spec.intro (C:=T.cfg [] []) (rs:= [.t 2]) (T.aj _ _) Tryz.func51 rfl rfl Tryz.ntmps51 Tryz.results51 (by simp [AObj.isNest]) (by simp [AObj.isNest]) (by kernel_rfl) ?_;intro X hX hP hC aD aF vals hA;refine ⟨_,by simp,hA, ?_⟩;have af:X.P.follows .mixedOrders=true:=(by rw [hP];exact T.mixed);clear aD aF)
  repeat' (first|((first|((with_reducible (first|apply oA|apply oB));exact rfl;intro K hK)|(refine hK _ ?_;clear hK K)|((with_reducible (first|apply oG|apply oH));iterate 3 exact rfl)|((with_reducible apply oI);(iterate 2 exact rfl);intro K hK)|(with_reducible (first|apply wI|apply wJ|apply wK)));try simp only [go_sem,simprocAttr,an])|(with_reducible (first|apply oC|apply oJ|exact oK|apply wA|apply wB|apply wC hX hC|apply wD hX hC|apply wE hX hC af|apply wF hX hC af|apply wG|apply wH|apply And.intro))|((with_reducible refine oD ?_ ?_);kernel_rfl)|((with_reducible (first|apply oE|apply oF));(iterate 3 exact rfl);all_goals (intro h;first|(exact absurd h (by decide))|((try simp only [go_sem,simprocAttr,an] at h);(try with_reducible intro K hK);simp only [go_sem,simprocAttr,an])))|((first|((with_reducible apply wL);exact rfl)|((with_reducible apply wM);exact rfl));all_goals (try ((with_reducible intro h);first|(exact absurd h (by decide))|(try simp only [go_sem,simprocAttr,an] at h))))|omega|((first|refine aa hX hC hP (iR g hl) rfl rfl rfl (by simp only [go_sem,simprocAttr,an]) rfl ?_|refine aa hX hC hP (ff g hm) rfl rfl rfl (by simp only [go_sem,simprocAttr,an]) rfl ?_|refine aa hX hC hP (hS) rfl rfl rfl (by simp only [go_sem,simprocAttr,an]) rfl ?_);try simp only [go_sem,simprocAttr,an])|(intro h))
 ·have an:decide ((bJ g).1=0)=false:=decide_eq_false hc
  have hI:pQ g=false:=by unfold pQ;rw [an];rfl
  rw [hI]
  (refine Spec.intro (C:=T.cfg [] []) (rs:= [.t 2]) (T.aj _ _) Tryz.func51 rfl rfl Tryz.ntmps51 Tryz.results51 (by simp [AObj.isNest]) (by simp [AObj.isNest]) (by kernel_rfl) ?_;intro X hX hP hC aD aF vals hA;refine ⟨_,by simp,hA, ?_⟩;have af:X.P.follows .mixedOrders=true:=(by rw [hP];exact T.mixed);clear aD aF)
  repeat' (first|((first|((with_reducible (first|apply oA|apply oB));exact rfl;intro K hK)|(refine hK _ ?_;clear hK K)|((with_reducible (first|apply oG|apply oH));iterate 3 exact rfl)|((with_reducible apply oI);(iterate 2 exact rfl);intro K hK)|(with_reducible (first|apply wI|apply wJ|apply wK)));try simp only [go_sem,simprocAttr,an])|(with_reducible (first|apply oC|apply oJ|exact oK|apply wA|apply wB|apply wC hX hC|apply wD hX hC|apply wE hX hC af|apply wF hX hC af|apply wG|apply wH|apply And.intro))|((with_reducible refine oD ?_ ?_);kernel_rfl)|((with_reducible (first|apply oE|apply oF));(iterate 3 exact rfl);all_goals (intro h;first|(exact absurd h (by decide))|((try simp only [go_sem,simprocAttr,an] at h);(try with_reducible intro K hK);simp only [go_sem,simprocAttr,an])))|((first|((with_reducible apply wL);exact rfl)|((with_reducible apply wM);exact rfl));all_goals (try ((with_reducible intro h);first|(exact absurd h (by decide))|(try simp only [go_sem,simprocAttr,an] at h))))|omega|((first|refine aa hX hC hP (iR g hl) rfl rfl rfl (by simp only [go_sem,simprocAttr,an]) rfl ?_);try simp only [go_sem,simprocAttr,an])|(intro h))
end Go.Ab
end
section
namespace Go.Ab
open Go.Proofs
attribute [local congr] ACall.congr
set_option maxRecDepth 10000
set_option maxHeartbeats 8000000
def g16:Gr:=⟨3, [(0,1),(0,2)]⟩
def QG:Pl:=⟨[0,1,2], [[0,1], [], []]⟩
def QH:Gr:=⟨4, [(0,1),(0,2),(1,3),(2,3)]⟩
def QI:Pl:=⟨[0,1,2,3], [[0,1], [2], [3], []]⟩
end Go.Ab
end
section
namespace Go.Ab
open Go.Proofs
attribute [local congr] ACall.congr
set_option maxRecDepth 10000
def QJ (l:List Int) (k:Nat):Bool:=(List.range k).all fun i=>decide (l.getD i 0=(i:Int))
def Gi (g:Gr) (names order:List Int) (k:Nat):List Edge:=(List.range k).map fun i=>(names.getD (g.es.getD (order.getD i 0).toNat (0,0)).1.toNat 0,names.getD (g.es.getD (order.getD i 0).toNat (0,0)).2.toNat 0)
def gX (g:Gr) (names order:List Int):Gr:=⟨g.n,Gi g names order order.length⟩
theorem yI {g:Gr} {names order:List Int} {k:Nat} :(Gi g names order k).length=k:=by simp [Gi]
def Kf (g:Gr) (names order:List Int):Bool:=aP g&&fU names g.n&&fU order g.es.length
def Pt (g:Gr) (names order:List Int):Gr:=if Kf g names order then gX g names order else ⟨0, []⟩
end Go.Ab
end
section
namespace Go.Ab
def Ed (g:Gr) (a b:Int):Prop:=∃i,i<g.es.length∧tl g i=a∧hd g i=b
def Kg (g:Gr) (l:List Int):Prop:=∀i,i<l.length→Ed g (l.getD i 0) (l.getD ((i+1) % l.length) 0)
def Ex (g:Gr) (way:List Int) (at_:Int):Prop:=∀p,p<way.length→Ed g ((way++ [at_]).getD (p+1) 0) (way.getD p 0)
theorem qg {l:List Int} {a:Int} :(l++ [a]).getD l.length 0=a:=by
 rw [List.getD_eq_getElem?_getD,List.getElem?_append_right (Nat.le_refl _)];simp
theorem tK {g:Gr} (hm:aP g=true):∀(f:Nat) (way:List Int) (a:Nat),a<g.n.toNat→(a:Int)∉aL g→Ex g way a→left g way≤f→
 Ex g (kG g (cG g (aL g)) f way a).1 (kG g (cG g (aL g)) f way a).2∧0≤(kG g (cG g (aL g)) f way a).2∧(kG g (cG g (aL g)) f way a).2∈(kG g (cG g (aL g)) f way a).1
 |f,way,a,ha,hn,hc,hl=>by
  by_cases hmem:(a:Int)∈way
  ·rw [jU (.inr hmem)]
   exact ⟨hc,by simp only;omega,hmem⟩
  ·have hla:=iO ha hmem
   cases f with
   |zero=>omega
   |succ f=>
    obtain ⟨⟨i,hi,Pu,mD,J3⟩,_⟩:=tf hm (HZ hm ha hn)
    have htr:=bN hm hi
    rw [mD] at htr
    obtain ⟨b,J4⟩:∃b:Nat,jl g (cG g (aL g)) a=b:=⟨(jl g (cG g (aL g)) a).toNat,by omega⟩
    rw [J4] at J3 htr mD
    have e1:kG g (cG g (aL g)) (f+1) way a=kG g (cG g (aL g)) f (way++ [(a:Int)]) b:=by
     simp only [kG];rw [if_neg (by intro h;rcases h with h|h;omega;exact hmem h),J4]
    rw [e1]
    refine tK hm f (way++ [(a:Int)]) b (by omega) J3 ?_ (by omega)
    intro p hp
    rw [List.length_append,List.length_singleton] at hp
    by_cases eR:p<way.length
    ·have:=hc p eR
     rw [lU (by simp;omega),lU eR]
     exact this
    ·have:p=way.length:=by omega
     subst this
     have e2:=qg (l:=way++ [(a:Int)]) (a:=(b:Int))
     rw [List.length_append,List.length_singleton] at e2
     rw [e2,qg]
     exact ⟨i,hi,mD,Pu⟩
theorem qh {l:List Int} {k p:Nat} :(l.drop k).getD p 0=l.getD (k+p) 0:=by
 rw [List.getD_eq_getElem?_getD,List.getElem?_drop, ← List.getD_eq_getElem?_getD]
theorem Kg.MC {g:Gr} {l:List Int} (h:∀p,p<l.length→Ed g (l.getD ((p+1) % l.length) 0) (l.getD p 0)) (h0:0<l.length):Kg g (kV l.reverse):=by
 have K0:0<l.reverse.length:=by simpa using h0
 obtain ⟨k,Bl,hk2,_⟩:=dG (iP K0)
 rw [List.length_reverse] at hk2
 have e1:kV l.reverse=l.reverse.drop k++l.reverse.take k:=by simp only [kV,Bl,Int.toNat_natCast]
 have hlen:(kV l.reverse).length=l.length:=by rw [e1];simp;omega
 have hg:∀i,i<l.length→(kV l.reverse).getD i 0=l.getD (l.length - 1 - (i+k) % l.length) 0:=by
  intro i hi
  rw [e1,List.getD_eq_getElem?_getD]
  by_cases hik:i<l.length - k
  ·rw [List.getElem?_append_left (by simp;omega),List.getElem?_drop,List.getElem?_reverse (by omega),Nat.mod_eq_of_lt (by omega), ← List.getD_eq_getElem?_getD]
   congr 1;omega
  ·rw [List.getElem?_append_right (by simp;omega),List.length_drop,List.length_reverse,List.getElem?_take,if_pos (by omega),List.getElem?_reverse (by omega), ← List.getD_eq_getElem?_getD]
   have:(i+k) % l.length=i+k - l.length:=by rw [Nat.mod_eq_sub_mod (by omega),Nat.mod_eq_of_lt (by omega)]
   rw [this];congr 1;omega
 intro i hi
 rw [hlen] at hi ⊢
 rw [hg i hi,hg _ (Nat.mod_lt _ h0)]
 have hmm:((i+1) % l.length+k) % l.length=((i+k) % l.length+1) % l.length:=by
  rw [Nat.mod_add_mod,Nat.mod_add_mod];congr 1;omega
 rw [hmm]
 have hj:=Nat.mod_lt (i+k) h0
 generalize (i+k) % l.length=j at hj ⊢
 by_cases va:j+1<l.length
 ·rw [Nat.mod_eq_of_lt va]
  have:=h (l.length - 1 - (j+1)) (by omega)
  rw [Nat.mod_eq_of_lt (by omega),show l.length - 1 - (j+1)+1=l.length - 1 - j from by omega] at this
  exact this
 ·have:j+1=l.length:=by omega
  rw [this,Nat.mod_self]
  have:=h (l.length - 1) (by omega)
  rw [show l.length - 1+1=l.length from by omega,Nat.mod_self] at this
  rw [show l.length - 1 - j=0 from by omega]
  exact this
def MD (g:Gr):Prop:=∃r:Int→Nat,∀i,i<g.es.length→r (tl g i)<r (hd g i)
theorem rz {g:Gr} (hm:aP g=true):oZ g=true↔MD g:=by
 constructor
 ·intro h
  refine ⟨fun v=>((ym g.n.toNat (aL g) (aL g).length).getD v.toNat 0).toNat,fun i hi=> ?_⟩
  have h1:=Eb (B0 hm h) hi
  have h2:=tj (n:=g.n.toNat) (l:=aL g) (k:=(aL g).length) (y:=(tl g i).toNat)
  simp only;omega
 ·rintro ⟨r,hr⟩
  cases h:oZ g with
  |true=>rfl
  |false=>
   exfalso
   obtain ⟨y,hy,hn⟩:=AE hm h
   have key:∀(p:Nat) (y:Nat),y<g.n.toNat→(y:Int)∉aL g→r y=p→False:=by
    intro p
    induction p using Nat.strongRecOn with
    |_ p ih=>
     intro y hy hn hp
     obtain ⟨t,i,hi,h1,rfl,h2⟩:=HZ hm hy hn
     have htr:=bN hm hi
     have hlt:=hr i hi
     rw [h1,hp] at hlt
     have e:((tl g i).toNat:Int)=tl g i:=by omega
     exact ih (r (tl g i)) hlt (tl g i).toNat (by omega) (by rw [e];exact h2) (by rw [e])
   exact key _ y hy hn rfl
theorem AQ {g:Gr} (hm:aP g=true) (h:oZ g=true):jT g= []:=by
 have hall:=(b8.1 (o4 hm h)).2
 have hn:=aT hm
 rcases start_eq hm with ⟨h1,h2⟩|⟨a,ha,h1,h2,h3⟩
 ·have:jS g=([], -1):=by
   unfold jS;rw [h1];exact jU (.inl (by omega)) _
  simp only [jT,this]
  rw [if_pos (by omega)]
 ·exact absurd (hall a (dH.2 (by omega))) h3
theorem tL {g:Gr} (hm:aP g=true) (h:oZ g=false):0<(jT g).length∧Kg g (jT g):=by
 obtain ⟨y,hy,Pv⟩:=AE hm h
 have hn:=aT hm
 rcases start_eq hm with ⟨h1,h2⟩|⟨a,ha,h1,h2,h3⟩
 ·exfalso
  rcases fm (f:=fun n:Int=>decide (0<n)) (l:=cG g (aL g)) 0 with ⟨_,h4⟩|⟨k,h4,_⟩
  ·have h5:=(qb hm hy).2 Pv
   have h6:=h4 ((cG g (aL g)).getD y 0) (by rw [List.getD_eq_getElem?_getD,kE hy];exact List.mem_of_getElem? (kE hy))
   rw [lN hy] at h6
   exact absurd h5 (of_decide_eq_false h6)
  ·omega
 ·obtain ⟨h4,h5,h6⟩:=tK hm g.n.toNat [] a ha h3 (fun p hp=>by simp at hp) wN
  have hw:jS g=kG g (cG g (aL g)) g.n.toNat [] a:=by unfold jS;rw [h1]
  rw [← hw] at h4 h5 h6
  obtain ⟨k,Bl,hk2,JY⟩:=dG h6
  have hc:jT g=kV ((jS g).1.drop k).reverse:=by
   simp only [jT]
   rw [if_neg (by omega),Bl,Int.toNat_natCast]
  have hlen:((jS g).1.drop k).length=(jS g).1.length - k:=by simp
  have h0:0<((jS g).1.drop k).length:=by omega
  refine ⟨?_, ?_⟩
  ·rw [hc]
   simp only [kV,List.length_append,List.length_drop,List.length_take,List.length_reverse]
   omega
  ·rw [hc]
   refine Kg.MC (fun p hp=> ?_) h0
   rw [hlen] at hp ⊢
   have h7:=h4 (k+p) (by omega)
   rw [qh (p:=p)]
   by_cases va:p+1<(jS g).1.length - k
   ·rw [Nat.mod_eq_of_lt va,qh]
    rw [lU (by omega)] at h7
    exact h7
   ·have:p+1=(jS g).1.length - k:=by omega
    rw [this,Nat.mod_self,qh,Nat.add_zero,JY]
    rw [show k+p+1=(jS g).1.length from by omega,qg] at h7
    exact h7
end Go.Ab
end
section
namespace Go.Ab
def nm (names:List Int) (v:Int):Int:=names.getD v.toNat 0
structure jq (g:Gr) (names order:List Int):Prop where
 may:aP g=true
 Ie:fU names g.n=true
 ord:fU order (g.es.length:Int)=true
section
variable {g:Gr} {names order:List Int} (h:jq g names order)
include h
theorem jq.len:(gX g names order).es.length=g.es.length:=by
 have:=(b8.1 h.ord).1
 simp only [gX,yI];omega
theorem jq.jv {i:Nat} (hi:i<g.es.length):∃j,j<g.es.length∧order.getD i 0=(j:Int)∧(gX g names order).es.getD i (0,0)=(nm names (tl g j),nm names (hd g j)):=by
 have CK:=(b8.1 h.ord).1
 have:=lV h.ord _ (gQ (l:=order) (m:=i) (by omega))
 refine ⟨(order.getD i 0).toNat,by omega,by omega, ?_⟩
 simp only [gX,Gi,nm,tl,hd]
 rw [List.getD_eq_getElem?_getD,List.getElem?_map,List.getElem?_range (by omega)]
 rfl
theorem jq.back {j:Nat} (hj:j<g.es.length):∃i,i<g.es.length∧order.getD i 0=(j:Int)∧(gX g names order).es.getD i (0,0)=(nm names (tl g j),nm names (hd g j)):=by
 obtain ⟨CK,hall⟩:=b8.1 h.ord
 obtain ⟨i,hi,hil,he⟩:=dG (hall (j:Int) (dH.2 (by omega)))
 obtain ⟨j',_,h2,h3⟩:=h.jv (i:=i) (by omega)
 have:j'=j:=by omega
 subst this
 exact ⟨i,by omega,he,h3⟩
theorem jq.inj {a b:Int} (ha:0≤a∧a<g.n) (hb:0≤b∧b<g.n) (e:nm names a=nm names b):a=b:=by
 have hnl:=(b8.1 h.Ie).1
 have:=iS h.Ie (i:=a.toNat) (j:=b.toNat) (by omega) (by omega) e
 omega
theorem jq.range {a:Int} (ha:0≤a∧a<g.n):0≤nm names a∧nm names a<g.n:=by
 have hnl:=(b8.1 h.Ie).1
 exact lV h.Ie _ (gQ (by omega))
theorem jq.inv {a:Int} (ha:0≤a∧a<g.n):dI names (nm names a)=a:=by
 have hnl:=(b8.1 h.Ie).1
 obtain ⟨k,hk,bT,he⟩:=dG (gQ (l:=names) (m:=a.toNat) (by omega))
 have h2:=iS h.Ie bT (j:=a.toNat) (by omega) he
 have h3:dI names (nm names a)=k:=hk
 omega
theorem jq.of {v:Int} (hv:0≤v∧v<g.n):∃a,(0≤a∧a<g.n)∧nm names a=v:=by
 obtain ⟨hnl,hall⟩:=b8.1 h.Ie
 obtain ⟨k,hk,bT,he⟩:=dG (hall v (dH.2 (by omega)))
 exact ⟨k,by omega,he⟩
theorem jq.may':aP (gX g names order)=true:=by
 have hn:=aT h.may
 have hlen:=h.len
 have hall:(gX g names order).es.any (oT (gX g names order))=false:=by
  rw [List.any_eq_false]
  intro e he
  obtain ⟨i,hi,rfl⟩:=List.getElem_of_mem he
  obtain ⟨j,hj,_,h3⟩:=h.jv (i:=i) (by omega)
  rw [List.getD_eq_getElem?_getD,List.getElem?_eq_getElem hi,Option.getD_some] at h3
  rw [h3]
  have h4:=h.range (bN h.may hj)
  have h5:=h.range (cn h.may hj)
  have e1:(gX g names order).n=g.n:=rfl
  simp only [oT,uf,e1,Bool.or_eq_true,decide_eq_true_eq]
  omega
 have e1:(gX g names order).n=g.n:=rfl
 simp only [aP,hall,e1,Bool.not_false,Bool.and_true,Bool.and_eq_true,decide_eq_true_eq]
 omega
omit h in
theorem qi {i j:Nat} (e:(gX g names order).es.getD i (0,0)=(nm names (tl g j),nm names (hd g j))):tl (gX g names order) i=nm names (tl g j)∧hd (gX g names order) i=nm names (hd g j):=⟨congrArg Prod.fst e,congrArg Prod.snd e⟩
theorem jq.loop:(0≤jV (gX g names order))↔0≤jV g:=by
 have key:∀g:Gr,(0≤jV g)↔∃i,i<g.es.length∧tl g i=hd g i:=by
  intro g
  have:=gB (fun e:Edge=>decide (e.1=e.2)) g.es
  rw [show (0≤jV g)↔g.es.any (fun e:Edge=>decide (e.1=e.2))=true from by rw [← this];simp [jV],List.any_eq_true]
  constructor
  ·rintro ⟨e,he,h2⟩
   obtain ⟨i,hi,rfl⟩:=List.getElem_of_mem he
   refine ⟨i,hi, ?_⟩
   simpa [tl,hd,List.getD_eq_getElem?_getD,List.getElem?_eq_getElem hi] using h2
  ·rintro ⟨i,hi,h2⟩
   refine ⟨_,List.getElem_mem hi, ?_⟩
   simpa [tl,hd,List.getD_eq_getElem?_getD,List.getElem?_eq_getElem hi] using h2
 rw [key,key,h.len]
 constructor
 ·rintro ⟨i,hi,e⟩
  obtain ⟨j,hj,_,h3⟩:=h.jv hi
  obtain ⟨e1,e2⟩:=qi h3
  exact ⟨j,hj,h.inj (bN h.may hj) (cn h.may hj) (by rw [← e1, ← e2,e])⟩
 ·rintro ⟨j,hj,e⟩
  obtain ⟨i,hi,_,h3⟩:=h.back hj
  obtain ⟨e1,e2⟩:=qi h3
  exact ⟨i,hi,by rw [e1,e2,e]⟩
omit h in
theorem vb (g:Gr):(0≤fq g)↔∃i k,i<g.es.length∧k<g.es.length∧i≠k∧g.es.getD i (0,0)=g.es.getD k (0,0):=by
 have:=gB (nK g) (List.range g.es.length)
 rw [show (0≤fq g)↔(List.range g.es.length).any (nK g)=true from by rw [← this];simp [fq],List.any_eq_true]
 constructor
 ·rintro ⟨i,hi,h2⟩
  have hil:=List.mem_range.1 hi
  have h3:=of_decide_eq_true h2
  rw [List.mem_iff_getElem?] at h3
  obtain ⟨k,hk⟩:=h3
  rw [List.getElem?_take] at hk
  split at hk
  ·rename_i hki
   exact ⟨i,k,hil,by omega,by omega,by rw [List.getD_eq_getElem?_getD (i:=k),hk];rfl⟩
  ·cases hk
 ·rintro ⟨i,k,hi,hk,hne,e⟩
  have main:∀i k,k<i→i<g.es.length→g.es.getD i (0,0)=g.es.getD k (0,0)→nK g i=true:=by
   intro i k hki hi e
   refine decide_eq_true ?_
   rw [e,List.mem_iff_getElem?]
   refine ⟨k, ?_⟩
   rw [List.getElem?_take,if_pos hki,List.getD_eq_getElem?_getD,List.getElem?_eq_getElem (by omega)];rfl
  rcases Nat.lt_or_gt_of_ne hne with hlt|hgt
  ·exact ⟨k,List.mem_range.2 hk,main k i hlt hk e.symm⟩
  ·exact ⟨i,List.mem_range.2 hi,main i k hgt hi e⟩
theorem jq.Kh:(0≤fq (gX g names order))↔0≤fq g:=by
 have CK:=(b8.1 h.ord).1
 rw [vb,vb,h.len]
 constructor
 ·rintro ⟨i,k,hi,hk,hne,e⟩
  obtain ⟨j,hj,ho,h3⟩:=h.jv hi
  obtain ⟨j',hj',ho',FO⟩:=h.jv hk
  refine ⟨j,j',hj,hj',fun e'=> ?_, ?_⟩
  ·subst e'
   exact hne (iS h.ord (by omega) (by omega) (by rw [ho,ho']))
  ·rw [h3,FO,Prod.mk.injEq] at e
   have e1:=h.inj (bN h.may hj) (bN h.may hj') e.1
   have e2:=h.inj (cn h.may hj) (cn h.may hj') e.2
   exact Prod.ext e1 e2
 ·rintro ⟨j,j',hj,hj',hne,e⟩
  obtain ⟨i,hi,ho,h3⟩:=h.back hj
  obtain ⟨k,hk,ho',FO⟩:=h.back hj'
  refine ⟨i,k,hi,hk,fun e'=> ?_, ?_⟩
  ·subst e';omega
  ·have e1:tl g j=tl g j':=congrArg Prod.fst e
   have e2:hd g j=hd g j':=congrArg Prod.snd e
   rw [h3,FO,e1,e2]
theorem jq.ME:oZ (gX g names order)=oZ g:=by
 rw [Bool.eq_iff_iff,rz h.may',rz h.may]
 constructor
 ·rintro ⟨r,hr⟩
  refine ⟨fun v=>r (nm names v),fun j hj=> ?_⟩
  obtain ⟨i,hi,_,h3⟩:=h.back hj
  obtain ⟨e1,e2⟩:=qi h3
  have:=hr i (by rw [h.len];exact hi)
  rwa [e1,e2] at this
 ·rintro ⟨r,hr⟩
  refine ⟨fun v=>r (dI names v),fun i hi=> ?_⟩
  rw [h.len] at hi
  obtain ⟨j,hj,_,h3⟩:=h.jv hi
  obtain ⟨e1,e2⟩:=qi h3
  have:=hr j hj
  rw [e1,e2];simp only;rw [h.inv (bN h.may hj),h.inv (cn h.may hj)]
  exact this
omit h in
theorem gR {g:Gr} {y:Int} :y∈bS (·.2) g↔(0≤y∧y<g.n)∧∀i,i<g.es.length→hd g i≠y:=by
 simp only [bS,iN,List.mem_map,List.mem_filter,List.mem_range,decide_eq_true_eq]
 have he:∀x:Nat,x<g.n.toNat→(((de (·.2) g).getD x []).length=0↔∀i,i<g.es.length→hd g i≠(x:Int)):=by
  intro x hx
  have e:(de (·.2) g).getD x []=aG (·.2) g.es g.es.length (x:Int):=by
   simp [de,List.getD_eq_getElem?_getD,List.getElem?_range hx,jX]
  rw [e,List.length_eq_zero_iff]
  simp only [aG,List.map_eq_nil_iff,List.filter_eq_nil_iff,List.mem_range,decide_eq_true_eq]
  rfl
 constructor
 ·rintro ⟨x,⟨hx,h0⟩,rfl⟩
  refine ⟨by simp;omega,(he x hx).1 h0⟩
 ·rintro ⟨⟨h1,h2⟩,h3⟩
  have e:((y.toNat:Nat):Int)=y:=by omega
  exact ⟨y.toNat,⟨by omega,(he _ (by omega)).2 (by rw [e];exact h3)⟩,e⟩
omit h in
theorem tM {f:Edge→Int} {g:Gr} :(bS f g).Nodup:=by
 unfold bS iN
 refine List.Pairwise.map _ (fun a b h e=>h (Int.ofNat.inj e)) (List.Pairwise.filter _ List.nodup_range)
theorem jq.bare:(bS (·.2) (gX g names order)).length=(bS (·.2) g).length:=by
 have e1:(gX g names order).n=g.n:=rfl
 have h1:((bS (·.2) g).map (nm names)).length≤(bS (·.2) (gX g names order)).length:=by
  refine Nat.le_trans (count_le _ (bS (·.2) (gX g names order)) ?_ ?_) List.countP_le_length
  ·rw [List.nodup_iff_pairwise_ne]
   refine List.Pairwise.map _ (fun a b h=>h) ?_
   refine List.Pairwise.imp_of_mem ?_ tM
   intro a b ha hb hab e
   exact hab (h.inj (gR.1 ha).1 (gR.1 hb).1 e)
  ·intro v hv
   obtain ⟨y,hy,rfl⟩:=List.mem_map.1 hv
   obtain ⟨hy1,hy2⟩:=gR.1 hy
   refine gR.2 ⟨h.range hy1,fun i hi e=> ?_⟩
   rw [h.len] at hi
   obtain ⟨j,hj,_,h3⟩:=h.jv hi
   rw [(qi h3).2] at e
   exact hy2 j hj (h.inj (cn h.may hj) hy1 e)
 have h2:((bS (·.2) (gX g names order)).map (dI names)).length≤(bS (·.2) g).length:=by
  have hsplit:∀v∈bS (·.2) (gX g names order),∃a,(0≤a∧a<g.n)∧nm names a=v:=fun v hv=>h.of (gR.1 hv).1
  refine Nat.le_trans (count_le _ (bS (·.2) g) ?_ ?_) List.countP_le_length
  ·rw [List.nodup_iff_pairwise_ne]
   refine List.Pairwise.map _ (fun a b h=>h) ?_
   refine List.Pairwise.imp_of_mem ?_ tM
   intro a b ha hb hab e
   obtain ⟨a',JT,rfl⟩:=hsplit a ha
   obtain ⟨b',hb',rfl⟩:=hsplit b hb
   rw [h.inv JT,h.inv hb'] at e
   exact hab (by rw [e])
  ·intro v hv
   obtain ⟨y,hy,rfl⟩:=List.mem_map.1 hv
   obtain ⟨a,ha,rfl⟩:=hsplit y hy
   rw [h.inv ha]
   refine gR.2 ⟨ha,fun j hj e=> ?_⟩
   obtain ⟨i,hi,_,h3⟩:=h.back hj
   refine (gR.1 hy).2 i (by rw [h.len];exact hi) ?_
   rw [(qi h3).2,e]
 simp only [List.length_map] at h1 h2
 omega
theorem jq.kind:(bJ (gX g names order)).1=(bJ g).1:=by
 have hm:=h.may'
 have hc:(0<(jT (gX g names order)).length)↔0<(jT g).length:=by
  have key:∀g:Gr,aP g=true→((0<(jT g).length)↔oZ g=false):=by
   intro g hm
   cases ho:oZ g with
   |true=>rw [AQ hm ho];simp
   |false=>simp [(tL hm ho).1]
  rw [key _ hm,key _ h.may,h.ME]
 have h1:=h.loop
 have h2:=h.Kh
 have h3:=h.bare
 simp only [bJ,gP,hm,h.may]
 simp only [Bool.true_eq_false,if_false,h1,h2,hc,h3]
 split
 ·rfl
 split
 ·rfl
 split
 ·rfl
 split<;>rfl
end
theorem Cm {g:Gr} (hm:aP g=true):
 (bJ g).1=13∧(bJ g).2.2= []∧oZ g=false∨(bJ g).1=14∧(bJ g).2.2= []∨(bJ g).1=15∧oZ g=false∧Kg g (bJ g).2.2∨
 (bJ g).1=16∧oZ g=true∧(∀a∈(bJ g).2.2,∀i,i<g.es.length→hd g i≠a)∨(bJ g).1=0∧(bJ g).2.2= []∧oZ g=true:=by
 unfold bJ gP
 rw [if_neg (by simp [hm])]
 split
 ·rename_i hl
  refine .inl ⟨rfl,rfl, ?_⟩
  cases ho:oZ g with
  |false=>rfl
  |true=>
   exfalso
   obtain ⟨r,hr⟩:=(rz hm).1 ho
   have:=gB (fun e:Edge=>decide (e.1=e.2)) g.es
   have h2:g.es.any (fun e:Edge=>decide (e.1=e.2))=true:=by rw [← this];exact decide_eq_true hl
   obtain ⟨e,he,h3⟩:=List.any_eq_true.1 h2
   obtain ⟨i,hi,rfl⟩:=List.getElem_of_mem he
   have h4:=hr i hi
   have h5:tl g i=hd g i:=by simpa [tl,hd,List.getD_eq_getElem?_getD,List.getElem?_eq_getElem hi] using h3
   rw [h5] at h4;omega
 split
 ·exact .inr (.inl ⟨rfl,rfl⟩)
 split
 ·rename_i hc
  refine .inr (.inr (.inl ⟨rfl, ?_⟩))
  cases ho:oZ g with
  |false=>exact ⟨rfl,(tL hm ho).2⟩
  |true=>rw [AQ hm ho] at hc;simp at hc
 rename_i hc
 have ho:oZ g=true:=by
  cases ho:oZ g with
  |true=>rfl
  |false=>exact absurd (tL hm ho).1 hc
 split
 ·refine .inr (.inr (.inr (.inl ⟨rfl,ho,fun a ha=> ?_⟩)))
  exact (gR.1 (List.mem_of_mem_take ha)).2
 ·exact .inr (.inr (.inr (.inr ⟨rfl,rfl,ho⟩)))
end Go.Ab
end
section
namespace Go.Ab
open Go.Proofs
set_option maxRecDepth 10000
def NK:Nat→List Edge→Int→Option (Int × Int)
 |_, [],_=>none
 |m,e::N,v=>if e.1=v then some ((m:Int),e.2) else NK (m+1) N v
def QK (m:Nat) (N:List Edge) (t:It):It:=if 0≤t.1 then t else match NK m N t.2.1 with
 |some (i,h)=>(i,t.2.1,h)
 |none=>t
structure NL (g:Gr) (p:Pl):Prop where
 run:cA g p
 n:(Ek g p).n≤64
 es:(Ek g p).es.length≤128
variable {g:Gr} {p:Pl}
end Go.Ab
end
section
namespace Go.Ab
open Go.Proofs
set_option maxRecDepth 10000
variable {g:Gr} {p:Pl}
theorem AR {p:Pl} {k:Nat} {v:Int} (hk:k≤p.ord.length) (h:v∈p.ord.take k):∃j,j<k∧aq p j=v:=by
 obtain ⟨j,hj,e⟩:=List.mem_iff_getElem.1 h
 simp only [List.length_take] at hj
 refine ⟨j,by omega, ?_⟩
 rw [← e,aq,List.getD_eq_getElem?_getD,List.getElem?_eq_getElem (by omega)]
 simp
end Go.Ab
end
section
namespace Go.Ab
open Go.Proofs
set_option maxRecDepth 10000
variable {g:Gr} {p:Pl}
theorem qj (hr:cA g p):bH p (aq p (g.n.toNat - 1))= []∧aq p (g.n.toNat - 1)∈loose (kX g p):=by
 have hm:=aA hr.1
 have hn:=aT hm
 obtain ⟨k,hk⟩:∃k,g.n.toNat=k+1:=⟨g.n.toNat - 1,by omega⟩
 obtain ⟨hi,_,_⟩:=dm hm hr.2.1 (k:=k) (by omega) fun j hj=>hr.2.2 j (by omega)
 obtain ⟨A,X,C,hrw,_,_,_,hs⟩:=iX hm hi.toij (hr.2.2 k (by omega))
 have hL:kX g p=A++aO g (aq p k) (bH p (aq p k))++C:=by
  unfold kX;rw [hk]
  show (az _ _ _ _).2.row=_
  rw [hs]
 have Bl:g.n.toNat - 1=k:=by omega
 rw [Bl]
 have lu:=zV hr
 have hx:=aM hr.2.1 (k:=k) (by omega)
 have h0:bH p (aq p k)= []:=by
  refine Decidable.byContradiction fun h0=> ?_
  have ha:aO g (aq p k) (bH p (aq p k))=(bH p (aq p k)).map (fL g (aq p k)):=if_neg h0
  obtain ⟨i,hi'⟩:=List.exists_mem_of_ne_nil _ h0
  have h1:=lu (fL g (aq p k) i) (by rw [hL,ha];simp;exact .inr (.inl ⟨i,hi',rfl⟩))
  obtain ⟨e,rfl,_⟩:=j4 ((bP hr.2.1 hx.1 hx.2).mem_iff.1 hi')
  simp [fL] at h1
  omega
 refine ⟨h0, ?_⟩
 have ha:aO g (aq p k) (bH p (aq p k))= [(-1,aq p k, -1)]:=if_pos h0
 rw [hL,ha,uZ,uZ]
 simp [loose]
theorem mN {f:Edge→Int} {g:Gr} {y:Int} :y∈bS f g↔(0≤y∧y<g.n)∧aG f g.es g.es.length y= []:=by
 simp only [bS,iN,List.mem_map,List.mem_filter,List.mem_range,decide_eq_true_eq]
 have he:∀x:Nat,x<g.n.toNat→(((de f g).getD x []).length=0↔aG f g.es g.es.length (x:Int)= []):=by
  intro x hx
  have e:(de f g).getD x []=aG f g.es g.es.length (x:Int):=by
   simp [de,List.getD_eq_getElem?_getD,List.getElem?_range hx,jX]
  rw [e,List.length_eq_zero_iff]
 constructor
 ·rintro ⟨x,⟨hx,h0⟩,rfl⟩
  exact ⟨by simp;omega,(he x hx).1 h0⟩
 ·rintro ⟨⟨h1,h2⟩,h3⟩
  have e:((y.toNat:Nat):Int)=y:=by omega
  exact ⟨y.toNat,⟨by omega,(he _ (by omega)).2 (by rw [e];exact h3)⟩,e⟩
end Go.Ab
end
section
namespace Go.Ab
open Go.Proofs
set_option maxRecDepth 10000
def fZ (l:List It):List It:=l.filter fun t=>decide (0≤t.1)
theorem mO {a b:List It} :fZ (a++b)=fZ a++fZ b:=by simp [fZ]
theorem eM {l:List It} {t:It} :t∈fZ l↔t∈l∧0≤t.1:=by simp [fZ]
theorem rC {x:Int} {l:List It} (h:fV x l):fV x (fZ l):=fun t ht=>h t (eM.1 ht).1
def uk (x:Int) (l:List It):Prop:=∀t∈l,t.2.2=x
theorem j8 {g:Gr} {x:Int} {o:List Int} (ho:∀i∈o,0≤i):fZ (aO g x o)=o.map (fL g x):=by
 unfold aO
 split
 ·rename_i h;subst h;rfl
 ·refine List.filter_eq_self.2 fun t ht=> ?_
  obtain ⟨i,hi,rfl⟩:=List.mem_map.1 ht
  exact decide_eq_true (ho i hi)
theorem ve {x:Int} :∀ {X Y c d:List It},uk x X→uk x Y→fV x c→fV x d→X++c=Y++d→X=Y∧c=d
 | [], [],c,d,_,_,_,_,e=>⟨rfl,e⟩
 | [],u::Y,c,d,_,hY,hc,_,e=>by
   simp only [List.nil_append] at e
   exact absurd (hY u (by simp)) (hc u (by rw [e];simp))
 |t::X, [],c,d,hX,_,_,hd,e=>by
  simp only [List.nil_append] at e
  exact absurd (hX t (by simp)) (hd t (by rw [← e];simp))
 |t::X,u::Y,c,d,hX,hY,hc,hd,e=>by
  simp only [List.cons_append,List.cons.injEq] at e
  obtain ⟨e1,e2⟩:=ve (fun s hs=>hX s (by simp [hs])) (fun s hs=>hY s (by simp [hs])) hc hd e.2
  exact ⟨by rw [e.1,e1],e2⟩
theorem yJ {x:Int} :∀ {a b X Y c d:List It},fV x a→fV x b→uk x X→uk x Y→fV x c→fV x d→X≠ []→Y≠ []→a++X++c=b++Y++d→a=b∧X=Y∧c=d
 |t::a, [],X,u::Y,c,d,ha,_,_,hY,_,_,_,_,e=>by
  simp only [List.cons_append,List.nil_append,List.cons.injEq] at e
  exact absurd (by rw [e.1];exact hY u (by simp)) (ha t (by simp))
 | [],t::b,u::X,Y,c,d,_,hb,hX,_,_,_,_,_,e=>by
   simp only [List.cons_append,List.nil_append,List.cons.injEq] at e
   exact absurd (by rw [← e.1];exact hX u (by simp)) (hb t (by simp))
 |t::a,u::b,X,Y,c,d,ha,hb,hX,hY,hc,hd,nX,nY,e=>by
  simp only [List.cons_append,List.cons.injEq] at e
  obtain ⟨e1,e2,e3⟩:=yJ (fun s hs=>ha s (by simp [hs])) (fun s hs=>hb s (by simp [hs])) hX hY hc hd nX nY e.2
  exact ⟨by rw [e.1,e1],e2,e3⟩
 | [], [],X,Y,c,d,_,_,hX,hY,hc,hd,_,_,e=>by
   refine ⟨rfl, ?_⟩
   simp only [List.nil_append] at e
   exact ve hX hY hc hd e
 | [],_::_, [],_,_,_,_,_,_,_,_,_,h,_,_=>absurd rfl h
 |_::_, [],_, [],_,_,_,_,_,_,_,_,_,h,_=>absurd rfl h
theorem Ey {g:Gr} (hm:aP g=true) {f:Fr} (hi:ij g f) {x:Int} (hR:aC g f x=true) (hn:bA g x≠0):
 ∃a X c,fZ f.row=a++X++c∧fV x a∧fV x c∧uk x X∧X.length=bA g x∧∀o,fZ (az g f x o).2.row=a++fZ (aO g x o)++c:=by
 obtain ⟨A,X,C,hr,hA,hC,hX,cX⟩:=c8 hm hi hR hn
 have hx:=(aW hR).1
 have hmem:∀t∈X,t∈f.row:=fun t ht=>by rw [hr];simp [ht]
 have hiff:∀t∈X,(0≤t.1↔t.2.2=x):=fun t ht=>by
  have h1:=(hi.it t (hmem t ht)).head hm
  have h2:=hX.al t ht
  omega
 refine ⟨fZ A,fZ X,fZ C,by rw [hr,mO,mO],rC hA,rC hC,fun t ht=> ?_, ?_,fun o=> ?_⟩
 ·obtain ⟨h1,h2⟩:=eM.1 ht
  exact (hiff t h1).1 h2
 ·rw [← cX,fZ, ← List.countP_eq_length_filter]
  refine List.countP_congr fun t ht=> ?_
  simp only [lz,decide_eq_true_eq]
  exact hiff t ht
 ·rw [kM o hr hA hC hX]
  simp only [mO]
theorem AS {g:Gr} (hm:aP g=true) {f:Fr} (hi:ij g f) {x:Int} (hR:aC g f x=true) (hn:bA g x≠0) {a X c:List It} (e:fZ f.row=a++X++c) (ha:fV x a) (hc:fV x c) (hX:uk x X) (nX:X≠ []) (o:List Int):
 fZ (az g f x o).2.row=a++fZ (aO g x o)++c:=by
 obtain ⟨b,Y,d,e',hb,hd,hY,lY,hs⟩:=Ey hm hi hR hn
 have nY:Y≠ []:=fun h=>hn (by rw [← lY,h];rfl)
 obtain ⟨e1,_,e3⟩:=yJ hb ha hY hX hd hc nY nX (e'.symm.trans e)
 rw [hs o,e1,e3]
theorem yK {g:Gr} (hm:aP g=true) {f:Fr} (hi:ij g f) {x:Int} (h0:0≤x) (h1:x<g.n) (hp:x∉f.pl) {a X c:List It} (e:fZ f.row=a++X++c) (ha:fV x a) (hc:fV x c) (hX:uk x X) (nX:X≠ []) (hl:X.length=bA g x):aC g f x=true:=by
 have hmem:∀j,j<f.row.length→B9 g (f.row.getD j (0,0,0)):=fun j hj=>hi.it _ (aS hj)
 have Bz:f.row.countP (lz x)=X.length:=by
  have h2:f.row.countP (lz x)=(fZ f.row).countP (lz x):=by
   rw [fZ,List.countP_filter]
   refine List.countP_congr fun t ht=> ?_
   have:=(hi.it t ht).head hm
   simp only [lz,Bool.and_eq_true,decide_eq_true_eq]
   omega
  have c1:a.countP (lz x)=0:=List.countP_eq_zero.2 fun t ht=>by simp [lz,ha t ht]
  have c2:c.countP (lz x)=0:=List.countP_eq_zero.2 fun t ht=>by simp [lz,hc t ht]
  have c3:X.countP (lz x)=X.length:=List.countP_eq_length.2 fun t ht=>by simp [lz,hX t ht]
  rw [h2,e,List.countP_append,List.countP_append,c1,c2,c3]
  omega
 rw [← o7 hm hi,gG,if_neg (by rintro (h|h|h);omega;omega;exact hp h),fM h0 h1,Bool.and_eq_true,decide_eq_true_eq]
 have hN:(aG (fun e=>e.2) g.es g.es.length x).length=bA g x:=rfl
 rw [hN]
 refine ⟨?_, ?_⟩
 ·unfold aZ
  rw [jY,kL (Nat.le_refl _),List.take_length,Bz,hl]
 ·rw [Bool.or_eq_true];right
  rcases cZ (row:=f.row) (x:=x) f.row.length with ⟨hs,hno⟩|⟨p,q,n,hs,hab,jG,hc0,dB,hpx,MF,hlo,hhi⟩
  ·have hs':aZ f.row x=(-1,0,0):=hs
   rw [hs'];simp [qH]
  ·have hs':aZ f.row x=((p:Int),(q:Int),(n:Int)):=hs
   rw [hs']
   simp only [Int.toNat_natCast,qH,Bool.not_eq_true']
   rw [← Bool.not_eq_true,uV jG]
   rintro ⟨j,h2,h3,h4⟩
   simp only [kH,Bool.and_eq_true,decide_eq_true_eq] at h4
   have hja:p<j:=by
    refine Nat.lt_of_le_of_ne h2 fun e=> ?_
    subst e;exact h4.1 hpx
   have hjb:j<q - 1:=by
    refine Nat.lt_of_le_of_ne (by omega) fun e=> ?_
    subst e;exact h4.1 MF
   have hsub:=((tG (i:=j+1) (j:=q - 1) (tG (i:=p+1) (j:=j) (tG (i:=0) (j:=p) (List.nil_sublist _) (by omega) (by omega)) (by omega) (by omega)) (by omega) (by omega)).trans (List.take_sublist _ f.row)).filter fun t=>decide (0≤t.1)
   have hp1:=(hmem p (by omega)).head hm
   have hj1:=(hmem j (by omega)).head hm
   have hq1:=(hmem (q - 1) (by omega)).head hm
   generalize f.row.getD p (0,0,0)=s1 at hsub hp1 hpx
   generalize f.row.getD j (0,0,0)=s2 at hsub hj1 h4
   generalize f.row.getD (q - 1) (0,0,0)=s3 at hsub hq1 MF
   have hf:([]++ [s1]++ [s2]++ [s3]).filter (fun t=>decide (0≤t.1))= [s1,s2,s3]:=List.filter_eq_self.2 fun t ht=>by
    simp only [List.nil_append,List.cons_append,List.mem_cons,List.not_mem_nil,or_false] at ht
    rcases ht with rfl|rfl|rfl
    ·exact decide_eq_true (hp1.1.2 (by omega))
    ·exact decide_eq_true (hj1.1.2 h4.2)
    ·exact decide_eq_true (hq1.1.2 (by omega))
   rw [hf] at hsub
   have hsub: [s1,s2,s3].Sublist (a++(X++c)):=by rw [← List.append_assoc, ← e];exact hsub
   rw [List.sublist_append_iff] at hsub
   obtain ⟨l1,l',el,k1,k'⟩:=hsub
   rw [List.sublist_append_iff] at k'
   obtain ⟨l2,l3,rfl,k2,k3⟩:=k'
   match l1,el,k1 with
   |t::l1,el,k1=>
    simp only [List.cons_append,List.cons.injEq] at el
    exact ha t (k1.subset (by simp)) (by rw [← el.1];exact hpx)
   | [],el,_=>
     match l2,el,k2 with
     | [],el,_=>
       simp only [List.nil_append] at el
       exact hc s1 (k3.subset (by rw [← el];simp)) hpx
     | [t],el,_=>
       simp only [List.nil_append,List.cons_append,List.cons.injEq] at el
       exact hc s3 (k3.subset (by rw [← el.2];simp)) MF
     |t::u::l2,el,k2=>
      simp only [List.nil_append,List.cons_append,List.cons.injEq] at el
      exact h4.1 (by rw [el.2.1];exact hX u (k2.subset (by simp)))
end Go.Ab
end
section
namespace Go.Ab
open Go.Proofs
set_option maxRecDepth 10000
def Ki (gone:List Int) (i:Nat):Bool:= !decide ((i:Int)∈gone)
def IF (gone:List Int) (k:Nat):List Nat:=(List.range k).filter (Ki gone)
def Pw (gone:List Int) (k:Nat):Nat:=(IF gone k).length
def MG (gone:List Int) (es:List Edge) (k:Nat):List Edge:=(IF gone k).map fun i=>es.getD i (0,0)
def Px (g:Gr) (gone:List Int):Gr:=⟨g.n,MG gone g.es g.es.length⟩
def NM (gone:List Int) (i:Int):Int:=if i∈gone then -1 else (Pw gone i.toNat:Int)
def MH (gone:List Int) (l:List Int):List Int:=(l.filter fun i=>decide (i∉gone)).map (NM gone)
def Py (p:Pl) (gone:List Int):Pl:=⟨p.ord,p.outs.map (MH gone)⟩
variable {g:Gr} {p:Pl} {gone:List Int}
def Pz (gone:List Int) (t:It):It:=(NM gone t.1,t.2.1,t.2.2)
def PA (gone:List Int) (l:List It):List It:=(l.filter fun t=>decide (t.1∉gone)).map (Pz gone)
theorem gH (hr:cA g p):bA g (aq p 0)=0:=by
 have hm:=aA hr.1
 have hn:=aT hm
 refine Decidable.byContradiction fun hnz=> ?_
 obtain ⟨A,X,C,hrw,_,_,hX,_⟩:=c8 hm (AI g).toij (hr.2.2 0 (by omega)) hnz
 obtain ⟨q,X0,e1,_⟩:=hX.fst
 rw [e1] at hrw
 simp at hrw
end Go.Ab
end
section
namespace Go.Ab
open Go.Proofs
set_option maxRecDepth 10000
theorem wY {g:Gr} (hm:aP g=true) {f:Fr} (hi:ij g f) {x:Int} (hR:aC g f x=true) (hn:bA g x≠0) (o:List Int):
 ∃a c,fZ f.row=a++fZ (az g f x o).1.1++c∧fV x a∧fV x c∧uk x (fZ (az g f x o).1.1)∧(fZ (az g f x o).1.1).length=bA g x∧fZ (az g f x o).2.row=a++fZ (aO g x o)++c:=by
 obtain ⟨A,X,C,hr,hA,hC,hX,hc⟩:=c8 hm hi hR hn
 have hx:=(aW hR).1
 have hmem:∀t∈X,t∈f.row:=fun t ht=>by rw [hr];simp [ht]
 have hiff:∀t∈X,(0≤t.1↔t.2.2=x):=fun t ht=>by
  have h1:=(hi.it t (hmem t ht)).head hm
  have h2:=hX.al t ht
  constructor
  ·intro h;rcases h2 with h2|h2
   ·exact h2
   ·exact absurd h2 (h1.1.1 h)
  ·intro h;exact h1.1.2 (by omega)
 rw [kM o hr hA hC hX]
 refine ⟨fZ A,fZ C,by rw [hr,mO,mO],rC hA,rC hC,fun t ht=> ?_, ?_,by simp only [mO]⟩
 ·obtain ⟨h1,h2⟩:=eM.1 ht
  exact (hiff t h1).1 h2
 ·rw [← hc,fZ, ← List.countP_eq_length_filter]
  refine List.countP_congr fun t ht=> ?_
  simp only [lz,decide_eq_true_eq]
  exact hiff t ht
def cO (g:Gr) (p:Pl) (x:Int):List Int:=(fZ ((eu g p g.n.toNat).getD x.toNat [])).map (·.1)
def pq (g:Gr) (p:Pl) (f:Fr) (x:Int):List Int:=(fZ (az g f x (bH p x)).1.1).map (·.1)
def qJ (g:Gr) (p:Pl):Nat→Fr→Prop
 |0,f=>(f.pl.length:Int)=g.n
 |m+1,f=>∃x,aC g f x=true∧pq g p f x=cO g p x∧qJ g p m (uY g p f x)
theorem tN {g:Gr} {p:Pl} :∀ {m:Nat} {f f':Fr},f.row=f'.row→f.pl.Perm f'.pl→qJ g p m f→qJ g p m f'
 |0,f,f',_,hp,h=>by
  have h:(f.pl.length:Int)=g.n:=h
  show (f'.pl.length:Int)=g.n
  rw [← hp.length_eq];exact h
 |m+1,f,f',hr,hp,⟨x,h1,h3,h2⟩=>by
  refine ⟨x,by rw [← yz hr hp];exact h1, ?_,tN ?_ ?_ h2⟩
  ·simp only [pq,az,hr] at h3 ⊢;exact h3
  ·simp only [uY,az,hr]
  ·exact hp.append_right _
theorem vf {g:Gr} (hc:(bJ g).1=0) {p:Pl} (hp:bw g p):∀ {m:Nat} {f:Fr},xu g f→(f.pl.length:Int)+(m+1:Nat)=g.n→qJ g p (m+1) f→∀ {x:Int},aC g f x=true→pq g p f x=cO g p x∧qJ g p m (uY g p f x)
 |m,f,hi,hl,⟨y,uW,K1,hcan⟩,x,hR=>by
  have hm:=aA hc
  by_cases hxy:x=y
  ·subst hxy;exact ⟨K1,hcan⟩
  have py:=bP hp (aW uW).1 (aW uW).2.1
  have px:=bP hp (aW hR).1 (aW hR).2.1
  have i2:=j6 hm hi uW py
  match m,hl,hcan with
  |0,hl,hcan=>
   exfalso
   have h1:=j7 i2.toij (by show ((f.pl++ [y]).length:Int)=g.n;simp;omega) (x:=x) ⟨(aW hR).1,(aW hR).2.1⟩
   have h2:x∈f.pl++ [y]:=h1
   simp [(aW hR).2.2,hxy] at h2
  |m+1,hl,hcan=>
   obtain ⟨h4,h5,h6,h7,h8⟩:=Cg hc hi hxy hR uW px py
   obtain ⟨h9,h3⟩:=vf hc hp i2 (by show (((f.pl++ [y]).length:Nat):Int)+_=_;simp;omega) hcan h5
   refine ⟨?_,y,h4, ?_,tN h6.symm ?_ h3⟩
   ·unfold pq at h9 ⊢;rw [h7];exact h9
   ·unfold pq at K1 ⊢;rw [h8] at K1;exact K1
   show (f.pl++ [y]++ [x]).Perm (f.pl++ [x]++ [y])
   rw [List.append_assoc,List.append_assoc]
   exact List.Perm.append_left _ (List.Perm.swap ..)
theorem vg {g:Gr} {p:Pl} (h:cA g p):∀ {d k:Nat},k+d=g.n.toNat→qJ g p d (fK g p k)
 |0,k,hk=>by
  have hn:=aT (aA h.1)
  obtain ⟨_,eR,_⟩:=dm (aA h.1) h.2.1 (k:=k) (by omega) fun j hj=>h.2.2 j (by omega)
  show ((fK g p k).pl.length:Int)=g.n
  rw [eR,List.length_take,bK h.2.1];omega
 |d+1,k,hk=>⟨aq p k,h.2.2 k (by omega),by
   unfold cO
   rw [o8 h.2.1 (Nat.le_refl _) (show k<g.n.toNat by omega)]
   rfl,vg h (k:=k+1) (by omega)⟩
theorem AT {g:Gr} (hc:(bJ g).1=0) {p:Pl} (hp:bw g p):∀ {m:Nat} {f:Fr},xu g f→qJ g p m f→∀ {i:Nat},i<g.es.length→tl g i∈f.pl→hd g i∉f.pl→∃t∈f.row,t.1=(i:Int)
 |0,f,hi,h,i,hil,_,hh=>by
  have hr:=cn (aA hc) hil
  exact absurd (j7 hi.toij h (x:=hd g i) hr) hh
 |m+1,f,hi,⟨x,hR,_,h⟩,i,hil,ht,hh=>by
  have hm:=aA hc
  have px:=bP hp (aW hR).1 (aW hR).2.1
  by_cases hx:hd g i=x
  ·obtain ⟨t,h1,h2,_⟩:=wV hm hi hR hil hx
   exact ⟨t,h1,h2⟩
  ·obtain ⟨t,h1,h2⟩:=AT hc hp (j6 hm hi hR px) h hil (List.mem_append.2 (.inl ht)) (fun h1=>by
    rcases List.mem_append.1 h1 with h1|h1
    ·exact hh h1
    ·exact hx (by simpa using h1))
   obtain ⟨A,X,C,hr,_,_,_,hs⟩:=iX hm hi.toij hR
   rw [hs] at h1
   simp only [List.mem_append] at h1
   rcases h1 with (h1|h1)|h1
   ·exact ⟨t,by rw [hr];simp [h1],h2⟩
   ·rcases j5 (fun i hi=>px.mem_iff.1 hi) h1 with ⟨h3,_⟩|⟨k,h3,h4,h5,_,h6,_⟩
    ·omega
    ·have:k=i:=by omega
     subst this
     exact absurd (h6 ▸ ht) (aW hR).2.2
   ·exact ⟨t,by rw [hr];simp [h1],h2⟩
def iA (g:Gr) (e:Int):Int:=(g.es.getD e.toNat (0,0)).1
def mP (g:Gr) (e:Int):Int:=(g.es.getD e.toNat (0,0)).2
def lp (g:Gr) (x:Int):Prop:=0≤x∧x<g.n
instance {g:Gr} {x:Int} :Decidable (lp g x):=inferInstanceAs (Decidable (0≤x∧x<g.n))
def lX (g:Gr) (p:Pl) (k:Nat) (W D:List Int):Prop:=∃f,xu g f∧f.pl=D∧W=(fZ f.row).map (·.1)∧qJ g p k f∧(D.length:Int)+k=g.n∧aq p 0∈D
def Ez (g:Gr) (p:Pl) (x:Int):Nat:=((ym g.n.toNat p.ord p.ord.length).getD x.toNat 0).toNat
def jC (g:Gr) (p:Pl):PS:=
 {m:=g.es.length,src:=aq p 0,HQ:=aq p (g.n.toNat - 1),tl:=iA g,hd:=mP g,ins:=fun x=>if lp g x then cO g p x else [],outs:=fun x=>if lp g x then bH p x else [],Fo:=Ez g p,Row:=lX g p,k0:=g.n.toNat - 1}
theorem kP {g:Gr} {p:Pl} {x:Int} (h:lp g x):(jC g p).ins x=cO g p x:=if_pos h
theorem pE {g:Gr} {p:Pl} {x:Int} (h:¬lp g x):(jC g p).ins x= []:=if_neg h
theorem jr {g:Gr} {p:Pl} {x:Int} (h:lp g x):(jC g p).outs x=bH p x:=if_pos h
theorem pF {g:Gr} {p:Pl} {x:Int} (h:¬lp g x):(jC g p).outs x= []:=if_neg h
theorem bL {f:Edge→Int} {es:List Edge} {x e:Int} :e∈aG f es es.length x↔(0≤e∧e<es.length)∧f (es.getD e.toNat (0,0))=x:=by
 refine ⟨dR,fun ⟨h1,h2⟩=> ?_⟩
 simp only [aG,List.mem_map,List.mem_filter,List.mem_range,decide_eq_true_eq]
 exact ⟨e.toNat,⟨by omega,h2⟩,by simp;omega⟩
section
variable {g:Gr} {p:Pl}
theorem AU (hm:aP g=true) (hp:bw g p) {k:Nat} (hk:k<g.n.toNat):Ez g p (aq p k)=k:=by
 have hE:=((AN hm).2 hp).1
 have:=wQ hE (p:=k) (k:=p.ord.length) (by rw [bK hp];exact hk) (Nat.le_refl _)
 unfold Ez
 show ((ym _ _ _).getD (p.ord.getD k 0).toNat 0).toNat=k
 rw [this];simp
theorem tO (h:cA g p) {e:Int} (he:0≤e∧e<g.es.length) {k:Nat} (hk:k<g.n.toNat) (hx:mP g e=aq p k):∃j,j<k∧aq p j=iA g e:=by
 have hm:=aA h.1
 obtain ⟨hi,eR,_⟩:=dm hm h.2.1 (k:=k) (by omega) fun j hj=>h.2.2 j (by omega)
 obtain ⟨t,h1,h2,h3,_⟩:=wV hm hi (h.2.2 k hk) (i:=e.toNat) (by omega) hx
 have h4:=hi.tail t h1 (by omega)
 rw [h3,eR] at h4
 exact AR (by rw [bK h.2.1];omega) h4
theorem pG (hm:aP g=true) {f:Fr} (hi:ij g f) {t:It} (ht:t∈fZ f.row):(0≤t.1∧t.1<g.es.length)∧t.2.1=iA g t.1∧t.2.2=mP g t.1:=by
 obtain ⟨h1,h2⟩:=eM.1 ht
 rcases hi.it t h1 with h3|h3
 ·omega
 ·exact ⟨⟨h3.1,h3.2.1⟩,h3.2.2.1,h3.2.2.2⟩
theorem EA {f:Fr} (hi:xu g f):((fZ f.row).map (·.1)).Nodup:=by
 refine List.pairwise_map.2 ?_
 have:=hi.once.filter (fun t:It=>decide (0≤t.1))
 refine List.Pairwise.imp_of_mem (fun {s t} hs ht h1=>h1 (eM.1 hs).2) this
theorem Gj (hm:aP g=true) {f:Fr} (hi:xu g f) {x:Int} (hR:aC g f x=true):(pq g p f x).Nodup∧∀e,e∈pq g p f x↔(0≤e∧e<g.es.length)∧mP g e=x:=by
 by_cases hn:bA g x=0
 ·have hno:=nP hm hi.toij (aW hR).1 hn
  have e0:pq g p f x= []:=by unfold pq;rw [j0 _ hno];rfl
  rw [e0]
  refine ⟨List.nodup_nil,fun e=>⟨fun h=>by (cases h),fun ⟨h1,h2⟩=> ?_⟩⟩
  have:=bL.2 ⟨h1,h2⟩
  have h3:aG (·.2) g.es g.es.length x= []:=List.eq_nil_of_length_eq_zero hn
  rw [h3] at this;cases this
 ·obtain ⟨a,c,e1,ha,hc,hX,hl,_⟩:=wY hm hi.toij hR hn (bH p x)
  have b7:=EA hi
  have hmem:∀t∈fZ (az g f x (bH p x)).1.1,t∈fZ f.row:=fun t ht=>by rw [e1];simp [ht]
  rw [e1,List.map_append,List.map_append,List.nodup_append] at b7
  have Gk:(pq g p f x).Nodup:=(List.nodup_append.1 b7.1).2.1
  have hsub:∀e∈pq g p f x,e∈aG (·.2) g.es g.es.length x:=fun e he=>by
   obtain ⟨t,ht,rfl⟩:=List.mem_map.1 he
   obtain ⟨h1,_,h3⟩:=pG hm hi.toij (hmem t ht)
   exact bL.2 ⟨h1,by rw [← hX t ht,h3];rfl⟩
  have hlen:(aG (·.2) g.es g.es.length x).length=(pq g p f x).length:=by
   unfold pq;rw [List.length_map,hl];rfl
  exact ⟨Gk,fun e=>⟨fun he=>bL.1 (hsub e he),fun he=>wU Gk hsub hlen e (bL.2 he)⟩⟩
theorem AW (h:cA g p) {k:Nat} (hk:k<g.n.toNat):cO g p (aq p k)=pq g p (fK g p k) (aq p k):=by
 unfold cO
 rw [o8 h.2.1 (Nat.le_refl _) hk];rfl
theorem lZ (h:cA g p) {x:Int} (hx:lp g x):(cO g p x).Nodup∧∀e,e∈cO g p x↔(0≤e∧e<g.es.length)∧mP g e=x:=by
 obtain ⟨k,hk,rfl⟩:=fW h.2.1 hx.1 hx.2
 have hm:=aA h.1
 obtain ⟨hi,_,_⟩:=dm hm h.2.1 (k:=k) (by omega) fun j hj=>h.2.2 j (by omega)
 rw [AW h hk]
 exact Gj hm hi (h.2.2 k hk)
theorem j9 (h:cA g p) {x:Int} (hx:lp g x):(cO g p x).length=bA g x:=by
 obtain ⟨h1,h2⟩:=lZ h hx
 refine Nat.le_antisymm ?_ ?_
 ·exact fE h1 fun e he=>bL.2 ((h2 e).1 he)
 ·exact fE bX fun e he=>(h2 e).2 (bL.1 he)
theorem eZ (h:cA g p) (hI:pQ g=true) {x:Int} (hx:lp g x):bH p x= []↔x=aq p (g.n.toNat - 1):=by
 have hm:=aA h.1
 have hn:=aT hm
 constructor
 ·intro h1
  have hs:=(qj h).1
  have hsi:=aM h.2.1 (k:=g.n.toNat - 1) (by omega)
  have b1:=mN (f:=(·.1)) (g:=g) (y:=x) |>.2 ⟨hx,(pe h.2.1 hx.1 hx.2).2 h1⟩
  have b2:=mN (f:=(·.1)) (g:=g) (y:=aq p (g.n.toNat - 1)) |>.2 ⟨hsi,(pe h.2.1 hsi.1 hsi.2).2 hs⟩
  have hl:(bS (·.1) g).length=1:=by
   unfold pQ at hI
   simp only [Bool.and_eq_true,decide_eq_true_eq] at hI
   exact hI.2
  obtain ⟨y,hy⟩:=List.length_eq_one_iff.1 hl
  rw [hy,List.mem_singleton] at b1 b2
  rw [b1,b2]
 ·rintro rfl;exact (qj h).1
theorem vh (h:cA g p) (hI:pQ g=true) {f:Fr} (hi:xu g f):∀ {d k:Nat},k+d=g.n.toNat→k<g.n.toNat→aq p k∉f.pl→aq p (g.n.toNat - 1)∉f.pl
 |0,k,h1,h2,_=>by omega
 |d+1,k,h1,h2,h3=>by
  have hm:=aA h.1
  have hx:=aM h.2.1 h2
  by_cases hs:bH p (aq p k)= []
  ·rw [(eZ h hI hx).1 hs] at h3;exact h3
  ·obtain ⟨e,u,he⟩:=jj hs
   have tX:e∈bn g (aq p k):=(bP h.2.1 hx.1 hx.2).mem_iff.1 (by rw [he];simp)
   obtain ⟨om,xo⟩:=bL.1 tX
   have hh:=cn hm (i:=e.toNat) (by omega)
   obtain ⟨k',hk',e'⟩:=fW h.2.1 hh.1 hh.2
   obtain ⟨j,hj,e2⟩:=tO h om hk' e'.symm
   have:j=k:=dO h.2.1 (by omega) h2 (e2.trans xo)
   refine vh h hI hi (d:=g.n.toNat - k') (k:=k') (by omega) hk' fun h4=> ?_
   have:=hi.low e.toNat (by omega) (e' ▸ h4)
   have h5:tl g e.toNat=aq p k:=xo
   exact h3 (h5 ▸ this)
 termination_by d=>d
theorem lX.nd {k:Nat} {W D:List Int} (h:lX g p k W D):W.Nodup:=by
 obtain ⟨f,hi,_,rfl,_⟩:=h;exact EA hi
theorem lX.mem (h:cA g p) {k:Nat} {W D:List Int} (hr:lX g p k W D) (e:Int):e∈W↔(0≤e∧e<g.es.length)∧iA g e∈D∧mP g e∉D:=by
 have hm:=aA h.1
 obtain ⟨f,hi,rfl,rfl,hc,_⟩:=hr
 constructor
 ·intro he
  obtain ⟨t,ht,rfl⟩:=List.mem_map.1 he
  obtain ⟨h1,h2,h3⟩:=pG hm hi.toij ht
  obtain ⟨h4,h5⟩:=eM.1 ht
  exact ⟨h1,h2 ▸ hi.tail t h4 h5,h3 ▸ hi.head t h4 h5⟩
 ·rintro ⟨h1,h2,h3⟩
  obtain ⟨t,h4,h5⟩:=AT h.1 h.2.1 hi hc (i:=e.toNat) (by omega) h2 h3
  exact List.mem_map.2 ⟨t,eM.2 ⟨h4,by omega⟩,by omega⟩
theorem lX.next (h:cA g p) {k:Nat} {W D:List Int} (hr:lX g p (k+1) W D):∃x A C,W=A++(jC g p).ins x++C∧(jC g p).ins x≠ []:=by
 have hm:=aA h.1
 obtain ⟨f,hi,rfl,rfl,⟨x,hR,hg,_⟩,_,hs⟩:=hr
 obtain ⟨x0,x1,x2⟩:=aW hR
 have hx:lp g x:=⟨x0,x1⟩
 have hn:bA g x≠0:=fun h0=>by
  have:=mM h.1 (x:=x) (y:=aq p 0) hx (hi.GP _ hs) h0 (gH h)
  exact x2 (this ▸ hs)
 obtain ⟨a,c,e1,_,_,_,hl,_⟩:=wY hm hi.toij hR hn (bH p x)
 refine ⟨x,a.map (·.1),c.map (·.1), ?_, ?_⟩
 ·rw [kP hx, ← hg,e1,List.map_append,List.map_append];rfl
 ·rw [kP hx]
  intro h0
  have:=j9 h hx
  rw [h0] at this
  exact hn this.symm
theorem lX.step (h:cA g p) {k:Nat} {W D A C:List Int} {x:Int} (hr:lX g p k W D) (hW:W=A++(jC g p).ins x++C) (hI:(jC g p).ins x≠ []):∃k',k=k'+1∧lX g p k' (A++(jC g p).outs x++C) (D++ [x]):=by
 have hm:=aA h.1
 have hx:lp g x:=Decidable.byContradiction fun h0=>hI (pE h0)
 have b7:=hr.nd
 have hmem:=lX.mem h hr
 rw [kP hx] at hW hI
 rw [jr hx]
 obtain ⟨i1,i2⟩:=lZ h hx
 obtain ⟨e0,u0,Gb⟩:=jj hI
 have NN:x∉D:=by
  have h1:=(i2 e0).1 (by rw [Gb];simp)
  have h2:=(hmem e0).1 (by rw [hW,Gb];simp)
  rw [h1.2] at h2;exact h2.2.2
 obtain ⟨f,hi,rfl,PB,hc,hD,hs⟩:=hr
 rw [PB] at hW b7
 obtain ⟨l1,c,e1,e2,e3⟩:=List.map_eq_append_iff.1 hW
 obtain ⟨a,X,e4,e5,e6⟩:=List.map_eq_append_iff.1 e2
 have hrow:fZ f.row=a++X++c:=by rw [e1,e4]
 rw [hrow,List.map_append,List.map_append,e5,e6,e3] at b7
 have hit:∀t∈a++X++c,(0≤t.1∧t.1<g.es.length)∧t.2.1=iA g t.1∧t.2.2=mP g t.1:=fun t ht=>pG hm hi.toij (by rw [hrow];exact ht)
 have hX:uk x X:=fun t ht=>by
  have h1:t.1∈cO g p x:=by rw [← e6];exact List.mem_map_of_mem ht
  rw [(hit t (by simp [ht])).2.2,((i2 _).1 h1).2]
 have hin:∀t∈a++X++c,t.2.2=x→t.1∈cO g p x:=fun t ht e=>by
  obtain ⟨h1,_,h3⟩:=hit t ht
  exact (i2 _).2 ⟨h1,by rw [← h3,e]⟩
 have ha:fV x a:=fun t ht e=>by
  have h1:=hin t (by simp [ht]) e
  have h2:t.1∈A:=by rw [← e5];exact List.mem_map_of_mem ht
  exact (List.nodup_append.1 (List.nodup_append.1 b7).1).2.2 _ h2 _ h1 rfl
 have NO:fV x c:=fun t ht e=>by
  have h1:=hin t (by simp [ht]) e
  have h2:t.1∈C:=by rw [← e3];exact List.mem_map_of_mem ht
  exact (List.nodup_append.1 b7).2.2 _ (List.mem_append.2 (.inr h1)) _ h2 rfl
 have Mt:X.length=bA g x:=by rw [← j9 h hx, ← e6,List.length_map]
 have nX:X≠ []:=fun h0=>hI (by rw [← e6,h0];rfl)
 have hR:=yK hm hi.toij hx.1 hx.2 NN hrow ha NO hX nX Mt
 have hn:bA g x≠0:=fun h0=>nX (List.eq_nil_of_length_eq_zero (Mt.trans h0))
 have px:=bP h.2.1 hx.1 hx.2
 cases k with
 |zero=>exact absurd (j7 hi.toij (by omega) hx) NN
 |succ k=>
  refine ⟨k,rfl,uY g p f x,j6 hm hi hR px,rfl, ?_,(vf h.1 h.2.1 hi (by omega) hc hR).2, ?_,List.mem_append.2 (.inl hs)⟩
  ·have:=AS hm hi.toij hR hn hrow ha NO hX nX (bH p x)
   show _=(fZ (az g f x (bH p x)).2.row).map (·.1)
   rw [this,List.map_append,List.map_append,e5,e3,j8 (fun i hi=>by
    have:=bL.1 (px.mem_iff.1 hi);exact this.1.1),List.map_map]
   have e7:((fun t:It=>t.1) ∘ fL g x)=id:=rfl
   rw [e7,List.map_id]
  ·show (((f.pl++ [x]).length:Nat):Int)+_=_
   rw [List.length_append,List.length_singleton];omega
theorem Cn (h:cA g p):lX g p (g.n.toNat - 1) (bH p (aq p 0)) [aq p 0]:=by
 have hm:=aA h.1
 have hn:=aT hm
 have hx:=aM h.2.1 (k:=0) (by omega)
 obtain ⟨hi,eR,_⟩:=dm hm h.2.1 (k:=1) (by omega) fun j hj=>h.2.2 j (by omega)
 have px:=bP h.2.1 hx.1 hx.2
 have hno:fV (aq p 0) (fK g p 0).row:=fun t ht=>by cases ht
 have hf:fK g p 1=⟨aO g (aq p 0) (bH p (aq p 0)), [aq p 0]⟩:=by
  show (az g (fK g p 0) (aq p 0) _).2=_
  rw [j0 _ hno]
  show (⟨_++ [], []++ [_]⟩:Fr)=_
  simp
 refine ⟨fK g p 1,hi,by rw [hf], ?_,vg h (by omega),by simp;omega,by simp⟩
 rw [hf]
 show _=(fZ (aO g (aq p 0) (bH p (aq p 0)))).map (·.1)
 rw [j8 (fun i hi=>(bL.1 (px.mem_iff.1 hi)).1.1),List.map_map]
 have e7:((fun t:It=>t.1) ∘ fL g (aq p 0))=id:=rfl
 rw [e7,List.map_id]
theorem AX (h:cA g p) (hI:pQ g=true):(jC g p).Ok:=by
 have hm:=aA h.1
 have hn:=aT hm
 have h0:lp g (aq p 0):=aM h.2.1 (by omega)
 exact {
  jO:=fun x e=>by
   show _↔(0≤e∧e<g.es.length)∧iA g e=x
   by_cases hx:lp g x
   ·rw [jr hx,(bP h.2.1 hx.1 hx.2).mem_iff];exact bL
   ·rw [pF hx]
    refine ⟨fun h=>by (cases h),fun ⟨h1,h2⟩=>absurd ?_ hx⟩
    rw [← h2];exact bN hm (i:=e.toNat) (by omega)
  dV:=fun x e=>by
   show _↔(0≤e∧e<g.es.length)∧mP g e=x
   by_cases hx:lp g x
   ·rw [kP hx];exact (lZ h hx).2 e
   ·rw [pE hx]
    refine ⟨fun h=>by (cases h),fun ⟨h1,h2⟩=>absurd ?_ hx⟩
    rw [← h2];exact cn hm (i:=e.toNat) (by omega)
  oQ:=fun x=>by
   by_cases hx:lp g x
   ·rw [jr hx,(bP h.2.1 hx.1 hx.2).nodup_iff];exact bX
   ·rw [pF hx];exact List.nodup_nil
  zC:=fun x=>by
   by_cases hx:lp g x
   ·rw [kP hx];exact (lZ h hx).1
   ·rw [pE hx];exact List.nodup_nil
  pW:=fun e he=>by
   have he:0≤e∧e<g.es.length:=he
   have hh:=cn hm (i:=e.toNat) (by omega)
   obtain ⟨k,hk,e1⟩:=fW h.2.1 hh.1 hh.2
   obtain ⟨j,hj,e2⟩:=tO h he hk e1.symm
   show Ez g p (iA g e)<Ez g p (mP g e)
   have e3:mP g e=aq p k:=e1.symm
   rw [← e2,e3,AU hm h.2.1 hk,AU hm h.2.1 (by omega)]
   exact hj
  F5:=by
   show lX g p (g.n.toNat - 1) ((jC g p).outs (aq p 0)) [aq p 0]
   rw [jr h0];exact Cn h
  nF:=fun hr=>lX.nd hr
  fe:=fun hr e=>lX.mem h hr e
  lI:=fun hr=>lX.next h hr
  oR:=fun hr h1 h2=>lX.step h hr h1 h2
  mI:=fun {W D} hr e he=>by
   obtain ⟨f,hi,rfl,_,_,hD,_⟩:=hr
   exact j7 hi.toij (by omega) (cn hm (i:=e.toNat) (by have:=he.1;have:=he.2;have:e<g.es.length:=he.2;omega))
  qZ:=fun {k W D} hr=>by obtain ⟨f,hi,rfl,_,_,_,hs⟩:=hr;exact hs
  q6:=fun {k W D} hr hs=>by
   obtain ⟨f,hi,rfl,_,_,hD,_⟩:=hr
   refine Decidable.byContradiction fun hk=> ?_
   have:∃k',k'<g.n.toNat∧aq p k'∉f.pl:=by
    refine Decidable.byContradiction fun hall=> ?_
    have hall:∀k',k'<g.n.toNat→aq p k'∈f.pl:=fun k' hk'=>Decidable.byContradiction fun h1=>hall ⟨k',hk',h1⟩
    have:=fE (l:=p.ord) (m:=f.pl) (tH h.2.1) fun x hx=>by
     have hx:=dH.1 (h.2.1.2.1.mem_iff.1 hx)
     obtain ⟨k',h1,rfl⟩:=fW h.2.1 hx.1 (by omega)
     exact hall k' h1
    rw [bK h.2.1] at this
    omega
   obtain ⟨k',h1,h2⟩:=this
   exact vh h hI hi (d:=g.n.toNat - k') (by omega) h1 h2 hs
  v8:=by
   show (jC g p).ins (aq p 0)= []
   rw [kP h0]
   have:=j9 h h0
   rw [gH h] at this
   exact List.eq_nil_of_length_eq_zero this
  q7:=fun x hx=>by
   have Em:lp g x:=Decidable.byContradiction fun h0=>hx (pE h0)
   rw [jr Em]
   exact eZ h hI Em}
end
end Go.Ab
end
section
namespace Go.Ab
open Go.Proofs
set_option maxRecDepth 10000
structure qk (g:Gr) (p:Pl) (k:Nat) (e:Int):Prop where
 e0:0≤e
 e1:e<g.es.length
 low:iA g e∈p.ord.take k
 top:mP g e∉p.ord.take k
structure EB (g:Gr) (p:Pl) (L:Nat→Int→Int→Prop):Prop where
 up:∀e:Int,0≤e→e<g.es.length→∀k,k<g.n.toNat→aq p k=mP g e→iA g e∈p.ord.take k
 PC:∀k,k<g.n.toNat→∀a b c:Int,qk g p k a→qk g p k b→qk g p k c→mP g a=aq p k→mP g c=aq p k→L k a b→L k b c→mP g b=aq p k
 keep:∀k,k<g.n.toNat→∀a b:Int,qk g p k a→qk g p k b→mP g a≠aq p k→mP g b≠aq p k→L k a b→L (k+1) a b
 left:∀k,k<g.n.toNat→∀a b c:Int,qk g p k a→qk g p k b→mP g a≠aq p k→mP g b=aq p k→c∈bH p (aq p k)→L k a b→L (k+1) a c
 right:∀k,k<g.n.toNat→∀a b c:Int,qk g p k a→qk g p k b→mP g a≠aq p k→mP g b=aq p k→c∈bH p (aq p k)→L k b a→L (k+1) c a
 outs:∀k,k<g.n.toNat→(bH p (aq p k)).Pairwise (L (k+1))
theorem vi {α:Type} (P:α→Prop) [DecidablePred P]:∀l:List α,∃X v,l=X++v∧(∀t∈X,P t)∧(v= []∨∃b v',v=b::v'∧¬P b)
 | []=>⟨[], [],rfl,by simp, .inl rfl⟩
 |a::l=>by
  by_cases h:P a
  ·obtain ⟨X,v,e,h1,h2⟩:=vi P l
   exact ⟨a::X,v,by simp [e],fun t ht=>(List.mem_cons.1 ht).elim (fun e=>e ▸ h) (h1 t),h2⟩
  ·exact ⟨[],a::l,rfl,by simp, .inr ⟨a,l,rfl,h⟩⟩
theorem vj {α:Type} {P:α→Prop} [DecidablePred P] {R:α→α→Prop} :∀ {l:List α},l.Pairwise R→(∀a b c,a∈l→b∈l→c∈l→P a→P c→R a b→R b c→P b)→(∃a∈l,P a)→
 ∃u X v,l=u++X++v∧(∀t∈u,¬P t)∧(∀t∈X,P t)∧X≠ []∧∀t∈v,¬P t
 | [],_,_,⟨a,ha,_⟩=>by cases ha
 |t::l,hp,hb,hex=>by
  obtain ⟨hp1,hp2⟩:=List.pairwise_cons.1 hp
  by_cases h:P t
  ·obtain ⟨X,v,e,h1,h2⟩:=vi P l
   refine ⟨[],t::X,v,by simp [e],by simp,fun s hs=>(List.mem_cons.1 hs).elim (fun e=>e ▸ h) (h1 s),by simp,fun c hc NP=> ?_⟩
   rcases h2 with rfl|⟨b,v',rfl,hnb⟩
   ·cases hc
   ·have an:b∈l:=by rw [e];simp
    rcases List.mem_cons.1 hc with rfl|qN
    ·exact hnb NP
    ·have hbc:R b c:=by
      rw [e] at hp2
      have:=(List.pairwise_append.1 hp2).2.1
      exact (List.pairwise_cons.1 this).1 c qN
     exact hnb (hb t b c (by simp) (by simp [an]) (by rw [e];simp [qN]) h NP (hp1 b an) hbc)
  ·obtain ⟨a,ha,hPa⟩:=hex
   have JT:a∈l:=(List.mem_cons.1 ha).elim (fun e=>absurd (e ▸ hPa) h) id
   obtain ⟨u,X,v,e,h1,h2,h3,h4⟩:=vj hp2 (fun a b c ha hb' hc=>hb a b c (by simp [ha]) (by simp [hb']) (by simp [hc])) ⟨a,JT,hPa⟩
   exact ⟨t::u,X,v,by simp [e],fun s hs=>(List.mem_cons.1 hs).elim (fun e=>e ▸ h) (h1 s),h2,h3,h4⟩
theorem vk {p:Pl} {k:Nat} {y:Int} (h:y∈p.ord.take k):∃j,j<k∧j<p.ord.length∧aq p j=y:=by
 obtain ⟨j,hj,e⟩:=List.mem_iff_getElem.1 h
 simp only [List.length_take] at hj
 refine ⟨j,by omega,by omega, ?_⟩
 rw [aq,List.getD_eq_getElem?_getD,List.getElem?_eq_getElem (by omega),Option.getD_some, ← e,List.getElem_take]
theorem Co {p:Pl} {k j:Nat} (h1:j<k) (h2:j<p.ord.length):aq p j∈p.ord.take k:=by
 rw [aq,List.getD_eq_getElem?_getD,List.getElem?_eq_getElem h2,Option.getD_some]
 exact List.mem_iff_getElem.2 ⟨j,by simp;omega,by simp⟩
theorem vl {g:Gr} {p:Pl} (hp:bw g p) {k:Nat} (hk:k<g.n.toNat):aq p k∉p.ord.take k:=fun h=>by
 obtain ⟨j,h1,h2,h3⟩:=vk h
 have:=dO hp (i:=j) (j:=k) (by omega) hk h3
 omega
theorem zW {g:Gr} {p:Pl} (hp:bw g p) {k:Nat} (hk:k<g.n.toNat):p.ord.take (k+1)=p.ord.take k++ [aq p k]:=by
 rw [List.take_add_one,List.getElem?_eq_getElem (by rw [bK hp];exact hk),aq,List.getD_eq_getElem?_getD,List.getElem?_eq_getElem (by rw [bK hp];exact hk)]
 rfl
section
variable {g:Gr} {p:Pl}
theorem kQ (hm:aP g=true) {f:Fr} (hi:xu g f) {k:Nat} (eR:f.pl=p.ord.take k) {t:It} (ht:t∈fZ f.row):qk g p k t.1∧iA g t.1=t.2.1∧mP g t.1=t.2.2:=by
 obtain ⟨h1,h2⟩:=eM.1 ht
 rcases hi.it t h1 with h|⟨_,g2,g3,g4⟩
 ·omega
 ·refine ⟨⟨h2,g2, ?_, ?_⟩,g3.symm,g4.symm⟩
  ·rw [← eR];unfold iA;rw [← g3];exact hi.tail t h1 h2
  ·rw [← eR];unfold mP;rw [← g4];exact hi.head t h1 h2
theorem yL (hc:(bJ g).1=0) (hp:bw g p) {L:Nat→Int→Int→Prop} (hL:EB g p L):∀ {k:Nat},k≤g.n.toNat→
 (∀j,j<k→uX g p j=true)∧((fZ (fK g p k).row).Pairwise fun s t=>L k s.1 t.1)∧∀e,qk g p k e→∃t∈(fK g p k).row,t.1=e
 |0,_=>⟨fun j hj=>by omega,by simp [fK,fZ],fun e he=>by have:=he.low;simp at this⟩
 |k+1,hk=>by
  have hm:=aA hc
  obtain ⟨ih1,ih2,ih3⟩:=yL hc hp hL (k:=k) (by omega)
  obtain ⟨hi,eR,_⟩:=dm hm hp (k:=k) (by omega) ih1
  obtain ⟨x0,x1⟩:=aM hp (k:=k) (by omega)
  have hnew:=vl hp (k:=k) (by omega)
  have hnext:=zW hp (k:=k) (by omega)
  have hpx:=bP hp x0 x1
  have hout:∀i∈bH p (aq p k),(0≤i∧i<g.es.length)∧iA g i=aq p k:=fun i hi=>bL.1 (hpx.mem_iff.1 hi)
  have Bn:=hL.outs k (by omega)
  have GS:fK g p (k+1)=(az g (fK g p k) (aq p k) (bH p (aq p k))).2:=rfl
  have hab:=j8 (g:=g) (x:=aq p k) (o:=bH p (aq p k)) fun i hi=>(hout i hi).1.1
  have fin:∀a X c:List It,uX g p k=true→fZ (fK g p k).row=a++X++c→fV (aq p k) a→fV (aq p k) c→uk (aq p k) X→(X≠ []∨a++c= [])→fZ (fK g p (k+1)).row=a++fZ (aO g (aq p k) (bH p (aq p k)))++c→
   (∀j,j<k+1→uX g p j=true)∧((fZ (fK g p (k+1)).row).Pairwise fun s t=>L (k+1) s.1 t.1)∧∀e,qk g p (k+1) e→∃t∈(fK g p (k+1)).row,t.1=e:=by
   intro a X c hR e ha qN hX Cp hs
   refine ⟨fun j hj=> ?_, ?_,fun q hq=> ?_⟩
   ·by_cases h:j=k
    ·subst h;exact hR
    ·exact ih1 j (by omega)
   ·have hma:∀t∈a,t∈fZ (fK g p k).row:=fun t ht=>by rw [e];simp [ht]
    have K2:∀t∈X,t∈fZ (fK g p k).row:=fun t ht=>by rw [e];simp [ht]
    have Fu:∀t∈c,t∈fZ (fK g p k).row:=fun t ht=>by rw [e];simp [ht]
    have AY:=fun t ht=>kQ (p:=p) hm hi eR (t:=t) ht
    rw [e,List.pairwise_append,List.pairwise_append] at ih2
    obtain ⟨⟨pa,pX,PD⟩,pc,Kj⟩:=ih2
    have hne:∀t,t∈a∨t∈c→mP g t.1≠aq p k:=fun t ht=>by
     rcases ht with ht|ht
     ·rw [(AY t (hma t ht)).2.2];exact ha t ht
     ·rw [(AY t (Fu t ht)).2.2];exact qN t ht
    rw [hs,hab,List.pairwise_append,List.pairwise_append]
    refine ⟨⟨?_, ?_, ?_⟩, ?_, ?_⟩
    ·exact pa.imp_of_mem fun {s t} hs' ht' h=>hL.keep k (by omega) _ _ (AY s (hma s hs')).1 (AY t (hma t ht')).1 (hne s (.inl hs')) (hne t (.inl ht')) h
    ·rw [List.pairwise_map];exact Bn
    ·intro s hs' t ht'
     obtain ⟨i,hi',rfl⟩:=List.mem_map.1 ht'
     rcases Cp with Cp|h0
     ·obtain ⟨y,Y,rfl⟩:∃y Y,X=y::Y:=by
       cases X with
       |nil=>exact absurd rfl Cp
       |cons y Y=>exact ⟨y,Y,rfl⟩
      exact hL.left k (by omega) s.1 y.1 i (AY s (hma s hs')).1 (AY y (K2 y (by simp))).1 (hne s (.inl hs')) (by rw [(AY y (K2 y (by simp))).2.2];exact hX y (by simp)) hi' (PD s hs' y (by simp))
     ·rw [(List.append_eq_nil_iff.1 h0).1] at hs';cases hs'
    ·exact pc.imp_of_mem fun {s t} hs' ht' h=>hL.keep k (by omega) _ _ (AY s (Fu s hs')).1 (AY t (Fu t ht')).1 (hne s (.inr hs')) (hne t (.inr ht')) h
    ·intro s hs' t ht'
     rcases List.mem_append.1 hs' with hs1|hs1
     ·exact hL.keep k (by omega) _ _ (AY s (hma s hs1)).1 (AY t (Fu t ht')).1 (hne s (.inl hs1)) (hne t (.inr ht')) (Kj s (by simp [hs1]) t ht')
     ·obtain ⟨i,hi',rfl⟩:=List.mem_map.1 hs1
      rcases Cp with Cp|h0
      ·obtain ⟨y,Y,rfl⟩:∃y Y,X=y::Y:=by
        cases X with
        |nil=>exact absurd rfl Cp
        |cons y Y=>exact ⟨y,Y,rfl⟩
       exact hL.right k (by omega) t.1 y.1 i (AY t (Fu t ht')).1 (AY y (K2 y (by simp))).1 (hne t (.inr ht')) (by rw [(AY y (K2 y (by simp))).2.2];exact hX y (by simp)) hi' (Kj y (by simp) t ht')
      ·rw [(List.append_eq_nil_iff.1 h0).2] at ht';cases ht'
   ·have Dv:∃t∈fZ (fK g p (k+1)).row,t.1=q:=by
     have hl:=hq.low
     rw [hnext,List.mem_append,List.mem_singleton] at hl
     have ht:=hq.top
     rw [hnext,List.mem_append,List.mem_singleton] at ht
     rw [hs]
     rcases hl with hl|hl
     ·obtain ⟨t,ht1,ht2⟩:=ih3 q ⟨hq.e0,hq.e1,hl,fun h=>ht (.inl h)⟩
      have hte:t∈fZ (fK g p k).row:=eM.2 ⟨ht1,by rw [ht2];exact hq.e0⟩
      have hh:=(kQ (p:=p) hm hi eR hte).2.2
      have iu:=hte
      rw [e,List.mem_append,List.mem_append] at iu
      rcases iu with (h1|h1)|h1
      ·exact ⟨t,by simp [h1],ht2⟩
      ·exact absurd (by rw [← ht2,hh];exact hX t h1) fun h=>ht (.inr h)
      ·exact ⟨t,by simp [h1],ht2⟩
     ·refine ⟨fL g (aq p k) q, ?_,rfl⟩
      rw [hab,List.mem_append,List.mem_append]
      exact .inl (.inr (List.mem_map.2 ⟨q,hpx.mem_iff.2 (bL.2 ⟨⟨hq.e0,hq.e1⟩,hl⟩),rfl⟩))
    obtain ⟨t,h1,h2⟩:=Dv
    exact ⟨t,(eM.1 h1).1,h2⟩
  by_cases hn:bA g (aq p k)=0
  ·have hno:=nP hm hi.toij x0 hn
   have hR:uX g p k=true:=by
    show aC g (fK g p k) (aq p k)=true
    unfold aC
    rw [if_neg (by rintro (h|h|h);omega;omega;exact hnew (eR ▸ h)),if_pos hn]
   have hrow:(fK g p k).row= []:=by
    rcases hi.src with h|⟨s,hs,hs0⟩
    ·exact h.2
    ·have:=mM hc (hi.GP s hs) ⟨x0,x1⟩ hs0 hn
     exact absurd (by rw [← eR, ← this];exact hs) hnew
   refine fin [] [] [] hR (by rw [hrow];rfl) (fun t ht=>by cases ht) (fun t ht=>by cases ht) (fun t ht=>by cases ht) (.inr rfl) ?_
   rw [GS,j0 _ hno,hrow]
   simp
  ·have hex:∃e,e∈aG (·.2) g.es g.es.length (aq p k):=by
    cases h:aG (·.2) g.es g.es.length (aq p k) with
    |nil=>exact absurd (by unfold bA;rw [h];rfl) hn
    |cons e l=>exact ⟨e,by simp⟩
   have Kk:∀e,e∈aG (·.2) g.es g.es.length (aq p k)→∃t∈fZ (fK g p k).row,t.1=e∧t.2.2=aq p k:=fun e he=>by
    obtain ⟨⟨e0,e1⟩,e2⟩:=bL.1 he
    obtain ⟨t,ht1,ht2⟩:=ih3 e ⟨e0,e1,hL.up e e0 e1 k (by omega) e2.symm,by rw [show mP g e=aq p k from e2];exact hnew⟩
    have hte:t∈fZ (fK g p k).row:=eM.2 ⟨ht1,by rw [ht2];exact e0⟩
    exact ⟨t,hte,ht2,by rw [← (kQ (p:=p) hm hi eR hte).2.2,ht2];exact e2⟩
   obtain ⟨e,he⟩:=hex
   obtain ⟨t0,PE,_,MI⟩:=Kk e he
   obtain ⟨a,X,c,hE,ha,hX,nX,qN⟩:=vj (P:=fun t:It=>t.2.2=aq p k) ih2 (fun a b c ma mb mc ea ec r1 r2=>by
    have ca:=kQ (p:=p) hm hi eR ma
    have cb:=kQ (p:=p) hm hi eR mb
    have cc:=kQ (p:=p) hm hi eR mc
    rw [← cb.2.2]
    exact hL.PC k (by omega) a.1 b.1 c.1 ca.1 cb.1 cc.1 (by rw [ca.2.2];exact ea) (by rw [cc.2.2];exact ec) r1 r2) ⟨t0,PE,MI⟩
   have hlen:X.length=bA g (aq p k):=by
    have b7:((fZ (fK g p k).row).map (·.1)).Nodup:=by
     rw [List.Nodup,List.pairwise_map]
     exact (hi.once.filter _).imp_of_mem fun {s t} hs ht h=>h (eM.1 hs).2
    have MJ:(X.map (·.1)).Nodup:=by
     rw [hE,List.map_append,List.map_append] at b7
     exact (List.nodup_append.1 (List.nodup_append.1 b7).1).2.1
    have GQ:(X.map (·.1)).Perm (aG (·.2) g.es g.es.length (aq p k)):=by
     refine (List.perm_ext_iff_of_nodup MJ bX).2 fun e=>⟨fun h=> ?_,fun h=> ?_⟩
     ·obtain ⟨t,ht,rfl⟩:=List.mem_map.1 h
      have hte:t∈fZ (fK g p k).row:=by rw [hE];simp [ht]
      have ct:=kQ (p:=p) hm hi eR hte
      exact bL.2 ⟨⟨ct.1.e0,ct.1.e1⟩,(show mP g t.1=_ by rw [ct.2.2];exact hX t ht)⟩
     ·obtain ⟨t,ht,h1,h2⟩:=Kk e h
      rw [hE,List.mem_append,List.mem_append] at ht
      rcases ht with (h3|h3)|h3
      ·exact absurd h2 (ha t h3)
      ·exact List.mem_map.2 ⟨t,h3,h1⟩
      ·exact absurd h2 (qN t h3)
    have:=GQ.length_eq
    rw [List.length_map] at this
    exact this
   have hR:uX g p k=true:=yK hm hi.toij x0 x1 (by rw [eR];exact hnew) hE ha qN hX nX hlen
   exact fin a X c hR hE ha qN hX (.inl nX) (by rw [GS];exact AS hm hi.toij hR hn hE ha qN hX nX _)
theorem Cq (hc:(bJ g).1=0) (hp:bw g p) {L:Nat→Int→Int→Prop} (hL:EB g p L):cA g p:=
 ⟨hc,hp,fun k hk=>(yL hc hp hL (k:=k+1) (by omega)).1 k (by omega)⟩
end
end Go.Ab
end
section
namespace Go.Ab
open Go.Proofs
attribute [local congr] ACall.congr
set_option maxRecDepth 20000
set_option maxHeartbeats 8000000
theorem wZ (g:Gr) (hm:aP g=true):Spec Tryz.prog 97 (Args [eG g]) [] (.tup [.d (vw g), .d (sI (bW g)),eB (oZ g)]) []:=by
 have hn:=aT hm
 have hO:=ff g hm
 have hR:=zO g hm
 have hM:=fT g (by omega)
 rw [hm] at hM
 cases hok:oZ g with
 |false=>
  rw [hok] at hR
  (refine Spec.intro (C:=T.cfg [] []) (rs:= [.t 2, .t 3, .t 4]) (T.aj _ _) Tryz.func97 rfl rfl Tryz.ntmps97 Tryz.results97 (by simp [AObj.isNest]) (by simp [AObj.isNest]) (by kernel_rfl) ?_;intro X hX hP hC aD aF vals hA;refine ⟨_,by simp,hA, ?_⟩;have af:X.P.follows .mixedOrders=true:=(by rw [hP];exact T.mixed);clear aD aF)
  repeat' (first|((first|((with_reducible (first|apply oA|apply oB));exact rfl;intro K hK)|(refine hK _ ?_;clear hK K)|((with_reducible (first|apply oG|apply oH));iterate 3 exact rfl)|((with_reducible apply oI);(iterate 2 exact rfl);intro K hK)|(with_reducible (first|apply wI|apply wJ|apply wK)));try simp only [go_sem,simprocAttr])|(with_reducible (first|apply oC|apply oJ|exact oK|apply wA|apply wB|apply wC hX hC|apply wD hX hC|apply wE hX hC af|apply wF hX hC af|apply wG|apply wH|apply And.intro))|((with_reducible refine oD ?_ ?_);kernel_rfl)|((with_reducible (first|apply oE|apply oF));(iterate 3 exact rfl);all_goals (intro h;first|(exact absurd h (by decide))|((try simp only [go_sem,simprocAttr] at h);(try with_reducible intro K hK);simp only [go_sem,simprocAttr])))|((first|((with_reducible apply wL);exact rfl)|((with_reducible apply wM);exact rfl));all_goals (try ((with_reducible intro h);first|(exact absurd h (by decide))|(try simp only [go_sem,simprocAttr] at h))))|omega|((first|refine aa hX hC hP (hO) rfl rfl rfl (by simp only [go_sem,simprocAttr]) rfl ?_|refine aa hX hC hP (hR) rfl rfl rfl (by simp only [go_sem,simprocAttr]) rfl ?_|refine aa hX hC hP (hM) rfl rfl rfl (by simp only [go_sem,simprocAttr]) rfl ?_);try simp only [go_sem,simprocAttr])|(intro h))
 |true=>
  rw [hok] at hR
  (refine Spec.intro (C:=T.cfg [] []) (rs:= [.t 2, .t 3, .t 4]) (T.aj _ _) Tryz.func97 rfl rfl Tryz.ntmps97 Tryz.results97 (by simp [AObj.isNest]) (by simp [AObj.isNest]) (by kernel_rfl) ?_;intro X hX hP hC aD aF vals hA;refine ⟨_,by simp,hA, ?_⟩;have af:X.P.follows .mixedOrders=true:=(by rw [hP];exact T.mixed);clear aD aF)
  repeat' (first|((first|((with_reducible (first|apply oA|apply oB));exact rfl;intro K hK)|(refine hK _ ?_;clear hK K)|((with_reducible (first|apply oG|apply oH));iterate 3 exact rfl)|((with_reducible apply oI);(iterate 2 exact rfl);intro K hK)|(with_reducible (first|apply wI|apply wJ|apply wK)));try simp only [go_sem,simprocAttr])|(with_reducible (first|apply oC|apply oJ|exact oK|apply wA|apply wB|apply wC hX hC|apply wD hX hC|apply wE hX hC af|apply wF hX hC af|apply wG|apply wH|apply And.intro))|((with_reducible refine oD ?_ ?_);kernel_rfl)|((with_reducible (first|apply oE|apply oF));(iterate 3 exact rfl);all_goals (intro h;first|(exact absurd h (by decide))|((try simp only [go_sem,simprocAttr] at h);(try with_reducible intro K hK);simp only [go_sem,simprocAttr])))|((first|((with_reducible apply wL);exact rfl)|((with_reducible apply wM);exact rfl));all_goals (try ((with_reducible intro h);first|(exact absurd h (by decide))|(try simp only [go_sem,simprocAttr] at h))))|omega|((first|refine aa hX hC hP (hO) rfl rfl rfl (by simp only [go_sem,simprocAttr]) rfl ?_|refine aa hX hC hP (hR) rfl rfl rfl (by simp only [go_sem,simprocAttr]) rfl ?_|refine aa hX hC hP (hM) rfl rfl rfl (by simp only [go_sem,simprocAttr]) rfl ?_);try simp only [go_sem,simprocAttr])|(intro h))
def mS (g:Gr) (st:List Int) (x:Nat) (l:List Int):Nat→List Int
 |0=>st
 |j+1=>(mS g st x l j).set x (max ((mS g st x l j).getD x 0) ((mS g st x l j).getD (iA g (l.getD j 0)).toNat 0+1))
def ql (g:Gr):Nat→List Int
 |0=>List.replicate g.n.toNat 0
 |k+1=>mS g (ql g k) ((bW g).getD k 0).toNat (aG (fun e=>e.2) g.es g.es.length ((bW g).getD k 0)) (aG (fun e=>e.2) g.es g.es.length ((bW g).getD k 0)).length
def yM (g:Gr):List Int:=ql g (bW g).length
theorem pH {g:Gr} {st:List Int} {x:Nat} {l:List Int} :∀ {j:Nat},(mS g st x l j).length=st.length
 |0=>rfl
 |j+1=>by rw [mS,List.length_set,pH]
theorem rD {g:Gr} :∀ {k:Nat},(ql g k).length=g.n.toNat
 |0=>by simp [ql]
 |k+1=>by rw [ql,pH,rD]
theorem w5 {g:Gr} {st:List Int} {x:Nat} {l:List Int} {B:Int} (hst:∀v,0≤st.getD v 0∧st.getD v 0≤B):∀ {j:Nat} (v:Nat),0≤(mS g st x l j).getD v 0∧(mS g st x l j).getD v 0≤B+j
 |0,v=>by have:=hst v;show 0≤st.getD v 0∧st.getD v 0≤B+(0:Nat);omega
 |j+1,v=>by
  have h1:=w5 hst (g:=g) (x:=x) (l:=l) (j:=j)
  have h2:=h1 v
  have h3:=h1 x
  have h4:=h1 (iA g (l.getD j 0)).toNat
  have:(mS g st x l (j+1)).getD v 0=(mS g st x l j).getD v 0∨(mS g st x l (j+1)).getD v 0=max ((mS g st x l j).getD x 0) ((mS g st x l j).getD (iA g (l.getD j 0)).toNat 0+1):=by
   rw [mS,List.getD_eq_getElem?_getD,List.getElem?_set]
   split
   ·rename_i e
    subst e
    split
    ·exact .inr rfl
    ·rename_i hl
     left
     rw [List.getD_eq_getElem?_getD,List.getElem?_eq_none (by omega)]
   ·left;rw [← List.getD_eq_getElem?_getD]
  omega
theorem rH {g:Gr} :∀ {k:Nat} (v:Nat),0≤(ql g k).getD v 0∧(ql g k).getD v 0≤(k*g.es.length:Nat)
 |0,v=>by
  have:(ql g 0).getD v 0=0:=by
   rw [ql,List.getD_eq_getElem?_getD,List.getElem?_replicate];split<;>rfl
  omega
 |k+1,v=>by
  have:=w5 (g:=g) (x:=((bW g).getD k 0).toNat) (l:=aG (fun e=>e.2) g.es g.es.length ((bW g).getD k 0)) (fun v=>rH (g:=g) (k:=k) v) (j:=(aG (fun e=>e.2) g.es g.es.length ((bW g).getD k 0)).length) v
  have hl:(aG (fun e=>e.2) g.es g.es.length ((bW g).getD k 0)).length≤g.es.length:=eC
  rw [ql,Nat.add_mul]
  omega
theorem qK (g:Gr) (hm:aP g=true) (hok:oZ g=true):Spec Tryz.prog 69 (Args [eG g]) [] (.tup [.d (sI (yM g)),eN 0]) []:=by
 have hn:=aT hm
 have hPa:=wZ g hm
 rw [hok] at hPa
 have MK:=iT g hm
 have CK:=AM hm
 have hall:=o4 hm hok
 have IX:bW g=aL g:=if_pos hok
 rw [← IX] at hall
 have ML:=lV hall
 have tI:List.replicate g.n.toNat [D.sc (.int .i64 0)]=(ql g 0).map rI:=by rw [ql,List.map_replicate];rfl
 (refine Spec.intro (C:=T.cfg [] []) (rs:= [.t 2, .t 3]) (T.aj _ _) Tryz.func69 rfl rfl Tryz.ntmps69 Tryz.results69 (by simp [AObj.isNest]) (by simp [AObj.isNest]) (by kernel_rfl) ?_;intro X hX hP hC aD aF vals hA;refine ⟨_,by simp,hA, ?_⟩;have af:X.P.follows .mixedOrders=true:=(by rw [hP];exact T.mixed);clear aD aF)
 repeat' (first|((first|((with_reducible (first|apply oA|apply oB));exact rfl;intro K hK)|(refine hK _ ?_;clear hK K)|((with_reducible (first|apply oG|apply oH));iterate 3 exact rfl)|((with_reducible apply oI);(iterate 2 exact rfl);intro K hK)|(with_reducible (first|apply wI|apply wJ|apply wK)));try simp only [go_sem,simprocAttr,tI])|(with_reducible (first|apply oC|apply oJ|exact oK|apply wA|apply wB|apply wC hX hC|apply wD hX hC|apply wE hX hC af|apply wF hX hC af|apply wG|apply wH|apply And.intro))|((with_reducible refine oD ?_ ?_);kernel_rfl)|((with_reducible (first|apply oE|apply oF));(iterate 3 exact rfl);all_goals (intro h;first|(exact absurd h (by decide))|((try simp only [go_sem,simprocAttr,tI] at h);(try with_reducible intro K hK);simp only [go_sem,simprocAttr,tI])))|((first|((with_reducible apply wL);exact rfl)|((with_reducible apply wM);exact rfl));all_goals (try ((with_reducible intro h);first|(exact absurd h (by decide))|(try simp only [go_sem,simprocAttr,tI] at h))))|omega|((first|refine aa hX hC hP (hPa) rfl rfl rfl (by simp only [go_sem,simprocAttr,tI]) rfl ?_);try simp only [go_sem,simprocAttr,tI])|(intro h))
 refine ah (fun k:Nat=>k≤(bW g).length) (fun k=>⟨[(1, .ptr 1 0),(4, .d (vw g)),(7, .ref 22),(23, .d (sI (bW g))),(24,eN (bW g).length),(25,eN k)], [(1, .box [eN g.n, .d (sE g.es)]),(22, .own 3 1 ((ql g k).map rI))]⟩) (fun k=>(bW g).length - k) 0 (by omega) ?_ ?_
 ·refine Le.of ?_ ?_<;>simp [go_sem,simprocAttr]
 rintro k hk
 rcases Nat.lt_or_ge k (bW g).length with bT|An
 rotate_left
 ·have hb:decide ((k:Int)<((bW g).length:Int))=false:=decide_eq_false (by omega)
  obtain rfl:k=(bW g).length:=by omega
  have hL:ql g (bW g).length=yM g:=rfl
  rw [hL]
  repeat' (first|((first|((with_reducible (first|apply oA|apply oB));exact rfl;intro K hK)|(refine hK _ ?_;clear hK K)|((with_reducible (first|apply oG|apply oH));iterate 3 exact rfl)|((with_reducible apply oI);(iterate 2 exact rfl);intro K hK)|(with_reducible (first|apply wI|apply wJ|apply wK)));try simp only [go_sem,simprocAttr,hb])|(with_reducible (first|apply oC|apply oJ|exact oK|apply wA|apply wB|apply wC hX hC|apply wD hX hC|apply wE hX hC af|apply wF hX hC af|apply wG|apply wH|apply And.intro))|((with_reducible refine oD ?_ ?_);kernel_rfl)|((with_reducible (first|apply oE|apply oF));(iterate 3 exact rfl);all_goals (intro h;first|(exact absurd h (by decide))|((try simp only [go_sem,simprocAttr,hb] at h);(try with_reducible intro K hK);simp only [go_sem,simprocAttr,hb])))|((first|((with_reducible apply wL);exact rfl)|((with_reducible apply wM);exact rfl));all_goals (try ((with_reducible intro h);first|(exact absurd h (by decide))|(try simp only [go_sem,simprocAttr,hb] at h))))|omega|(intro h))
 have hb:decide ((k:Int)<((bW g).length:Int))=true:=decide_eq_true (by omega)
 have hx:=ML _ (aS (d:=0) bT)
 have NQ:=MK ((bW g).getD k 0)
 rw [fM hx.1 hx.2] at NQ
 have dQ:ql g (k+1)=mS g (ql g k) ((bW g).getD k 0).toNat (aG (fun e=>e.2) g.es g.es.length ((bW g).getD k 0)) (aG (fun e=>e.2) g.es g.es.length ((bW g).getD k 0)).length:=rfl
 have lu:(aG (fun e=>e.2) g.es g.es.length ((bW g).getD k 0)).length≤g.es.length:=eC
 have hmem:∀i∈aG (fun e=>e.2) g.es g.es.length ((bW g).getD k 0),0≤i∧i<g.es.length:=fun i hi=>(dR hi).1
 have hbd:=rH (g:=g) (k:=k)
 have hmul:k*g.es.length≤64*128:=Nat.mul_le_mul (by omega) (by omega)
 have hlk:=rD (g:=g) (k:=k)
 generalize aG (fun e=>e.2) g.es g.es.length ((bW g).getD k 0)=l at*
 generalize oa:(bW g).getD k 0=xv at*
 obtain ⟨x,rfl⟩:∃x:Nat,xv=x:=⟨xv.toNat,by omega⟩
 rw [Int.toNat_natCast] at dQ
 generalize ql g k=st at*
 repeat' (first|((first|((with_reducible (first|apply oA|apply oB));exact rfl;intro K hK)|(refine hK _ ?_;clear hK K)|((with_reducible (first|apply oG|apply oH));iterate 3 exact rfl)|((with_reducible apply oI);(iterate 2 exact rfl);intro K hK)|(with_reducible (first|apply wI|apply wJ|apply wK)));try simp only [go_sem,simprocAttr,hb,oa])|(with_reducible (first|apply oC|apply oJ|exact oK|apply wA|apply wB|apply wC hX hC|apply wD hX hC|apply wE hX hC af|apply wF hX hC af|apply wG|apply wH|apply And.intro))|((with_reducible refine oD ?_ ?_);kernel_rfl)|((with_reducible (first|apply oE|apply oF));(iterate 3 exact rfl);all_goals (intro h;first|(exact absurd h (by decide))|((try simp only [go_sem,simprocAttr,hb,oa] at h);(try with_reducible intro K hK);simp only [go_sem,simprocAttr,hb,oa])))|((first|((with_reducible apply wL);exact rfl)|((with_reducible apply wM);exact rfl));all_goals (try ((with_reducible intro h);first|(exact absurd h (by decide))|(try simp only [go_sem,simprocAttr,hb,oa] at h))))|omega|((first|refine aa hX hC hP (NQ) rfl rfl rfl (by simp only [go_sem,simprocAttr,hb,oa]) rfl ?_);try simp only [go_sem,simprocAttr,hb,oa])|(intro h))
 refine ah (fun j:Nat=>j≤l.length) (fun j=>⟨[(1, .ptr 1 0),(4, .d (vw g)),(7, .ref 22),(9,eN x),(23, .d (sI (bW g))),(24,eN (bW g).length),(25,eN k),(31, .d (sI l)),(32,eN l.length),(33,eN j)], [(1, .box [eN g.n, .d (sE g.es)]),(22, .own 3 1 ((mS g st x l j).map rI))]⟩) (fun j=>l.length - j) 0 (by omega) ?_ ?_
 ·refine Le.of ?_ ?_<;>simp [go_sem,simprocAttr,mS]
 rintro j hj
 rcases Nat.lt_or_ge j l.length with hjl|J1
 rotate_left
 ·have Fw:decide ((j:Int)<(l.length:Int))=false:=decide_eq_false (by omega)
  obtain rfl:j=l.length:=by omega
  repeat' (first|((first|((with_reducible (first|apply oA|apply oB));exact rfl;intro K hK)|(refine hK _ ?_;clear hK K)|((with_reducible (first|apply oG|apply oH));iterate 3 exact rfl)|((with_reducible apply oI);(iterate 2 exact rfl);intro K hK)|(with_reducible (first|apply wI|apply wJ|apply wK)));try simp only [go_sem,simprocAttr,Fw])|(with_reducible (first|apply oC|apply oJ|exact oK|apply wA|apply wB|apply wC hX hC|apply wD hX hC|apply wE hX hC af|apply wF hX hC af|apply wG|apply wH|apply And.intro))|((with_reducible refine oD ?_ ?_);kernel_rfl)|((with_reducible (first|apply oE|apply oF));(iterate 3 exact rfl);all_goals (intro h;first|(exact absurd h (by decide))|((try simp only [go_sem,simprocAttr,Fw] at h);(try with_reducible intro K hK);simp only [go_sem,simprocAttr,Fw])))|((first|((with_reducible apply wL);exact rfl)|((with_reducible apply wM);exact rfl));all_goals (try ((with_reducible intro h);first|(exact absurd h (by decide))|(try simp only [go_sem,simprocAttr,Fw] at h))))|omega|(intro h))
  refine ⟨k+1,by omega, ?_,by omega⟩
  rw [dQ]
  refine Le.of ?_ ?_<;>simp [go_sem,simprocAttr,Fw]
 have Fw:decide ((j:Int)<(l.length:Int))=true:=decide_eq_true (by omega)
 have hin:=hmem _ (aS (d:=0) hjl)
 have hj1:mS g st x l (j+1)=(mS g st x l j).set x (max ((mS g st x l j).getD x 0) ((mS g st x l j).getD (iA g (l.getD j 0)).toNat 0+1)):=rfl
 have Gl:=pH (g:=g) (st:=st) (x:=x) (l:=l) (j:=j)
 have Kl:=w5 (g:=g) (x:=x) (l:=l) (j:=j) hbd
 obtain ⟨e,he⟩:∃e:Nat,l.getD j 0=e:=⟨(l.getD j 0).toNat,by omega⟩
 obtain ⟨ht,_⟩:=dS hm (k:=e) (by omega)
 obtain ⟨t,y7⟩:∃t:Nat,(g.es.getD e (0,0)).1=t:=⟨(g.es.getD e (0,0)).1.toNat,by omega⟩
 have hte:(iA g (l.getD j 0)).toNat=t:=by rw [he];show ((g.es.getD e (0,0)).1).toNat=t;rw [y7];rfl
 rw [hte] at hj1
 have an:=Kl t
 have ak:=Kl x
 generalize mS g st x l j=S1 at*
 repeat' (first|((first|((with_reducible (first|apply oA|apply oB));exact rfl;intro K hK)|(refine hK _ ?_;clear hK K)|((with_reducible (first|apply oG|apply oH));iterate 3 exact rfl)|((with_reducible apply oI);(iterate 2 exact rfl);intro K hK)|(with_reducible (first|apply wI|apply wJ|apply wK)));try simp only [go_sem,simprocAttr,Fw,he,y7,Gl,hlk,ag,lJ])|(with_reducible (first|apply oC|apply oJ|exact oK|apply wA|apply wB|apply wC hX hC|apply wD hX hC|apply wE hX hC af|apply wF hX hC af|apply wG|apply wH|apply And.intro))|((with_reducible refine oD ?_ ?_);kernel_rfl)|((with_reducible (first|apply oE|apply oF));(iterate 3 exact rfl);all_goals (intro h;first|(exact absurd h (by decide))|((try simp only [go_sem,simprocAttr,Fw,he,y7,Gl,hlk,ag,lJ] at h);(try with_reducible intro K hK);simp only [go_sem,simprocAttr,Fw,he,y7,Gl,hlk,ag,lJ])))|((first|((with_reducible apply wL);exact rfl)|((with_reducible apply wM);exact rfl));all_goals (try ((with_reducible intro h);first|(exact absurd h (by decide))|(try simp only [go_sem,simprocAttr,Fw,he,y7,Gl,hlk,ag,lJ] at h))))|omega|(intro h))
 refine ⟨j+1,by omega, ?_,by omega⟩
 rw [hj1]
 refine Le.of ?_ ?_<;>simp [go_sem,rI,ag]
end Go.Ab
end
section
namespace Go.Ab
open Go.Proofs
set_option maxRecDepth 10000
set_option linter.unusedSectionVars false
theorem vm {l:List Int} {i j:Nat} {a:Int} (hi:i<l.length):(l.set i a).getD j 0=if j=i then a else l.getD j 0:=by
 rw [List.getD_eq_getElem?_getD,List.getElem?_set]
 by_cases h:i=j
 ·subst h;rw [if_pos rfl,if_pos hi,if_pos rfl];rfl
 ·rw [if_neg h,if_neg (fun e=>h e.symm), ← List.getD_eq_getElem?_getD]
theorem qm {g:Gr} {st:List Int} {x:Nat} {l:List Int} (hx:x<st.length) {v:Nat} (hv:v≠x):∀ {j:Nat},(mS g st x l j).getD v 0=st.getD v 0
 |0=>rfl
 |j+1=>by rw [mS,vm (by rw [pH];exact hx),if_neg hv];exact qm hx hv
theorem yN {g:Gr} {st:List Int} {x:Nat} {l:List Int} (hx:x<st.length) (ht:∀e∈l,(iA g e).toNat≠x):∀ {j:Nat},j≤l.length→(st.getD x 0≤(mS g st x l j).getD x 0)∧(∀i,i<j→st.getD (iA g (l.getD i 0)).toNat 0+1≤(mS g st x l j).getD x 0)∧((mS g st x l j).getD x 0=st.getD x 0∨∃i,i<j∧(mS g st x l j).getD x 0=st.getD (iA g (l.getD i 0)).toNat 0+1)
 |0,_=>⟨Int.le_refl _,fun i hi=>by omega, .inl rfl⟩
 |j+1,hj=>by
  obtain ⟨h1,h2,h3⟩:=yN hx ht (g:=g) (l:=l) (j:=j) (by omega)
  have e1:(mS g st x l (j+1)).getD x 0=max ((mS g st x l j).getD x 0) (st.getD (iA g (l.getD j 0)).toNat 0+1):=by
   rw [mS,vm (by rw [pH];exact hx),if_pos rfl,qm hx (ht _ (aS (by omega)))]
  rw [e1]
  refine ⟨by omega,fun i hi=> ?_, ?_⟩
  ·by_cases hij:i=j
   ·subst hij;omega
   ·have:=h2 i (by omega);omega
  ·by_cases hc:(mS g st x l j).getD x 0≤st.getD (iA g (l.getD j 0)).toNat 0+1
   ·exact .inr ⟨j,by omega,by omega⟩
   ·rcases h3 with h3|⟨i,hi,h3⟩
    ·exact .inl (by omega)
    ·exact .inr ⟨i,by omega,by omega⟩
structure MM (g:Gr) (st:List Int) (D:List Int):Prop where
 out:∀v:Nat,(v:Int)∉D→st.getD v 0=0
 up:∀i,i<g.es.length→hd g i∈D→st.getD (tl g i).toNat 0+1≤st.getD (hd g i).toNat 0
 why:∀v:Nat,(v:Int)∈D→st.getD v 0=0∨∃i,i<g.es.length∧hd g i=v∧st.getD v 0=st.getD (tl g i).toNat 0+1
theorem GU {g:Gr} (hm:aP g=true) (hok:oZ g=true):∀ {k:Nat},k≤(bW g).length→MM g (ql g k) ((bW g).take k)
 |0,_=>⟨fun v _=>by
    rw [ql,List.getD_eq_getElem?_getD,List.getElem?_replicate];split<;>rfl,fun i _ h=>by simp at h,fun v h=>by simp at h⟩
 |k+1,hk=>by
  have ih:=GU hm hok (k:=k) (by omega)
  have IX:bW g=aL g:=if_pos hok
  have hall:=o4 hm hok
  rw [← IX] at hall
  have hx:=lV hall _ (aS (d:=0) (show k<(bW g).length by omega))
  have Km:Ord g (bW g):=by rw [IX];exact (er hm).2.1
  have ru:(bW g).take (k+1)=(bW g).take k++ [(bW g).getD k 0]:=by
   rw [List.take_add_one,List.getD_eq_getElem?_getD,List.getElem?_eq_getElem (by omega)];rfl
  have BO:(bW g).getD k 0∉(bW g).take k:=fun hm2=>by
   obtain ⟨r,hr,e⟩:=List.mem_iff_getElem.1 hm2
   rw [List.length_take] at hr
   rw [List.getElem_take] at e
   have:=iS hall (i:=r) (j:=k) (by omega) (by omega) (by rw [← e,List.getD_eq_getElem?_getD,List.getElem?_eq_getElem (by omega)];rfl)
   omega
  have hlen:=rD (g:=g) (k:=k)
  have mD:∀q,q≤(bW g).length→∀i,i<g.es.length→hd g i∈(bW g).take q→tl g i∈(bW g).take q:=fun q hq i hi hh=>by
   obtain ⟨r,hr,e⟩:=List.mem_iff_getElem.1 hh
   rw [List.length_take] at hr
   rw [List.getElem_take] at e
   have:=Km r (by omega) i hi (by rw [List.getD_eq_getElem?_getD,List.getElem?_eq_getElem (by omega)];exact e.symm)
   exact (List.take_sublist_take_left (by omega)).subset this
  have MN:∀i,i<g.es.length→hd g i=(bW g).getD k 0→tl g i∈(bW g).take k:=fun i hi hh=>Km k (by omega) i hi hh
  generalize oa:(bW g).getD k 0=xv at*
  obtain ⟨x,rfl⟩:∃x:Nat,xv=x:=⟨xv.toNat,by omega⟩
  have dQ:ql g (k+1)=mS g (ql g k) x (aG (fun e=>e.2) g.es g.es.length (x:Int)) (aG (fun e=>e.2) g.es g.es.length (x:Int)).length:=by
   rw [ql,oa,Int.toNat_natCast]
  have hxl:x<(ql g k).length:=by omega
  have hl:∀e,e∈aG (fun e=>e.2) g.es g.es.length (x:Int)↔(0≤e∧e<g.es.length)∧mP g e=x:=fun e=>bL
  have hne:∀y,y∈(bW g).take k→y≠(x:Int):=fun y hy e=>BO (e ▸ hy)
  have htr:=fun i (hi:i<g.es.length)=>bN hm hi
  have PF:=fun i (hi:i<g.es.length)=>cn hm hi
  have AJ:=yN (g:=g) (st:=ql g k) (x:=x) (l:=aG (fun e=>e.2) g.es g.es.length (x:Int)) hxl (fun e he=>by
   obtain ⟨h1,h2⟩:=(hl e).1 he
   have h3:=hne _ (MN e.toNat (by omega) h2)
   have h4:=htr e.toNat (by omega)
   have h5:iA g e=tl g e.toNat:=rfl
   rw [h5];omega) (Nat.le_refl _)
  have zX:∀v:Nat,v≠x→(ql g (k+1)).getD v 0=(ql g k).getD v 0:=fun v hv=>by rw [dQ];exact qm hxl hv
  rw [← dQ] at AJ
  obtain ⟨s1,s2,s3⟩:=AJ
  have hx0:=ih.out x BO
  rw [ru]
  refine ⟨fun v hv=> ?_,fun i hi hh=> ?_,fun v hv=> ?_⟩
  ·rw [List.mem_append,List.mem_singleton] at hv
   rw [zX v (fun e=>hv (.inr (by rw [e]))),ih.out v (fun h=>hv (.inl h))]
  ·have t1:=htr i hi
   have t2:=PF i hi
   rw [List.mem_append,List.mem_singleton] at hh
   rcases hh with hh|hh
   ·have n1:=hne _ hh
    have n2:=hne _ (mD k (by omega) i hi hh)
    rw [zX _ (by omega),zX _ (by omega)]
    exact ih.up i hi hh
   ·have n2:=hne _ (MN i hi hh)
    obtain ⟨q,hq,e⟩:=List.mem_iff_getElem.1 ((hl (i:Int)).2 ⟨by omega,hh⟩)
    have h3:=s2 q hq
    have e2:(aG (fun e=>e.2) g.es g.es.length (x:Int)).getD q 0=(i:Int):=by rw [List.getD_eq_getElem?_getD,List.getElem?_eq_getElem hq];exact e
    rw [e2] at h3
    rw [zX _ (by omega),hh,Int.toNat_natCast]
    exact h3
  ·rw [List.mem_append,List.mem_singleton] at hv
   by_cases MO:v=x
   ·subst MO
    rcases s3 with s3|⟨q,hq,s3⟩
    ·exact .inl (s3.trans hx0)
    ·right
     obtain ⟨h1,h2⟩:=(hl _).1 (aS (d:=0) hq)
     have n2:=hne _ (MN _ (by omega) h2)
     have t1:=htr ((aG (fun e=>e.2) g.es g.es.length (v:Int)).getD q 0).toNat (by omega)
     refine ⟨((aG (fun e=>e.2) g.es g.es.length (v:Int)).getD q 0).toNat,by omega,h2, ?_⟩
     rw [s3,zX _ (by omega)];rfl
   ·have BC:(v:Int)∈(bW g).take k:=hv.resolve_right (fun e=>MO (by omega))
    rw [zX v MO]
    rcases ih.why v BC with h1|⟨i,hi,h1,h2⟩
    ·exact .inl h1
    ·right
     have n2:=hne _ (mD k (by omega) i hi (by rw [h1];exact BC))
     have t1:=htr i hi
     exact ⟨i,hi,h1,by rw [h2,zX _ (by omega)]⟩
theorem Ig {g:Gr} (hm:aP g=true) (hok:oZ g=true):(yM g).length=g.n.toNat∧(∀v:Nat,0≤(yM g).getD v 0)∧(∀i,i<g.es.length→(yM g).getD (tl g i).toNat 0+1≤(yM g).getD (hd g i).toNat 0)∧
 ∀v:Nat,v<g.n.toNat→(yM g).getD v 0=0∨∃i,i<g.es.length∧hd g i=v∧(yM g).getD v 0=(yM g).getD (tl g i).toNat 0+1:=by
 have h1:=GU hm hok (Nat.le_refl (bW g).length)
 rw [List.take_length] at h1
 have IX:bW g=aL g:=if_pos hok
 have hall:=o4 hm hok
 rw [← IX] at hall
 have hin:∀x:Nat,x<g.n.toNat→(x:Int)∈bW g:=fun x hx=>by
  simp only [fU,Bool.and_eq_true,List.all_eq_true,List.mem_range,decide_eq_true_eq] at hall
  exact hall.2 x hx
 refine ⟨rD,fun v=>(rH v).1,fun i hi=>h1.up i hi ?_,fun v hv=>h1.why v (hin v hv)⟩
 have:=cn hm hi
 have:=hin (hd g i).toNat (by omega)
 rwa [show (((hd g i).toNat:Nat):Int)=hd g i by omega] at this
end Go.Ab
end
section
namespace Go.Ab
set_option maxRecDepth 10000
set_option linter.unusedSectionVars false
variable {P:PS}
structure PS.Hi (P:PS) (R:Int→Int) (f0 f1:Int) (hi:Int→Int):Prop where
 mid:∀ {x u a b v},P.ins x=u++a::b::v→hi (R a)=x
 h0:hi f0=P.HQ
 h1:hi f1=P.HQ
def PS.K3 (P:PS) (a:Int):Prop:=∃x u b v,P.outs x=u++a::b::v
section
variable (h:P.Ok) {L R:Int→Int} {f0 f1:Int} {low:Int→Int} (F:P.iL L R f0 f1 low)
include h F
theorem PS.Hi.CN {hi:Int→Int} (H:P.Hi R f0 f1 hi):P.CN.Hi L f1 f0 hi:=
 {mid:=fun {x u a b v} e=>by
   have e:=iD (show (P.ins x).reverse=_ from e)
   rw [← F.wg e];exact H.mid e
  h0:=H.h1
  h1:=H.h0}
theorem vn {e:Int} (he:P.E e) (hs:P.tl e≠P.src):P.ins (P.tl e)≠ []:=by
 obtain ⟨i,hi,rfl⟩:=mJ h he
 obtain ⟨k,hr⟩:=p8 h (Nat.le_of_lt hi)
 obtain ⟨B,hB⟩:=jk h hi
 have hm:=(h.fe hr (P.sh i)).1 (by rw [hB];simp)
 obtain ⟨j,B,_,_,_,⟨u,hu⟩,_⟩:=uH h F hs (Nat.le_of_lt hi) hm.2.1
 rw [hu];simp
variable {L' R':Int→Int} {NR NS:Int} {low':Int→Int} (F':P.iL L' R' NR NS low')
include F'
theorem EC:∀ {d:Nat} {e:Int},P.Fo (P.tl e)<d→P.E e→(R e=f1∧R' e=NS)∨∃a,P.K3 a∧P.Fo (P.tl a)≤P.Fo (P.tl e)∧R e=R a∧R' e=R' a
 |0,e,hd,_=>by omega
 |d+1,e,hd,he=>by
  have hem:=(h.jO (P.tl e) e).2 ⟨he,rfl⟩
  obtain ⟨u,v,hu⟩:=List.append_of_mem hem
  cases v with
  |cons b v=>exact .inr ⟨e,⟨_,u,b,v,hu⟩,Nat.le_refl _,rfl,rfl⟩
  |nil=>
   by_cases hs:P.tl e=P.src
   ·rw [hs] at hu
    exact .inl ⟨F.s1 hu,F'.s1 hu⟩
   ·obtain ⟨w,c,hw⟩:=di (vn h F he hs)
    have e1:=F.Fp hw hu
    have e2:=F'.Fp hw hu
    obtain ⟨hc,hh⟩:=(h.dV (P.tl e) c).1 (by rw [hw];simp)
    have hp:=h.pW c hc
    rw [hh] at hp
    rw [← e1, ← e2]
    rcases EC (d:=d) (e:=c) (by omega) hc with h1|⟨a,h1,h2,h3⟩
    ·exact .inl h1
    ·exact .inr ⟨a,h1,by omega,h3⟩
theorem GV:∀ {d:Nat} {e:Int},P.Fo (P.tl e)<d→P.E e→(L e=f0∧L' e=NR)∨∃a,P.K3 a∧L e=R a∧L' e=R' a
 |0,e,hd,_=>by omega
 |d+1,e,hd,he=>by
  have hem:=(h.jO (P.tl e) e).2 ⟨he,rfl⟩
  obtain ⟨u,v,hu⟩:=List.append_of_mem hem
  rcases List.eq_nil_or_concat u with rfl|⟨u',b,rfl⟩
  ·by_cases hs:P.tl e=P.src
   ·rw [hs] at hu
    exact .inl ⟨F.s0 hu,F'.s0 hu⟩
   ·obtain ⟨c,w,hw⟩:=jj (vn h F he hs)
    have e1:=F.fst hw hu
    have e2:=F'.fst hw hu
    obtain ⟨hc,hh⟩:=(h.dV (P.tl e) c).1 (by rw [hw];simp)
    have hp:=h.pW c hc
    rw [hh] at hp
    rw [← e1, ← e2]
    exact GV (d:=d) (e:=c) (by omega) hc
  ·have hu:P.outs (P.tl e)=u'++b::e::v:=by rw [hu];simp
   exact .inr ⟨b,⟨_,u',e,v,hu⟩,(F.iw hu).symm,(F'.iw hu).symm⟩
end
section
variable (h:P.Ok) {L R:Int→Int} {f0 f1:Int} {low:Int→Int} (F:P.iL L R f0 f1 low)
include h F
variable {hi:Int→Int} (H:P.Hi R f0 f1 hi)
include H
end
def MP (t h:Int→Int) (l:List Int) (x:Int):Int:=match l.find? (fun i=>decide (t i=x)) with
 |some i=>h i
 |none=>x
def MQ (t h:Int→Int) (l:List Int) (x:Int):Nat→Int
 |0=>x
 |k+1=>MP t h l (MQ t h l x k)
section
variable (h:P.Ok) {L R:Int→Int} {f0 f1:Int} {low:Int→Int} (F:P.iL L R f0 f1 low) {hi:Int→Int} (H:P.Hi R f0 f1 hi)
include h F H
end
end Go.Ab
end
section
namespace Go.Ab
open Go.Proofs
set_option maxRecDepth 10000
set_option linter.unusedSectionVars false
section
variable (g:Gr) (p:Pl)
def cK:Nat→Nat
 |0=>1
 |k+1=>cK k+((bH p (aq p k)).length - 1)
def Ih (e:Int):Nat:=(bH p (iA g e)).findIdx (fun i=>decide (i=e))
def e8 (x:Int):Int:=(cO g p x).headD 0
def nh (x:Int):Int:=(cO g p x).getLastD 0
def LK:Nat→Int→Int
 |0,_=>0
 |k+1,e=>if iA g e=aq p k then (if Ih g p e=0 then (if k=0 then 0 else LK k (e8 g p (aq p k))) else (cK p k:Int)+Ih g p e - 1) else LK k e
def RK (r:Int):Nat→Int→Int
 |0,_=>0
 |k+1,e=>if iA g e=aq p k then (if Ih g p e+1<(bH p (aq p k)).length then (cK p k:Int)+Ih g p e else (if k=0 then r else RK r k (nh g p (aq p k)))) else RK r k e
def iZ:Nat→List Int
 |0=> [aq p 0]
 |k+1=>iZ k++List.replicate ((bH p (aq p k)).length - 1) (aq p k)
end
section
variable {g:Gr} {p:Pl}
theorem gT:∀ {k:Nat},(iZ p k).length=cK p k
 |0=>rfl
 |k+1=>by rw [iZ,List.length_append,List.length_replicate,gT,cK]
theorem qn:∀ {k:Nat},0<cK p k
 |0=>by simp [cK]
 |k+1=>by rw [cK];have:= @qn k;omega
theorem rJ {k:Nat} :∀ {d:Nat},cK p k≤cK p (k+d)
 |0=>Nat.le_refl _
 |d+1=>by
  have:= @rJ k d
  show _≤cK p (k+d+1)
  rw [cK];omega
theorem vo {k:Nat} {f:Nat} (hf:f<cK p k):∀ {d:Nat},(iZ p (k+d)).getD f 0=(iZ p k).getD f 0
 |0=>rfl
 |d+1=>by
  show (iZ p (k+d+1)).getD f 0=_
  have:=rJ (p:=p) (k:=k) (d:=d)
  rw [iZ,List.getD_eq_getElem?_getD,List.getElem?_append_left (by rw [gT];omega), ← List.getD_eq_getElem?_getD,vo hf]
theorem ED {k f:Nat} (h1:cK p k≤f) (h2:f<cK p (k+1)):(iZ p (k+1)).getD f 0=aq p k:=by
 rw [iZ,List.getD_eq_getElem?_getD,List.getElem?_append_right (by rw [gT];exact h1),List.getElem?_replicate,gT,if_pos (by rw [cK] at h2;omega)]
 rfl
variable (h:cA g p)
include h
theorem nT {k:Nat} (hk:k<g.n.toNat) {u v:List Int} {e:Int} (he:bH p (aq p k)=u++e::v):iA g e=aq p k∧Ih g p e=u.length:=by
 have hx:=aM h.2.1 hk
 have px:=bP h.2.1 hx.1 hx.2
 have h1:=(bL.1 (px.mem_iff.1 (show e∈bH p (aq p k) by rw [he];simp))).2
 have h1:iA g e=aq p k:=h1
 refine ⟨h1, ?_⟩
 have b7:(bH p (aq p k)).Nodup:=px.nodup_iff.2 bX
 unfold Ih
 rw [h1,he]
 rw [he,List.nodup_append] at b7
 rw [List.findIdx_append]
 have h2:u.findIdx (fun i=>decide (i=e))=u.length:=by
  rw [List.findIdx_eq_length]
  intro i hi
  exact decide_eq_false fun e2=>b7.2.2 i hi e (by simp) e2
 rw [h2,if_neg (by omega)]
 simp [List.findIdx_cons]
theorem AZ {e:Int} {k:Nat} (hk:k<g.n.toNat) (he:iA g e=aq p k):∀ {d:Nat},k+1+d≤g.n.toNat→LK g p (k+1+d) e=LK g p (k+1) e
 |0,_=>rfl
 |d+1,hd=>by
  show LK g p (k+1+d+1) e=_
  rw [LK,if_neg (fun e2=>by have:=dO h.2.1 hk (show k+1+d<g.n.toNat by omega) (he.symm.trans e2);omega),AZ hk he (by omega)]
theorem A4 {r:Int} {e:Int} {k:Nat} (hk:k<g.n.toNat) (he:iA g e=aq p k):∀ {d:Nat},k+1+d≤g.n.toNat→RK g p r (k+1+d) e=RK g p r (k+1) e
 |0,_=>rfl
 |d+1,hd=>by
  show RK g p r (k+1+d+1) e=_
  rw [RK,if_neg (fun e2=>by have:=dO h.2.1 hk (show k+1+d<g.n.toNat by omega) (he.symm.trans e2);omega),A4 hk he (by omega)]
theorem l8 {e:Int} {k:Nat} (hk:k<g.n.toNat) (he:iA g e=aq p k) {j:Nat} (h1:k+1≤j) (h2:j≤g.n.toNat):LK g p j e=LK g p (k+1) e:=by
 obtain ⟨d,rfl⟩:=Nat.exists_eq_add_of_le h1
 exact AZ h hk he h2
theorem gY {r:Int} {e:Int} {k:Nat} (hk:k<g.n.toNat) (he:iA g e=aq p k) {j:Nat} (h1:k+1≤j) (h2:j≤g.n.toNat):RK g p r j e=RK g p r (k+1) e:=by
 obtain ⟨d,rfl⟩:=Nat.exists_eq_add_of_le h1
 exact A4 h hk he h2
theorem w6 {k:Nat} (hk:k<g.n.toNat) {v:List Int} {e:Int} (he:bH p (aq p k)=e::v) {j:Nat} (h1:k+1≤j) (h2:j≤g.n.toNat):LK g p j e=if k=0 then 0 else LK g p k (e8 g p (aq p k)):=by
 obtain ⟨a,b⟩:=nT h hk (u:= []) he
 rw [l8 h hk a h1 h2,LK,if_pos a,if_pos (show Ih g p e=0 from b)]
theorem A5 {k:Nat} (hk:k<g.n.toNat) {u v:List Int} {e:Int} (he:bH p (aq p k)=u++e::v) (hu:u≠ []) {j:Nat} (h1:k+1≤j) (h2:j≤g.n.toNat):LK g p j e=(cK p k:Int)+u.length - 1:=by
 obtain ⟨a,b⟩:=nT h hk he
 have:=List.length_pos_iff.2 hu
 rw [l8 h hk a h1 h2,LK,if_pos a,if_neg (by omega),b]
theorem tP {r:Int} {k:Nat} (hk:k<g.n.toNat) {u:List Int} {e:Int} (he:bH p (aq p k)=u++ [e]) {j:Nat} (h1:k+1≤j) (h2:j≤g.n.toNat):RK g p r j e=if k=0 then r else RK g p r k (nh g p (aq p k)):=by
 obtain ⟨a,b⟩:=nT h hk he
 rw [gY h hk a h1 h2,RK,if_pos a,if_neg (by rw [b,he];simp)]
theorem js {r:Int} {k:Nat} (hk:k<g.n.toNat) {u v:List Int} {e c:Int} (he:bH p (aq p k)=u++e::c::v) {j:Nat} (h1:k+1≤j) (h2:j≤g.n.toNat):RK g p r j e=(cK p k:Int)+u.length:=by
 obtain ⟨a,b⟩:=nT h hk he
 rw [gY h hk a h1 h2,RK,if_pos a,if_pos (by rw [b,he];simp),b]
theorem qo {x:Int} {a:Int} {u:List Int} (hu:cO g p x=a::u):e8 g p x=a:=by unfold e8;rw [hu];rfl
theorem l9 {x:Int} {a:Int} {u:List Int} (hu:cO g p x=u++ [a]):nh g p x=a:=by unfold nh;rw [hu];simp
theorem A6 {k:Nat} (hk:k<g.n.toNat) (hI:cO g p (aq p k)≠ []):k≠0:=fun h0=>by
 subst h0
 have:=j9 h (aM h.2.1 hk)
 rw [gH h] at this
 exact hI (List.eq_nil_of_length_eq_zero this)
theorem yO {k:Nat} (hk:k<g.n.toNat) {a:Int} (ha:a∈cO g p (aq p k)):∃j,j<k∧iA g a=aq p j:=by
 obtain ⟨h1,h2⟩:=((lZ h (aM h.2.1 hk)).2 a).1 ha
 obtain ⟨j,h3,h4⟩:=tO h h1 hk h2
 exact ⟨j,h3,h4.symm⟩
def WK (g:Gr) (p:Pl) (k:Nat):List Int:=(fZ (fK g p k).row).map (·.1)
theorem tQ (hn:0<g.n.toNat):WK g p 1=bH p (aq p 0):=by
 have hx:=aM h.2.1 hn
 have px:=bP h.2.1 hx.1 hx.2
 have hno:fV (aq p 0) (fK g p 0).row:=fun t ht=>by cases ht
 have hf:(fK g p 1).row=aO g (aq p 0) (bH p (aq p 0)):=by
  show (az g (fK g p 0) (aq p 0) _).2.row=_
  rw [j0 _ hno]
  show _++ []=_
  simp
 unfold WK
 rw [hf,j8 (fun i hi=>(bL.1 (px.mem_iff.1 hi)).1.1),List.map_map]
 have e7:((fun t:It=>t.1) ∘ fL g (aq p 0))=id:=rfl
 rw [e7,List.map_id]
theorem mQ {k:Nat} (h0:k≠0) (hk:k<g.n.toNat):∃A C,WK g p k=A++cO g p (aq p k)++C∧cO g p (aq p k)≠ []∧WK g p (k+1)=A++bH p (aq p k)++C:=by
 have hm:=aA h.1
 obtain ⟨hi,eR,_⟩:=dm hm h.2.1 (k:=k) (by omega) fun j hj=>h.2.2 j (by omega)
 have hR:=h.2.2 k hk
 have hx:=aM h.2.1 hk
 have px:=bP h.2.1 hx.1 hx.2
 have hn:bA g (aq p k)≠0:=fun hz=>by
  have PG:=aM h.2.1 (show 0<g.n.toNat by omega)
  have:=mM h.1 hx PG hz (gH h)
  exact h0 (dO h.2.1 hk (by omega) this)
 obtain ⟨a,c,e1,_,_,_,hl,e2⟩:=wY hm hi.toij hR hn (bH p (aq p k))
 refine ⟨a.map (·.1),c.map (·.1), ?_, ?_, ?_⟩
 ·rw [AW h hk];unfold WK;rw [e1,List.map_append,List.map_append];rfl
 ·intro h1
  have:=j9 h hx
  rw [h1] at this
  exact hn this.symm
 ·unfold WK
  show (fZ (az g (fK g p k) (aq p k) _).2.row).map (·.1)=_
  rw [e2,List.map_append,List.map_append,j8 (fun i hi=>(bL.1 (px.mem_iff.1 hi)).1.1),List.map_map]
  have e7:((fun t:It=>t.1) ∘ fL g (aq p k))=id:=rfl
  rw [e7,List.map_id]
theorem rK {k:Nat} (hk:k≤g.n.toNat) {a:Int} (ha:a∈WK g p k):∃j,j<k∧iA g a=aq p j:=by
 have hm:=aA h.1
 obtain ⟨hi,eR,_⟩:=dm hm h.2.1 (k:=k) (by omega) fun j hj=>h.2.2 j (by omega)
 obtain ⟨t,ht,rfl⟩:=List.mem_map.1 ha
 obtain ⟨h1,h2,_⟩:=pG hm hi.toij ht
 obtain ⟨h4,h5⟩:=eM.1 ht
 have:=hi.tail t h4 h5
 rw [eR,h2] at this
 obtain ⟨j,hj,e⟩:=AR (by rw [bK h.2.1];omega) this
 exact ⟨j,hj,e.symm⟩
theorem A7 {r:Int} {k:Nat} (hk:k<g.n.toNat) {j:Nat} (h1:k+1≤j) (h2:j≤g.n.toNat):iM (LK g p j) (RK g p r j) (if k=0 then 0 else LK g p k (e8 g p (aq p k))) (bH p (aq p k)):=by
 refine sY (fun u a b v e=> ?_) fun a u e=>w6 h hk e h1 h2
 rw [js h hk e h1 h2,A5 h hk (u:=u++ [a]) (v:=v) (e:=b) (by rw [e];simp) (by simp) h1 h2]
 simp;omega
theorem A8 {r:Int} {k:Nat} (hk:k<g.n.toNat) {j:Nat} (h1:k+1≤j) (h2:j≤g.n.toNat) (hO:bH p (aq p k)≠ []) (f:Int):jw (RK g p r j) f (bH p (aq p k))=if k=0 then r else RK g p r k (nh g p (aq p k)):=by
 obtain ⟨v,b,hv⟩:=di hO
 rw [hv,fF,tP h hk hv h1 h2]
theorem me {L R L' R':Int→Int} :∀ {W:List Int} {f:Int},(∀a∈W,L a=L' a∧R a=R' a)→(iM L R f W↔iM L' R' f W)
 | [],_,_=>Iff.rfl
 |a::W,f,hh=>by
  have h1:=hh a (List.mem_cons_self ..)
  simp only [iM,h1.1,h1.2,me (W:=W) fun b hb=>hh b (List.mem_cons_of_mem _ hb)]
theorem tR {R R':Int→Int} :∀ {W:List Int} {f:Int},(∀a∈W,R a=R' a)→jw R f W=jw R' f W
 | [],_,_=>rfl
 |a::W,f,hh=>by
  simp only [jw,hh a (List.mem_cons_self ..),tR (W:=W) fun b hb=>hh b (List.mem_cons_of_mem _ hb)]
theorem zY {r:Int} (hI:pQ g=true):∀ {k:Nat},1≤k→k<g.n.toNat→WK g p k≠ []→iM (LK g p k) (RK g p r k) 0 (WK g p k)∧jw (RK g p r k) 0 (WK g p k)=r
 |0,h1,_,_=>by omega
 |k+1,_,hk,hW=>by
  by_cases h0:k=0
  ·subst h0
   rw [tQ h (by omega)] at hW ⊢
   have a:=A7 (r:=r) h (k:=0) (by omega) (j:=1) (Nat.le_refl _) (by omega)
   have b:=A8 (r:=r) h (k:=0) (by omega) (j:=1) (Nat.le_refl _) (by omega) hW 0
   rw [if_pos rfl] at a b
   exact ⟨a,b⟩
  ·obtain ⟨A,C,e1,hne,e2⟩:=mQ h h0 (show k<g.n.toNat by omega)
   obtain ⟨l1,l2⟩:=zY hI (k:=k) (by omega) (by omega) (by rw [e1];simp [hne])
   have hO:bH p (aq p k)≠ []:=fun h1=>by
    have:=(eZ h hI (aM h.2.1 (show k<g.n.toNat by omega))).1 h1
    have:=dO h.2.1 (show k<g.n.toNat by omega) (by omega) this
    omega
   have A9:∀a∈WK g p k,LK g p (k+1) a=LK g p k a∧RK g p r (k+1) a=RK g p r k a:=fun a ha=>by
    obtain ⟨j,hj,e⟩:=rK h (by omega) ha
    exact ⟨by rw [l8 h (by omega) e (j:=k+1) (by omega) (by omega),l8 h (by omega) e (j:=k) (by omega) (by omega)],by rw [gY h (by omega) e (j:=k+1) (by omega) (by omega),gY h (by omega) e (j:=k) (by omega) (by omega)]⟩
   rw [← me h A9] at l1
   rw [← tR h fun a ha=>(A9 a ha).2] at l2
   rw [e1] at l1 l2 A9
   rw [e2]
   obtain ⟨a0,u0,CO⟩:=jj hne
   obtain ⟨u,a,hu⟩:=di hne
   obtain ⟨l3,l5⟩:=cF.1 l1
   obtain ⟨l4,l6⟩:=cF.1 l3
   have PI:LK g p (k+1) a0=jw (RK g p r (k+1)) 0 A:=by rw [CO] at l6;exact l6.1
   have JX:∀f,jw (RK g p r (k+1)) f (cO g p (aq p k))=RK g p r k (nh g p (aq p k)):=fun f=>by
    rw [l9 h hu,hu,fF,(A9 a (by rw [hu];simp)).2]
   have hlk:=A7 (r:=r) h (k:=k) (by omega) (j:=k+1) (Nat.le_refl _) (by omega)
   have MR:=A8 (r:=r) h (k:=k) (by omega) (j:=k+1) (Nat.le_refl _) (by omega) hO
   rw [if_neg h0] at hlk MR
   rw [qo h CO, ← (A9 a0 (by rw [CO];simp)).1,PI] at hlk
   refine ⟨?_, ?_⟩
   ·rw [cF,cF,cH,MR]
    rw [cH,JX] at l5
    exact ⟨⟨l4,hlk⟩,l5⟩
   ·rw [cH,cH,MR]
    rw [cH,cH,JX] at l2
    exact l2
theorem nU (hI:pQ g=true) {r:Int} (hr:r<0∨cK p g.n.toNat≤r):(jC g p).iL (LK g p g.n.toNat) (RK g p r g.n.toNat) 0 r (fun f=>(iZ p g.n.toNat).getD f.toNat 0):=by
 have hm:=aA h.1
 have hn:=aT hm
 have DZ:∀ {x:Int} {l:List Int},(jC g p).outs x=l→l≠ []→∃k,k<g.n.toNat∧aq p k=x∧bH p (aq p k)=l:=fun {x l} h1 h2=>by
  by_cases hx:lp g x
  ·obtain ⟨k,hk,rfl⟩:=fW h.2.1 hx.1 hx.2
   exact ⟨k,hk,rfl,by rw [← h1,jr hx]⟩
  ·rw [pF hx] at h1;exact absurd h1.symm h2
 have MT:∀ {x:Int} {l:List Int},(jC g p).ins x=l→l≠ []→∃k,k<g.n.toNat∧aq p k=x∧cO g p (aq p k)=l:=fun {x l} h1 h2=>by
  by_cases hx:lp g x
  ·obtain ⟨k,hk,rfl⟩:=fW h.2.1 hx.1 hx.2
   exact ⟨k,hk,rfl,by rw [← h1,kP hx]⟩
  ·rw [pE hx] at h1;exact absurd h1.symm h2
 have h0:(jC g p).src=aq p 0:=rfl
 have Jl:∀k,0<cK p k:=fun k=>qn
 exact {
  ne:=by have:=Jl g.n.toNat;omega
  iw:=fun {x u a b v} e=>by
   obtain ⟨k,hk,_,e2⟩:=DZ e (by simp)
   rw [js h hk e2 (by omega) (Nat.le_refl _),A5 h hk (u:=u++ [a]) (v:=v) (e:=b) (by rw [e2];simp) (by simp) (by omega) (Nat.le_refl _)]
   simp;omega
  wg:=fun {x u a b v} e=>by
   obtain ⟨k,hk,_,e2⟩:=MT e (by simp)
   have xJ:=A6 h hk (by rw [e2];simp)
   obtain ⟨A,C,e1,hne,_⟩:=mQ h xJ hk
   have l1:=(zY (r:=r) h hI (k:=k) (by omega) hk (by rw [e1];simp [hne])).1
   have A9:∀a∈WK g p k,LK g p g.n.toNat a=LK g p k a∧RK g p r g.n.toNat a=RK g p r k a:=fun a ha=>by
    obtain ⟨j,hj,e⟩:=rK h (by omega) ha
    exact ⟨by rw [l8 h (by omega) e (j:=g.n.toNat) (by omega) (by omega),l8 h (by omega) e (j:=k) (by omega) (by omega)],by rw [gY h (by omega) e (j:=g.n.toNat) (by omega) (by omega),gY h (by omega) e (j:=k) (by omega) (by omega)]⟩
   rw [← me h A9,e1,e2,show A++(u++a::b::v)++C=(A++u)++a::b::(v++C) by simp] at l1
   exact DH l1
  fst:=fun {x a u b v} e1 e2=>by
   obtain ⟨k,hk,hx,e3⟩:=DZ e2 (by simp)
   have e4:cO g p (aq p k)=a::u:=by
    have Em:lp g x:=by rw [← hx];exact aM h.2.1 hk
    rw [hx, ← kP Em];exact e1
   have xJ:=A6 h hk (by rw [e4];simp)
   obtain ⟨j,hj,et⟩:=yO h hk (a:=a) (by rw [e4];simp)
   rw [w6 h hk e3 (by omega) (Nat.le_refl _),if_neg xJ,qo h e4,l8 h (by omega) et (j:=g.n.toNat) (by omega) (Nat.le_refl _),l8 h (by omega) et (j:=k) (by omega) (by omega)]
  Fp:=fun {x a u b v} e1 e2=>by
   obtain ⟨k,hk,hx,e3⟩:=DZ e2 (by simp)
   have e4:cO g p (aq p k)=u++ [a]:=by
    have Em:lp g x:=by rw [← hx];exact aM h.2.1 hk
    rw [hx, ← kP Em];exact e1
   have xJ:=A6 h hk (by rw [e4];simp)
   obtain ⟨j,hj,et⟩:=yO h hk (a:=a) (by rw [e4];simp)
   rw [tP h hk e3 (by omega) (Nat.le_refl _),if_neg xJ,l9 h e4,gY h (by omega) et (j:=g.n.toNat) (by omega) (Nat.le_refl _),gY h (by omega) et (j:=k) (by omega) (by omega)]
  s0:=fun {b v} e=>by
   obtain ⟨k,hk,hx,e3⟩:=DZ e (by simp)
   have:k=0:=dO h.2.1 hk (by omega) hx
   rw [w6 h hk e3 (by omega) (Nat.le_refl _),if_pos this]
  s1:=fun {b v} e=>by
   obtain ⟨k,hk,hx,e3⟩:=DZ e (by simp)
   have:k=0:=dO h.2.1 hk (by omega) hx
   rw [tP h hk e3 (by omega) (Nat.le_refl _),if_pos this]
  new:=fun {x u a b v} e=>by
   obtain ⟨k,hk,hx,e3⟩:=DZ e (by simp)
   have hR:=js (r:=r) h hk e3 (j:=g.n.toNat) (by omega) (Nat.le_refl _)
   have hl:(bH p (aq p k)).length=u.length+(v.length+2):=by rw [e3];simp
   have DY:cK p (k+1)=cK p k+((bH p (aq p k)).length - 1):=rfl
   obtain ⟨d,hd⟩:=Nat.exists_eq_add_of_le (show k+1≤g.n.toNat by omega)
   have hmo:=rJ (p:=p) (k:=k+1) (d:=d)
   rw [← hd] at hmo
   have:=Jl k
   refine ⟨?_,by omega,by omega⟩
   show (iZ p g.n.toNat).getD (RK g p r g.n.toNat a).toNat 0=x
   rw [hR,show ((cK p k:Int)+(u.length:Int)).toNat=cK p k+u.length by omega,hd,vo (by omega),ED (by omega) (by omega),hx]
  new1:=fun {x u a b v u' a' b' v'} e1 e2 e3=>by
   obtain ⟨k,hk,hx,e4⟩:=DZ e1 (by simp)
   have e5:bH p (aq p k)=u'++a'::b'::v':=by
    have Em:lp g x:=by rw [← hx];exact aM h.2.1 hk
    rw [hx, ← jr Em];exact e2
   rw [js h hk e4 (by omega) (Nat.le_refl _),js h hk e5 (by omega) (Nat.le_refl _)] at e3
   have hl:u.length=u'.length:=by omega
   rw [e4] at e5
   have:=(List.append_inj e5 hl).2
   simp only [List.cons.injEq] at this
   exact this.1}
end
end Go.Ab
end
section
namespace Go.Ab
open Go.Proofs
attribute [local congr] ACall.congr
set_option maxRecDepth 10000
set_option maxHeartbeats 8000000
def kf (A o:List Int) (f:Nat→Int):Nat→List Int
 |0=>A
 |j+1=>(kf A o f j).set (o.getD j 0).toNat (f j)
theorem gI {A o:List Int} {f:Nat→Int} :∀ {j:Nat},(kf A o f j).length=A.length
 |0=>rfl
 |j+1=>by rw [kf,List.length_set,gI]
def ni (A o:List Int) (left:Int) (c:Nat) (j:Nat):List Int:=kf A o (fun j=>if j=0 then left else (c:Int)+j - 1) j
def nj (A o:List Int) (right:Int) (c:Nat) (j:Nat):List Int:=kf A o (fun j=>if j+1<o.length then (c:Int)+j else right) j
theorem Cr {A o:List Int} {left:Int} {c:Nat} {j:Nat} :(ni A o left c j).length=A.length:=gI
theorem Cs {A o:List Int} {left:Int} {c:Nat} {j:Nat} :(nj A o left c j).length=A.length:=gI
theorem vp {A o:List Int} {f:Nat→Int} {e:Nat} :∀ {j:Nat},(∀i,i<j→(o.getD i 0).toNat≠e)→(kf A o f j).getD e 0=A.getD e 0
 |0,_=>rfl
 |j+1,h=>by
  have h1:=h j (by omega)
  rw [kf,List.getD_eq_getElem?_getD,List.getElem?_set,if_neg h1, ← List.getD_eq_getElem?_getD,vp fun i hi=>h i (by omega)]
theorem yP {A o:List Int} {f:Nat→Int} {i:Nat} (hA:(o.getD i 0).toNat<A.length):∀ {j:Nat},i<j→(∀k,k<j→(o.getD k 0).toNat=(o.getD i 0).toNat→k=i)→(kf A o f j).getD (o.getD i 0).toNat 0=f i
 |0,h,_=>by omega
 |j+1,h,hn=>by
  rw [kf,List.getD_eq_getElem?_getD,List.getElem?_set]
  by_cases e:(o.getD j 0).toNat=(o.getD i 0).toNat
  ·have:=hn j (by omega) e
   subst this
   rw [if_pos rfl,if_pos (by rw [gI];exact hA)];rfl
  ·have hji:j≠i:=fun e2=>e (by rw [e2])
   rw [if_neg e, ← List.getD_eq_getElem?_getD,yP hA (by omega) fun k hk=>hn k (by omega)]
def fO (c k:Nat):List Int:=(List.range k).map fun i:Nat=>((c+i:Nat):Int)
theorem zZ {c k:Nat} :fO c (k+1)=fO c k++ [((c+k:Nat):Int)]:=by simp [fO,List.range_succ]
theorem kg {c k:Nat} :(fO c k).length=k:=by simp [fO]
def Gm (left:Int) (c d j:Nat):Int:=if min j (d - 1)=0 then left else (c:Int)+(min j (d - 1):Nat) - 1
def IY (ed gp:D) (A B lo hi:List Int):List (Nat × AObj):= [(10000, .box [.d ed, .d gp, .ref 10001, .ref 10002, .ref 10003, .ref 10004]),(10001, .own 3 1 (A.map rI)),(10002, .own 3 1 (B.map rI)),(10003, .tip 3 1 (lo.map rI)),(10004, .own 3 1 (hi.map rI))]
def IZ (ed gp:D) (A B lo hi:List Int):List (Nat × AObj):= [(10000, .box [.d ed, .d gp, .ref 10001, .ref 10002, .ref 10005, .ref 10006]),(10001, .own 3 1 (A.map rI)),(10002, .own 3 1 (B.map rI)),(10005, .tip 3 1 (lo.map rI)),(10006, .own 3 1 (hi.map rI))]
theorem vq (x left right:Int) (o:List Int) (ed gp:D) (A B lo hi:List Int) (ho:o.length≤100000) (hO:∀i∈o,0≤i∧i<A.length) (hB:B.length=A.length) (hlo:lo.length≤100000) (hhi:hi.length≤100000):
 Spec Tryz.prog 52 (Args [.ptr 10000 0,eN x, .d (sI o),eN left,eN right]) (IY ed gp A B lo hi)
  (.d (sI (fO lo.length (o.length - 1)))) (IZ ed gp (ni A o left lo.length o.length) (nj B o right lo.length o.length) (lo++List.replicate (o.length - 1) x) (hi++List.replicate (o.length - 1) 0)):=by
 unfold IY IZ
 generalize hc:lo.length=c at*
 (refine Spec.dY (C:=T.cfg [] []) (rs:= [.t 10]) [(10005,200),(10006,201)] (T.aj _ _) Tryz.func52 rfl rfl Tryz.ntmps52 Tryz.results52 (by simp [AObj.isNest]) (by simp [AObj.isNest]) (by first|(simp [look];done)|(simp [asN];done)|(intro l hl;simp only [asN];repeat (rw [if_neg (fun e=>by subst e;simp [look] at hl)]))) (by first|(simp [look];done)|(simp [asN];done)|(intro l hl;simp only [asN];repeat (rw [if_neg (fun e=>by subst e;simp [look] at hl)]))) (by kernel_rfl) ?_;intro X hX hP hC aD aF vals hA;refine ⟨_,by simp,hA, ?_⟩;have af:X.P.follows .mixedOrders=true:=(by rw [hP];exact T.mixed);clear aD aF)
 repeat' (first|((first|((with_reducible (first|apply oA|apply oB));exact rfl;intro K hK)|(refine hK _ ?_;clear hK K)|((with_reducible (first|apply oG|apply oH));iterate 3 exact rfl)|((with_reducible apply oI);(iterate 2 exact rfl);intro K hK)|(with_reducible (first|apply wI|apply wJ|apply wK)));try simp only [go_sem,simprocAttr])|(show dz _ (.seq (.region 1 _ _) _) _ _;(refine ji hX 10 202 (.tip 3 1 []) (by simp only [go_sem,simprocAttr]) (by simp only [go_sem,simprocAttr]) (by decide) ⟨3,1,by decide, .inr rfl⟩ ?_;simp only [go_sem,simprocAttr]);(refine dN hX 10000 4 10003 200 rfl rfl rfl (by first|exact .inl rfl|exact .inr rfl) (by decide) (by decide) ?_;simp only [LA.app,ASt.put,ASt.kill,subT,rmk,putM,rml,kl,AV.sub,AV.subs,AObj.sub,List.set_cons_zero,List.set_cons_succ,go_sem,simprocAttr]);(refine dN hX 10000 5 10004 201 rfl rfl rfl (by first|exact .inl rfl|exact .inr rfl) (by decide) (by decide) ?_;simp only [LA.app,ASt.put,ASt.kill,subT,rmk,putM,rml,kl,AV.sub,AV.subs,AObj.sub,List.set_cons_zero,List.set_cons_succ,go_sem,simprocAttr]))|(with_reducible (first|apply oC|apply oJ|exact oK|apply wA|apply wB|apply wC hX hC|apply wD hX hC|apply wE hX hC af|apply wF hX hC af|apply wG|apply wH|apply And.intro))|((with_reducible refine oD ?_ ?_);kernel_rfl)|((with_reducible (first|apply oE|apply oF));(iterate 3 exact rfl);all_goals (intro h;first|(exact absurd h (by decide))|((try simp only [go_sem,simprocAttr] at h);(try with_reducible intro K hK);simp only [go_sem,simprocAttr])))|((first|((with_reducible apply wL);exact rfl)|((with_reducible apply wM);exact rfl));all_goals (try ((with_reducible intro h);first|(exact absurd h (by decide))|(try simp only [go_sem,simprocAttr] at h))))|omega|(intro h))
 refine ah (fun j:Nat=>j≤o.length) (fun j=>⟨[(0, .ptr 10000 0),(1,eN x),(2, .d (sI o)),(3,eN (Gm left c o.length j)),(4,eN right),(10, .ref 202),(13, .d (sI o)),(14,eN o.length),(15,eN j)], [(10000, .box [.d ed, .d gp, .ref 10001, .ref 10002, .ref 200, .ref 201]),(10001, .own 3 1 ((ni A o left c j).map rI)),(10002, .own 3 1 ((nj B o right c j).map rI)),(200, .tip 3 1 ((lo++List.replicate (min j (o.length - 1)) x).map rI)),(201, .own 3 1 ((hi++List.replicate (min j (o.length - 1)) 0).map rI)),(202, .tip 3 1 ((fO c (min j (o.length - 1))).map rI))]⟩) (fun j=>o.length - j) 0 (by omega) ?_ ?_
 ·refine Le.of ?_ ?_<;>simp [go_sem,simprocAttr,Gm,ni,nj,kf,fO]
 rintro j hj
 rcases Nat.lt_or_ge j o.length with hjl|J1
 rotate_left
 ·have hb:decide ((j:Int)<(o.length:Int))=false:=decide_eq_false (by omega)
  obtain rfl:j=o.length:=by omega
  have hmin:min o.length (o.length - 1)=o.length - 1:=by omega
  rw [hmin]
  repeat' (first|((first|((with_reducible (first|apply oA|apply oB));exact rfl;intro K hK)|(refine hK _ ?_;clear hK K)|((with_reducible (first|apply oG|apply oH));iterate 3 exact rfl)|((with_reducible apply oI);(iterate 2 exact rfl);intro K hK)|(with_reducible (first|apply wI|apply wJ|apply wK)));try simp only [go_sem,simprocAttr,hb])|(with_reducible (first|apply oC|apply oJ|exact oK|apply wA|apply wB|apply wC hX hC|apply wD hX hC|apply wE hX hC af|apply wF hX hC af|apply wG|apply wH|apply And.intro))|((with_reducible refine oD ?_ ?_);kernel_rfl)|((with_reducible (first|apply oE|apply oF));(iterate 3 exact rfl);all_goals (intro h;first|(exact absurd h (by decide))|((try simp only [go_sem,simprocAttr,hb] at h);(try with_reducible intro K hK);simp only [go_sem,simprocAttr,hb])))|((first|((with_reducible apply wL);exact rfl)|((with_reducible apply wM);exact rfl));all_goals (try ((with_reducible intro h);first|(exact absurd h (by decide))|(try simp only [go_sem,simprocAttr,hb] at h))))|omega|(intro h))
 have hb:decide ((j:Int)<(o.length:Int))=true:=decide_eq_true (by omega)
 have hin:=hO _ (aS (d:=0) hjl)
 have jm:=Cr (A:=A) (o:=o) (left:=left) (c:=c) (j:=j)
 have jG:=Cs (A:=B) (o:=o) (left:=right) (c:=c) (j:=j)
 have Ii:ni A o left c (j+1)=(ni A o left c j).set (o.getD j 0).toNat (if j=0 then left else (c:Int)+j - 1):=rfl
 have Ct:nj B o right c (j+1)=(nj B o right c j).set (o.getD j 0).toNat (if j+1<o.length then (c:Int)+j else right):=rfl
 have tX:min j (o.length - 1)=j:=by omega
 have hlf:Gm left c o.length j=if j=0 then left else (c:Int)+j - 1:=by unfold Gm;rw [tX]
 rw [tX,hlf]
 generalize vr:o.getD j 0=v at hin Ii Ct
 obtain ⟨i,rfl⟩:∃i:Nat,v=i:=⟨v.toNat,by omega⟩
 rw [Int.toNat_natCast] at Ii Ct
 generalize (if j=0 then left else (c:Int)+j - 1)=lv at Ii hlf ⊢
 by_cases hj2:j+1<o.length
 ·have ak:decide ((j:Int)+1<(o.length:Int))=true:=decide_eq_true (by omega)
  have hm2:min (j+1) (o.length - 1)=j+1:=by omega
  rw [if_pos hj2] at Ct
  have Ij:Gm left c o.length (j+1)=((c+j:Nat):Int):=by unfold Gm;rw [hm2,if_neg (by omega)];omega
  have lu:(lo++List.replicate j x).length=c+j:=by rw [List.length_append,List.length_replicate,hc]
  have um:(hi++List.replicate j (0:Int)).length=hi.length+j:=by rw [List.length_append,List.length_replicate]
  have Kn:lo++List.replicate (j+1) x=(lo++List.replicate j x)++ [x]:=by rw [List.replicate_succ', ← List.append_assoc]
  have Ko:hi++List.replicate (j+1) (0:Int)=(hi++List.replicate j 0)++ [0]:=by rw [List.replicate_succ', ← List.append_assoc]
  have tW:=kg (c:=c) (k:=j)
  have CM:=zZ (c:=c) (k:=j)
  generalize lo++List.replicate j x=QL at lu Kn
  generalize hi++List.replicate j (0:Int)=hi1 at um Ko
  generalize fO c j=gs at tW CM
  generalize ni A o left c j=A1 at jm Ii
  generalize nj B o right c j=B1 at jG Ct
  repeat' (first|((first|((with_reducible (first|apply oA|apply oB));exact rfl;intro K hK)|(refine hK _ ?_;clear hK K)|((with_reducible (first|apply oG|apply oH));iterate 3 exact rfl)|((with_reducible apply oI);(iterate 2 exact rfl);intro K hK)|(with_reducible (first|apply wI|apply wJ|apply wK)));try simp only [go_sem,simprocAttr,hb,ak,vr,jm,jG,lu,um,tW])|(show dz _ (.seq (.region 8 _ _) _) _ _;(refine dN hX 10000 4 48 200 rfl rfl rfl (by first|exact .inl rfl|exact .inr rfl) (by decide) (by decide) ?_;simp only [LA.app,ASt.put,ASt.kill,subT,rmk,putM,rml,kl,AV.sub,AV.subs,AObj.sub,List.set_cons_zero,List.set_cons_succ,go_sem,simprocAttr,hb,ak,vr,jm,jG,lu,um,tW]);(refine dN hX 10000 5 55 201 rfl rfl rfl (by first|exact .inl rfl|exact .inr rfl) (by decide) (by decide) ?_;simp only [LA.app,ASt.put,ASt.kill,subT,rmk,putM,rml,kl,AV.sub,AV.subs,AObj.sub,List.set_cons_zero,List.set_cons_succ,go_sem,simprocAttr,hb,ak,vr,jm,jG,lu,um,tW]))|(show dz _ (.region 9 _ _) _ _;(refine nE hX 10 65 202 (by simp only [go_sem,simprocAttr,hb,ak,vr,jm,jG,lu,um,tW]) rfl (by first|exact .inl rfl|exact .inr rfl) (by decide) ?_;simp only [go_sem,simprocAttr,hb,ak,vr,jm,jG,lu,um,tW]))|(with_reducible (first|apply oC|apply oJ|exact oK|apply wA|apply wB|apply wC hX hC|apply wD hX hC|apply wE hX hC af|apply wF hX hC af|apply wG|apply wH|apply And.intro))|((with_reducible refine oD ?_ ?_);kernel_rfl)|((with_reducible (first|apply oE|apply oF));(iterate 3 exact rfl);all_goals (intro h;first|(exact absurd h (by decide))|((try simp only [go_sem,simprocAttr,hb,ak,vr,jm,jG,lu,um,tW] at h);(try with_reducible intro K hK);simp only [go_sem,simprocAttr,hb,ak,vr,jm,jG,lu,um,tW])))|((first|((with_reducible apply wL);exact rfl)|((with_reducible apply wM);exact rfl));all_goals (try ((with_reducible intro h);first|(exact absurd h (by decide))|(try simp only [go_sem,simprocAttr,hb,ak,vr,jm,jG,lu,um,tW] at h))))|omega|(intro h))
  refine ⟨j+1,by omega, ?_,by omega⟩
  rw [Ii,Ct,hm2,Kn,Ko,CM,Ij]
  refine Le.of ?_ ?_<;>simp [go_sem,simprocAttr,hb,ak,vr,jm,jG,lu,um,tW,rI]
 ·have ak:decide ((j:Int)+1<(o.length:Int))=false:=decide_eq_false (by omega)
  have hm2:min (j+1) (o.length - 1)=j:=by omega
  have Ij:Gm left c o.length (j+1)=Gm left c o.length j:=by unfold Gm;rw [hm2,tX]
  rw [if_neg hj2] at Ct
  generalize ni A o left c j=A1 at jm Ii
  generalize nj B o right c j=B1 at jG Ct
  repeat' (first|((first|((with_reducible (first|apply oA|apply oB));exact rfl;intro K hK)|(refine hK _ ?_;clear hK K)|((with_reducible (first|apply oG|apply oH));iterate 3 exact rfl)|((with_reducible apply oI);(iterate 2 exact rfl);intro K hK)|(with_reducible (first|apply wI|apply wJ|apply wK)));try simp only [go_sem,simprocAttr,hb,ak,vr,jm,jG])|(with_reducible (first|apply oC|apply oJ|exact oK|apply wA|apply wB|apply wC hX hC|apply wD hX hC|apply wE hX hC af|apply wF hX hC af|apply wG|apply wH|apply And.intro))|((with_reducible refine oD ?_ ?_);kernel_rfl)|((with_reducible (first|apply oE|apply oF));(iterate 3 exact rfl);all_goals (intro h;first|(exact absurd h (by decide))|((try simp only [go_sem,simprocAttr,hb,ak,vr,jm,jG] at h);(try with_reducible intro K hK);simp only [go_sem,simprocAttr,hb,ak,vr,jm,jG])))|((first|((with_reducible apply wL);exact rfl)|((with_reducible apply wM);exact rfl));all_goals (try ((with_reducible intro h);first|(exact absurd h (by decide))|(try simp only [go_sem,simprocAttr,hb,ak,vr,jm,jG] at h))))|omega|(intro h))
  refine ⟨j+1,by omega, ?_,by omega⟩
  rw [Ii,Ct,hm2,Ij,hlf]
  refine Le.of ?_ ?_<;>simp [go_sem,simprocAttr,hb,ak,vr,jm,jG,rI]
end Go.Ab
end
section
namespace Go.Ab
open Go.Proofs
attribute [local congr] ACall.congr
set_option maxRecDepth 10000
set_option maxHeartbeats 8000000
def mg (A fs:List Int) (x:Int) (j:Nat):List Int:=kf A fs (fun _=>x) j
theorem qp {A fs:List Int} {x:Int} {j:Nat} :(mg A fs x j).length=A.length:=gI
theorem jD (l items:List Int) (a b:Nat) (h0:0<(l.take a++items++l.drop b).length) (hr:l.length≤400000) (hi:items.length≤100000):Spec Tryz.prog 54 (Args [.d (.sl 1 [[.sl 1 (List.take a (l.map rI))], [.sl 1 (items.map rI)], [.sl 1 (List.drop b (l.map rI))]])]) [] (.d (sI (l.take a++items++l.drop b))) []:=by
 have hf: [l.take a,items,l.drop b].flatten=l.take a++items++l.drop b:=by simp
 have:=ef [l.take a,items,l.drop b] (by simp) (by rw [hf];exact h0) (by rw [hf];simp;omega)
 rw [hf] at this
 simpa only [vL,List.map_cons,List.map_nil,sI,List.map_take,List.map_drop] using this
theorem w8 (x:Int) (o W G A B lo hi:List Int) (a b:Nat) (hab:a<b) (QM:b<G.length) (QN:b≤W.length) (hG:G.length≤100000) (hW:W.length≤100000) (hf:∀f∈(G.take b).drop (a+1),0≤f∧f<hi.length)
 (ho:o.length≤100000) (hO:∀i∈o,0≤i∧i<A.length) (hB:B.length=A.length) (hlo:lo.length≤100000) (hhi:hi.length≤100000):
 Spec Tryz.prog 56 (Args [.ptr 10000 0,eN x, .d (sI o),eN a,eN b]) (IY (sI W) (sI G) A B lo hi) (.tup [])
  (IZ (sI (if o= [] then W else W.take a++o++W.drop b)) (sI (G.take (a+1)++fO lo.length (o.length - 1)++G.drop b)) (ni A o (G.getD a 0) lo.length o.length) (nj B o (G.getD b 0) lo.length o.length) (lo++List.replicate (o.length - 1) x) (mg hi ((G.take b).drop (a+1)) x ((G.take b).drop (a+1)).length++List.replicate (o.length - 1) 0)):=by
 have xm:List.drop (a+1) (List.take b (List.map rI G))=((G.take b).drop (a+1)).map rI:=by rw [List.map_drop,List.map_take]
 have hfl:((G.take b).drop (a+1)).length≤100000:=by simp;omega
 generalize (G.take b).drop (a+1)=fs at xm hf hfl ⊢
 have tY:List.take G.length (List.map rI G)=List.map rI G:=List.take_of_length_le (by simp)
 have p9:List.take W.length (List.map rI W)=List.map rI W:=List.take_of_length_le (by simp)
 have hmn:min ((a:Int)+1) (b:Int)=((a+1:Nat):Int):=by omega
 have EE:=vq x (G.getD a 0) (G.getD b 0) o (sI W) (sI G) A B lo (mg hi fs x fs.length) ho hO hB hlo (by rw [qp];exact hhi)
 have MU:=jD G (fO lo.length (o.length - 1)) (a+1) b (by simp;omega) (by omega) (by rw [kg];omega)
 have NT:=fun (h:o≠ [])=>jD W o a b (by have:=List.length_pos_iff.2 h;simp;omega) (by omega) (by omega)
 generalize hg:fO lo.length (o.length - 1)=gs at EE MU
 unfold IY IZ at EE ⊢
 (refine Spec.dY (C:=T.cfg [] []) (rs:= []) [(10005,300),(10006,301)] (T.aj _ _) Tryz.func56 rfl rfl Tryz.ntmps56 Tryz.results56 (by simp [AObj.isNest]) (by simp [AObj.isNest]) (by first|(simp [look];done)|(simp [asN];done)|(intro l hl;simp only [asN];repeat (rw [if_neg (fun e=>by subst e;simp [look] at hl)]))) (by first|(simp [look];done)|(simp [asN];done)|(intro l hl;simp only [asN];repeat (rw [if_neg (fun e=>by subst e;simp [look] at hl)]))) (by kernel_rfl) ?_;intro X hX hP hC aD aF vals hA;refine ⟨_,by simp,hA, ?_⟩;have af:X.P.follows .mixedOrders=true:=(by rw [hP];exact T.mixed);clear aD aF)
 repeat' (first|((first|((with_reducible (first|apply oA|apply oB));exact rfl;intro K hK)|(refine hK _ ?_;clear hK K)|((with_reducible (first|apply oG|apply oH));iterate 3 exact rfl)|((with_reducible apply oI);(iterate 2 exact rfl);intro K hK)|(with_reducible (first|apply wI|apply wJ|apply wK)));try simp only [go_sem,simprocAttr,hmn,xm])|(with_reducible (first|apply oC|apply oJ|exact oK|apply wA|apply wB|apply wC hX hC|apply wD hX hC|apply wE hX hC af|apply wF hX hC af|apply wG|apply wH|apply And.intro))|((with_reducible refine oD ?_ ?_);kernel_rfl)|((with_reducible (first|apply oE|apply oF));(iterate 3 exact rfl);all_goals (intro h;first|(exact absurd h (by decide))|((try simp only [go_sem,simprocAttr,hmn,xm] at h);(try with_reducible intro K hK);simp only [go_sem,simprocAttr,hmn,xm])))|((first|((with_reducible apply wL);exact rfl)|((with_reducible apply wM);exact rfl));all_goals (try ((with_reducible intro h);first|(exact absurd h (by decide))|(try simp only [go_sem,simprocAttr,hmn,xm] at h))))|omega|(intro h))
 refine ah (fun j:Nat=>j≤fs.length) (fun j=>⟨[(0, .ptr 10000 0),(1,eN x),(2, .d (sI o)),(3,eN a),(4,eN b),(24, .d (sI fs)),(25,eN fs.length),(26,eN j)], [(10000, .box [.d (sI W), .d (sI G), .ref 10001, .ref 10002, .ref 10003, .ref 10004]),(10001, .own 3 1 (A.map rI)),(10002, .own 3 1 (B.map rI)),(10003, .tip 3 1 (lo.map rI)),(10004, .own 3 1 ((mg hi fs x j).map rI))]⟩) (fun j=>fs.length - j) 0 (by omega) ?_ ?_
 ·refine Le.of ?_ ?_<;>simp [go_sem,simprocAttr,mg,kf]
 rintro j hj
 rcases Nat.lt_or_ge j fs.length with hjl|J1
 ·have hb:decide ((j:Int)<(fs.length:Int))=true:=decide_eq_true (by omega)
  have hin:=hf _ (aS (d:=0) hjl)
  have um:=qp (A:=hi) (fs:=fs) (x:=x) (j:=j)
  have K4:mg hi fs x (j+1)=(mg hi fs x j).set (fs.getD j 0).toNat x:=rfl
  generalize vr:fs.getD j 0=v at hin K4
  obtain ⟨i,rfl⟩:∃i:Nat,v=i:=⟨v.toNat,by omega⟩
  rw [Int.toNat_natCast] at K4
  generalize mg hi fs x j=H1 at um K4
  repeat' (first|((first|((with_reducible (first|apply oA|apply oB));exact rfl;intro K hK)|(refine hK _ ?_;clear hK K)|((with_reducible (first|apply oG|apply oH));iterate 3 exact rfl)|((with_reducible apply oI);(iterate 2 exact rfl);intro K hK)|(with_reducible (first|apply wI|apply wJ|apply wK)));try simp only [go_sem,simprocAttr,hb,vr,um])|(with_reducible (first|apply oC|apply oJ|exact oK|apply wA|apply wB|apply wC hX hC|apply wD hX hC|apply wE hX hC af|apply wF hX hC af|apply wG|apply wH|apply And.intro))|((with_reducible refine oD ?_ ?_);kernel_rfl)|((with_reducible (first|apply oE|apply oF));(iterate 3 exact rfl);all_goals (intro h;first|(exact absurd h (by decide))|((try simp only [go_sem,simprocAttr,hb,vr,um] at h);(try with_reducible intro K hK);simp only [go_sem,simprocAttr,hb,vr,um])))|((first|((with_reducible apply wL);exact rfl)|((with_reducible apply wM);exact rfl));all_goals (try ((with_reducible intro h);first|(exact absurd h (by decide))|(try simp only [go_sem,simprocAttr,hb,vr,um] at h))))|omega|(intro h))
  refine ⟨j+1,by omega, ?_,by omega⟩
  rw [K4]
  refine Le.of ?_ ?_<;>simp [go_sem,simprocAttr,hb,vr,um,rI]
 have hb:decide ((j:Int)<(fs.length:Int))=false:=decide_eq_false (by omega)
 obtain rfl:j=fs.length:=by omega
 have ha1:((a:Int)+1).toNat=a+1:=by omega
 by_cases hne:o= []
 ·have ak:decide ((o.length:Int)=0)=true:=decide_eq_true (by rw [hne];rfl)
  repeat' (first|((first|((with_reducible (first|apply oA|apply oB));exact rfl;intro K hK)|(refine hK _ ?_;clear hK K)|((with_reducible (first|apply oG|apply oH));iterate 3 exact rfl)|((with_reducible apply oI);(iterate 2 exact rfl);intro K hK)|(with_reducible (first|apply wI|apply wJ|apply wK)));try simp only [go_sem,simprocAttr,hb,ak,if_pos hne,ha1,tY,p9])|(with_reducible (first|apply oC|apply oJ|exact oK|apply wA|apply wB|apply wC hX hC|apply wD hX hC|apply wE hX hC af|apply wF hX hC af|apply wG|apply wH|apply And.intro))|((with_reducible refine oD ?_ ?_);kernel_rfl)|((with_reducible (first|apply oE|apply oF));(iterate 3 exact rfl);all_goals (intro h;first|(exact absurd h (by decide))|((try simp only [go_sem,simprocAttr,hb,ak,if_pos hne,ha1,tY,p9] at h);(try with_reducible intro K hK);simp only [go_sem,simprocAttr,hb,ak,if_pos hne,ha1,tY,p9])))|((first|((with_reducible apply wL);exact rfl)|((with_reducible apply wM);exact rfl));all_goals (try ((with_reducible intro h);first|(exact absurd h (by decide))|(try simp only [go_sem,simprocAttr,hb,ak,if_pos hne,ha1,tY,p9] at h))))|omega|((first|(refine au hX hC hP [(10000,10000),(10001,10001),(10002,10002),(10003,10003),(10004,10004),(10005,300),(10006,301)] (EE) rfl rfl rfl ?_ ?_ ?_ ?_ ?_ ?_ ?_ ?_ ?_ ?_ ?_ ?_ ?_ ?_;(focus (simp only [go_sem,simprocAttr,hb,ak,if_pos hne,ha1,tY,p9];done));(iterate 12 (focus (simp [go_sem,simprocAttr,hb,ak,if_pos hne,ha1,tY,p9];done)));simp only [go_sem,simprocAttr,hb,ak,if_pos hne,ha1,tY,p9,List.map_cons,List.map_nil])|(refine bh hX hC hP (MU) rfl rfl rfl ?_ ?_ rfl ?_;iterate 2 (focus (simp only [go_sem,simprocAttr,hb,ak,if_pos hne,ha1,tY,p9];done)))|(refine bh hX hC hP (NT hne) rfl rfl rfl ?_ ?_ rfl ?_;iterate 2 (focus (simp only [go_sem,simprocAttr,hb,ak,if_pos hne,ha1,tY,p9];done))));try simp only [go_sem,simprocAttr,hb,ak,if_pos hne,ha1,tY,p9])|(intro h))
  all_goals (first|rfl|(simp only [go_sem,simprocAttr,hb,ak,if_pos hne,ha1,tY,p9];done))
 ·have ak:decide ((o.length:Int)=0)=false:=decide_eq_false (by have:=List.length_pos_iff.2 hne;omega)
  repeat' (first|((first|((with_reducible (first|apply oA|apply oB));exact rfl;intro K hK)|(refine hK _ ?_;clear hK K)|((with_reducible (first|apply oG|apply oH));iterate 3 exact rfl)|((with_reducible apply oI);(iterate 2 exact rfl);intro K hK)|(with_reducible (first|apply wI|apply wJ|apply wK)));try simp only [go_sem,simprocAttr,hb,ak,if_neg hne,ha1,tY,p9])|(with_reducible (first|apply oC|apply oJ|exact oK|apply wA|apply wB|apply wC hX hC|apply wD hX hC|apply wE hX hC af|apply wF hX hC af|apply wG|apply wH|apply And.intro))|((with_reducible refine oD ?_ ?_);kernel_rfl)|((with_reducible (first|apply oE|apply oF));(iterate 3 exact rfl);all_goals (intro h;first|(exact absurd h (by decide))|((try simp only [go_sem,simprocAttr,hb,ak,if_neg hne,ha1,tY,p9] at h);(try with_reducible intro K hK);simp only [go_sem,simprocAttr,hb,ak,if_neg hne,ha1,tY,p9])))|((first|((with_reducible apply wL);exact rfl)|((with_reducible apply wM);exact rfl));all_goals (try ((with_reducible intro h);first|(exact absurd h (by decide))|(try simp only [go_sem,simprocAttr,hb,ak,if_neg hne,ha1,tY,p9] at h))))|omega|((first|(refine au hX hC hP [(10000,10000),(10001,10001),(10002,10002),(10003,10003),(10004,10004),(10005,300),(10006,301)] (EE) rfl rfl rfl ?_ ?_ ?_ ?_ ?_ ?_ ?_ ?_ ?_ ?_ ?_ ?_ ?_ ?_;(focus (simp only [go_sem,simprocAttr,hb,ak,if_neg hne,ha1,tY,p9];done));(iterate 12 (focus (simp [go_sem,simprocAttr,hb,ak,if_neg hne,ha1,tY,p9];done)));simp only [go_sem,simprocAttr,hb,ak,if_neg hne,ha1,tY,p9,List.map_cons,List.map_nil])|(refine bh hX hC hP (MU) rfl rfl rfl ?_ ?_ rfl ?_;iterate 2 (focus (simp only [go_sem,simprocAttr,hb,ak,if_neg hne,ha1,tY,p9];done)))|(refine bh hX hC hP (NT hne) rfl rfl rfl ?_ ?_ rfl ?_;iterate 2 (focus (simp only [go_sem,simprocAttr,hb,ak,if_neg hne,ha1,tY,p9];done))));try simp only [go_sem,simprocAttr,hb,ak,if_neg hne,ha1,tY,p9])|(intro h))
  all_goals (first|rfl|(simp only [go_sem,simprocAttr,hb,ak,if_neg hne,ha1,tY,p9];done))
end Go.Ab
end
