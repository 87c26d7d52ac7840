/- A part of the proof. -/
import Derived.Test.YtjmaiddbinlooaaGreatL1P14
set_option linter.unusedSimpArgs false
set_option linter.unusedVariables false
section
namespace Go.Ab
open Go.Proofs
attribute [local congr] ACall.congr
set_option maxRecDepth 10000
set_option maxHeartbeats 8000000
def bP (b:Bool)(g:Gr)(p:Pl):(List (List It) × List It) × Int × Int:=
 if b=false then (([], []),(1,0))else
 match iJ g p g.n.toNat with
 |some i=>(([], []),(3,(i:Int)))
 |none=>((ee g p g.n.toNat,(fK g p g.n.toNat).row),(0,0))
theorem C7 {n:Nat} :List.replicate n [D.sl 3 []]=vT (List.replicate n []):=by simp [vT,sT]
theorem C8 {ls:List (List It)} {k:Nat} {l:List It} :(vT ls).set k [sT l]=vT (ls.set k l):=by simp [vT,List.map_set]
theorem tX {g:Gr} {p:Pl} {k:Nat} :ee g p (k+1)=(ee g p k).set (az p k).toNat (fe g p k):=rfl
theorem xB (g:Gr)(hl:g.es.length≤9223372036854775807)(p:Pl)(hp:pO p)(b:Bool)(hr:b=true↔(cr g).1=0∧bF g p):
  Spec Tryz.prog 88 (Args [eG g,ePl p]) [](.tup [.d (.sl 1 (vT (bP b g p).1.1)), .d (sT (bP b g p).1.2),eN (bP b g p).2.1,eN (bP b g p).2.2]) []:=by
 have hO:=C6 g hl p hp b hr
 cases b with
 |false=>
  have hR:bP false g p=(([], []),(1,0)):=rfl
  rw [hR]
  (refine Spec.intro (C:=T.cfg [] [])(rs:= [.t 4, .t 5, .t 6, .t 7])(T.au _ _)Tryz.func88 rfl rfl Tryz.ntmps88 Tryz.results88 (by simp [AObj.isNest])(by simp [AObj.isNest])(by kernel_rfl) ?_;intro X hX hP hC aI aJ vals hA;refine⟨_,by simp,hA, ?_⟩;have af:X.P.follows .mixedOrders=true:=(by rw [hP];exact T.mixed);clear aI aJ)
  repeat' (first|fail|((first|((with_reducible (first|apply oA|apply oB));exact rfl;intro K hK)|(refine hK _ ?_;clear hK K)|((with_reducible (first|apply oG|apply oH));iterate 3 exact rfl)|((with_reducible apply oI);(iterate 2 exact rfl);intro K hK)|(with_reducible (first|apply wI|apply wJ|apply wK)));try simp only [go_sem,simprocAttr,vT,List.map_nil])|fail|(with_reducible (first|apply oC|apply oJ|exact oK|apply wA|apply wB|apply wC hX hC|apply wD hX hC|apply wE hX hC af|apply wF hX hC af|apply wG|apply wH|apply And.intro))|((with_reducible refine oD ?_ ?_);first|fail|kernel_rfl)|((with_reducible (first|apply oE|apply oF));(iterate 3 exact rfl);all_goals (intro h;first|(exact absurd h (by decide))|((try simp only [go_sem,simprocAttr,vT,List.map_nil] at h);(try with_reducible intro K hK);simp only [go_sem,simprocAttr,vT,List.map_nil])))|((first|((with_reducible apply wL);exact rfl)|((with_reducible apply wM);exact rfl));all_goals (try ((with_reducible intro h);first|(exact absurd h (by decide))|(try simp only [go_sem,simprocAttr,vT,List.map_nil] at h))))|omega|((first|first|refine aa hX hC hP (hO)rfl rfl rfl (by simp only [go_sem,simprocAttr,vT,List.map_nil])rfl ?_);try simp only [go_sem,simprocAttr,vT,List.map_nil])|(intro h))
 |true=>
 obtain⟨hc,A4⟩:=hr.1 rfl
 have hm:=aF hc
 have hn:=aV hm
 have hle:=cg A4
 have hR:bP true g p=match iJ g p g.n.toNat with
  |some i=>(([], []),(3,(i:Int)))
  |none=>((ee g p g.n.toNat,(fK g p g.n.toNat).row),(0,0)):=rfl
 generalize bP true g p=R at hR
 (refine Spec.intro (C:=T.cfg [] [])(rs:= [.t 4, .t 5, .t 6, .t 7])(T.au _ _)Tryz.func88 rfl rfl Tryz.ntmps88 Tryz.results88 (by simp [AObj.isNest])(by simp [AObj.isNest])(by kernel_rfl) ?_;intro X hX hP hC aI aJ vals hA;refine⟨_,by simp,hA, ?_⟩;have af:X.P.follows .mixedOrders=true:=(by rw [hP];exact T.mixed);clear aI aJ)
 repeat' (first|fail|((first|((with_reducible (first|apply oA|apply oB));exact rfl;intro K hK)|(refine hK _ ?_;clear hK K)|((with_reducible (first|apply oG|apply oH));iterate 3 exact rfl)|((with_reducible apply oI);(iterate 2 exact rfl);intro K hK)|(with_reducible (first|apply wI|apply wJ|apply wK)));try simp only [go_sem,simprocAttr])|(show dF _ (.seq (.region 4 _ _)_)_ _;(refine nG 20 2 3 rfl rfl rfl ?_;simp only [LA.app,ASt.put,ASt.kill,putM,rml,List.set_cons_zero,List.set_cons_succ,go_sem,simprocAttr]);(refine nG 20 3 1 rfl rfl rfl ?_;simp only [LA.app,ASt.put,ASt.kill,putM,rml,List.set_cons_zero,List.set_cons_succ,go_sem,simprocAttr]))|(with_reducible (first|apply oC|apply oJ|exact oK|apply wA|apply wB|apply wC hX hC|apply wD hX hC|apply wE hX hC af|apply wF hX hC af|apply wG|apply wH|apply And.intro))|((with_reducible refine oD ?_ ?_);first|fail|kernel_rfl)|((with_reducible (first|apply oE|apply oF));(iterate 3 exact rfl);all_goals (intro h;first|(exact absurd h (by decide))|((try simp only [go_sem,simprocAttr] at h);(try with_reducible intro K hK);simp only [go_sem,simprocAttr])))|((first|((with_reducible apply wL);exact rfl)|((with_reducible apply wM);exact rfl));all_goals (try ((with_reducible intro h);first|(exact absurd h (by decide))|(try simp only [go_sem,simprocAttr] at h))))|omega|((first|first|refine aa hX hC hP (hO)rfl rfl rfl (by simp only [go_sem,simprocAttr])rfl ?_);try simp only [go_sem,simprocAttr])|(intro h))
 rw [C7]
 refine an (fun k:Nat=>k≤g.n.toNat∧∀j,j<k→yC g p j=true)(fun k=>⟨[(2, .ptr 2 0),(3, .ptr 3 0),(8, .ptr 20 0),(9, .ref 23),(10,eN k)], [(23, .own 80 1 (vT (ee g p k))),(20, .box (eH g (fK g p k))),(3, .box [.d (sI p.ord), .d (.sl 1 (vI p.outs))]),(2, .box [eN g.n, .d (sE g.es)])]⟩)(fun k=>g.n.toNat - k)0 (by simp) ?_ ?_
 ·refine Le.of ?_ ?_<;>simp [go_sem,simprocAttr,eH,fK,ee]
 rintro k⟨hk,hok⟩
 obtain⟨hi,_,hrl⟩:=dI hm A4 hk hok
 have hel:=kX (g:=g)(p:=p)(k:=k)
 rcases Nat.lt_or_ge k g.n.toNat with hlt|hge
 ·have hb:decide ((k:Int)<(p.ord.length:Int))=true:=decide_eq_true (by omega)
  have DP:=aN A4 hlt
  have dr:=tX (g:=g)(p:=p)(k:=k)
  have A5:fK g p (k+1)=(aB g (fK g p k)(az p k)(bL p (az p k))).2:=rfl
  have vq:fe g p k=(aB g (fK g p k)(az p k)(bL p (az p k))).1.1:=rfl
  have hpk:=xw A4 hlt
  have C9:=xx (g:=g)(p:=p)(k:=k)
  have hsk:yC g p k=false→R=(([], []),(3,(k:Int))):=fun h=>by
   rw [hR,mO.2⟨hlt,h,hok⟩]
  have hmul:k*(g.es.length+1)≤64*129:=Nat.mul_le_mul (by omega)(by omega)
  have kr:=j6 A4 DP.1 DP.2
  have fZ:p.ord.getD k 0=az p k:=rfl
  have Da:(fK g p k).pl.length≤64:=by
   rcases Fh hi.aY with h|h
   ·omega
   ·rw [h];simp
  obtain⟨x,hx⟩:∃x:Nat,az p k=x:=⟨(az p k).toNat,by omega⟩
  rw [hx] at fZ A5 vq hpk C9 DP kr dr
  have hxl:x<p.outs.length:=by have:=A4.1;omega
  have hv:=j3 hxl
  have hla:bL p (x:Int)=p.outs.getD x []:=by unfold bL;rw [Int.toNat_natCast]
  rw [hla] at A5 vq hpk C9 kr
  rw [Int.toNat_natCast] at dr
  have ku:=xm g (by omega)(fK g p k)(x:Int)(p.outs.getD x [])(by omega)(by omega)(by omega)
  have b8:=C8 (ls:=ee g p k)(k:=x)(l:=fe g p k)
  generalize p.outs.getD x []=o at hv A5 vq hpk C9 ku
  rw [← dr] at b8
  generalize fK g p k=f at A5 vq hpk C9 ku hi hrl Da
  cases vr:yC g p k with
  |false=>
   rw [C9 vr] at ku
   have Ge:=hsk vr
   subst Ge
   repeat' (first|fail|((first|((with_reducible (first|apply oA|apply oB));exact rfl;intro K hK)|(refine hK _ ?_;clear hK K)|((with_reducible (first|apply oG|apply oH));iterate 3 exact rfl)|((with_reducible apply oI);(iterate 2 exact rfl);intro K hK)|(with_reducible (first|apply wI|apply wJ|apply wK)));try simp only [go_sem,simprocAttr,hb,fZ,hv,eH,vT,List.map_nil])|fail|(with_reducible (first|apply oC|apply oJ|exact oK|apply wA|apply wB|apply wC hX hC|apply wD hX hC|apply wE hX hC af|apply wF hX hC af|apply wG|apply wH|apply And.intro))|((with_reducible refine oD ?_ ?_);first|fail|kernel_rfl)|((with_reducible (first|apply oE|apply oF));(iterate 3 exact rfl);all_goals (intro h;first|(exact absurd h (by decide))|((try simp only [go_sem,simprocAttr,hb,fZ,hv,eH,vT,List.map_nil] at h);(try with_reducible intro K hK);simp only [go_sem,simprocAttr,hb,fZ,hv,eH,vT,List.map_nil])))|((first|((with_reducible apply wL);exact rfl)|((with_reducible apply wM);exact rfl));all_goals (try ((with_reducible intro h);first|(exact absurd h (by decide))|(try simp only [go_sem,simprocAttr,hb,fZ,hv,eH,vT,List.map_nil] at h))))|omega|((first|first|(refine aA hX hC hP [(10000,20)](ku)rfl rfl rfl ?_ ?_ ?_ ?_ ?_ ?_ ?_ ?_ ?_ ?_ ?_ ?_ ?_ ?_;(focus (simp only [go_sem,simprocAttr,hb,fZ,hv,eH,vT,List.map_nil];done));(iterate 12 (focus (simp [go_sem,simprocAttr,hb,fZ,hv,eH,vT,List.map_nil];done)));simp only [go_sem,simprocAttr,hb,fZ,hv,eH,vT,List.map_nil,List.map_cons,List.map_nil]));try simp only [go_sem,simprocAttr,hb,fZ,hv,eH,vT,List.map_nil])|(intro h))
  |true=>
   rw [hpk vr] at ku
   have ef:(aB g f (x:Int)o).1.2=0:=rfl
   rw [vq] at b8
   generalize aB g f (x:Int)o=su at A5 vq ku ef b8
   have JG:x<(ee g p k).length:=by omega
   generalize OX:ee g p k=E at b8 JG hel
   have hvl:(vT E).length=E.length:=vT_length
   have tY:=fun d=>nM JG d
   repeat' (first|fail|((first|((with_reducible (first|apply oA|apply oB));exact rfl;intro K hK)|(refine hK _ ?_;clear hK K)|((with_reducible (first|apply oG|apply oH));iterate 3 exact rfl)|((with_reducible apply oI);(iterate 2 exact rfl);intro K hK)|(with_reducible (first|apply wI|apply wJ|apply wK)));try simp only [go_sem,simprocAttr,hb,fZ,hv,eH,ef,b8,tY,List.drop_succ_cons,List.drop_zero])|fail|(with_reducible (first|apply oC|apply oJ|exact oK|apply wA|apply wB|apply wC hX hC|apply wD hX hC|apply wE hX hC af|apply wF hX hC af|apply wG|apply wH|apply And.intro))|((with_reducible refine oD ?_ ?_);first|fail|kernel_rfl)|((with_reducible (first|apply oE|apply oF));(iterate 3 exact rfl);all_goals (intro h;first|(exact absurd h (by decide))|((try simp only [go_sem,simprocAttr,hb,fZ,hv,eH,ef,b8,tY,List.drop_succ_cons,List.drop_zero] at h);(try with_reducible intro K hK);simp only [go_sem,simprocAttr,hb,fZ,hv,eH,ef,b8,tY,List.drop_succ_cons,List.drop_zero])))|((first|((with_reducible apply wL);exact rfl)|((with_reducible apply wM);exact rfl));all_goals (try ((with_reducible intro h);first|(exact absurd h (by decide))|(try simp only [go_sem,simprocAttr,hb,fZ,hv,eH,ef,b8,tY,List.drop_succ_cons,List.drop_zero] at h))))|omega|((first|first|(refine aA hX hC hP [(10000,20)](ku)rfl rfl rfl ?_ ?_ ?_ ?_ ?_ ?_ ?_ ?_ ?_ ?_ ?_ ?_ ?_ ?_;(focus (simp only [go_sem,simprocAttr,hb,fZ,hv,eH,ef,b8,tY,List.drop_succ_cons,List.drop_zero];done));(iterate 12 (focus (simp [go_sem,simprocAttr,hb,fZ,hv,eH,ef,b8,tY,List.drop_succ_cons,List.drop_zero];done)));simp only [go_sem,simprocAttr,hb,fZ,hv,eH,ef,b8,tY,List.drop_succ_cons,List.drop_zero,List.map_cons,List.map_nil]));try simp only [go_sem,simprocAttr,hb,fZ,hv,eH,ef,b8,tY,List.drop_succ_cons,List.drop_zero])|(intro h))
   refine⟨k+1,⟨by omega,fun j hj=> ?_⟩, ?_,by omega⟩
   ·by_cases e:j=k
    ·subst e;exact vr
    ·exact hok j (by omega)
   ·rw [A5]
    have Db:(vT E).set x [D.sl 3 (List.map rT su.1.1)]=vT (ee g p (k+1)):=b8
    refine Le.of ?_ ?_<;>simp [go_sem,simprocAttr,hb,fZ,hv,eH,ef,b8,tY,List.drop_succ_cons,List.drop_zero,Db]
 have hb:decide ((k:Int)<(p.ord.length:Int))=false:=decide_eq_false (by omega)
 obtain rfl:k=g.n.toNat:=by omega
 rw [eS.2 hok] at hR
 subst hR
 repeat' (first|fail|((first|((with_reducible (first|apply oA|apply oB));exact rfl;intro K hK)|(refine hK _ ?_;clear hK K)|((with_reducible (first|apply oG|apply oH));iterate 3 exact rfl)|((with_reducible apply oI);(iterate 2 exact rfl);intro K hK)|(with_reducible (first|apply wI|apply wJ|apply wK)));try simp only [go_sem,simprocAttr,hb,eH])|fail|(with_reducible (first|apply oC|apply oJ|exact oK|apply wA|apply wB|apply wC hX hC|apply wD hX hC|apply wE hX hC af|apply wF hX hC af|apply wG|apply wH|apply And.intro))|((with_reducible refine oD ?_ ?_);first|fail|kernel_rfl)|((with_reducible (first|apply oE|apply oF));(iterate 3 exact rfl);all_goals (intro h;first|(exact absurd h (by decide))|((try simp only [go_sem,simprocAttr,hb,eH] at h);(try with_reducible intro K hK);simp only [go_sem,simprocAttr,hb,eH])))|((first|((with_reducible apply wL);exact rfl)|((with_reducible apply wM);exact rfl));all_goals (try ((with_reducible intro h);first|(exact absurd h (by decide))|(try simp only [go_sem,simprocAttr,hb,eH] at h))))|omega|((first|fail);try simp only [go_sem,simprocAttr,hb,eH])|(intro h))
end Go.Ab
end
section
namespace Go.Ab
open Go.Proofs
attribute [local congr] ACall.congr
set_option maxRecDepth 10000
set_option maxHeartbeats 8000000
theorem me (g:Gr)(hl:g.es.length≤1000)(p:Pl)(hp:pO p)(b:Bool)(hr:b=true↔(cr g).1=0∧bF g p):
  Spec Tryz.prog 46 (Args [eG g,ePl p]) [](.tup [.d (.sl 1 (vT (bP b g p).1.1)), .d (sT (bP b g p).1.2),eF ((bP b g p).2.1,(bP b g p).2.2, [])]) []:=by
 by_cases hc:(cr g).1=0
 rotate_left
 ·obtain rfl:b=false:=by
   rw [← Bool.not_eq_true,hr]
   exact fun h=>hc h.1
  have hR:bP false g p=(([], []),(1,0)):=rfl
  rw [hR]
  (refine Spec.intro (C:=T.cfg [] [])(rs:= [.t 4, .t 5, .c 6 82])(T.au _ _)Tryz.func46 rfl rfl Tryz.ntmps46 Tryz.results46 (by simp [AObj.isNest])(by simp [AObj.isNest])(by kernel_rfl) ?_;intro X hX hP hC aI aJ vals hA;refine⟨_,by simp,hA, ?_⟩;have af:X.P.follows .mixedOrders=true:=(by rw [hP];exact T.mixed);clear aI aJ)
  repeat' (first|fail|((first|((with_reducible (first|apply oA|apply oB));exact rfl;intro K hK)|(refine hK _ ?_;clear hK K)|((with_reducible (first|apply oG|apply oH));iterate 3 exact rfl)|((with_reducible apply oI);(iterate 2 exact rfl);intro K hK)|(with_reducible (first|apply wI|apply wJ|apply wK)));try simp only [go_sem,simprocAttr,vT,List.map_nil])|fail|(with_reducible (first|apply oC|apply oJ|exact oK|apply wA|apply wB|apply wC hX hC|apply wD hX hC|apply wE hX hC af|apply wF hX hC af|apply wG|apply wH|apply And.intro))|((with_reducible refine oD ?_ ?_);first|fail|kernel_rfl)|((with_reducible (first|apply oE|apply oF));(iterate 3 exact rfl);all_goals (intro h;first|(exact absurd h (by decide))|((try simp only [go_sem,simprocAttr,vT,List.map_nil] at h);(try with_reducible intro K hK);simp only [go_sem,simprocAttr,vT,List.map_nil])))|((first|((with_reducible apply wL);exact rfl)|((with_reducible apply wM);exact rfl));all_goals (try ((with_reducible intro h);first|(exact absurd h (by decide))|(try simp only [go_sem,simprocAttr,vT,List.map_nil] at h))))|omega|((first|first|refine aa hX hC hP (AM g hl hc)rfl rfl rfl (by simp only [go_sem,simprocAttr,vT,List.map_nil])rfl ?_);try simp only [go_sem,simprocAttr,vT,List.map_nil])|(intro h))
 have hm:=aF hc
 have hn:=aV hm
 have hr:b=true↔bF g p:=by rw [hr];exact⟨fun h=>h.2,fun h=>⟨hc,h⟩⟩
 have hO:=C3 g hm p hp b hr
 cases b with
 |false=>
  have hR:bP false g p=(([], []),(1,0)):=rfl
  rw [hR]
  (refine Spec.intro (C:=T.cfg [] [])(rs:= [.t 4, .t 5, .c 6 82])(T.au _ _)Tryz.func46 rfl rfl Tryz.ntmps46 Tryz.results46 (by simp [AObj.isNest])(by simp [AObj.isNest])(by kernel_rfl) ?_;intro X hX hP hC aI aJ vals hA;refine⟨_,by simp,hA, ?_⟩;have af:X.P.follows .mixedOrders=true:=(by rw [hP];exact T.mixed);clear aI aJ)
  repeat' (first|fail|((first|((with_reducible (first|apply oA|apply oB));exact rfl;intro K hK)|(refine hK _ ?_;clear hK K)|((with_reducible (first|apply oG|apply oH));iterate 3 exact rfl)|((with_reducible apply oI);(iterate 2 exact rfl);intro K hK)|(with_reducible (first|apply wI|apply wJ|apply wK)));try simp only [go_sem,simprocAttr,vT,List.map_nil])|fail|(with_reducible (first|apply oC|apply oJ|exact oK|apply wA|apply wB|apply wC hX hC|apply wD hX hC|apply wE hX hC af|apply wF hX hC af|apply wG|apply wH|apply And.intro))|((with_reducible refine oD ?_ ?_);first|fail|kernel_rfl)|((with_reducible (first|apply oE|apply oF));(iterate 3 exact rfl);all_goals (intro h;first|(exact absurd h (by decide))|((try simp only [go_sem,simprocAttr,vT,List.map_nil] at h);(try with_reducible intro K hK);simp only [go_sem,simprocAttr,vT,List.map_nil])))|((first|((with_reducible apply wL);exact rfl)|((with_reducible apply wM);exact rfl));all_goals (try ((with_reducible intro h);first|(exact absurd h (by decide))|(try simp only [go_sem,simprocAttr,vT,List.map_nil] at h))))|omega|((first|first|(refine rN hX hC hP [(10000,13)](tS g hl hc hm)rfl rfl rfl ?_ ?_ ?_ ?_ ?_ ?_ ?_ ?_ ?_ ?_ ?_ ?_ ?_ ?_;(focus (simp only [go_sem,simprocAttr,vT,List.map_nil];done));(iterate 12 (focus (simp [go_sem,simprocAttr,vT,List.map_nil];done)));simp only [go_sem,simprocAttr,vT,List.map_nil,List.map_cons,List.map_nil])|refine aa hX hC hP (ga g hm)rfl rfl rfl (by simp only [go_sem,simprocAttr,vT,List.map_nil])rfl ?_|refine aa hX hC hP (hO)rfl rfl rfl (by simp only [go_sem,simprocAttr,vT,List.map_nil])rfl ?_);try simp only [go_sem,simprocAttr,vT,List.map_nil])|(intro h))
 |true=>
 have A4:=hr.1 rfl
 have hle:=cg A4
 have hR:bP true g p=match iJ g p g.n.toNat with
  |some i=>(([], []),(3,(i:Int)))
  |none=>((ee g p g.n.toNat,(fK g p g.n.toNat).row),(0,0)):=rfl
 generalize bP true g p=R at hR
 (refine Spec.intro (C:=T.cfg [] [])(rs:= [.t 4, .t 5, .c 6 82])(T.au _ _)Tryz.func46 rfl rfl Tryz.ntmps46 Tryz.results46 (by simp [AObj.isNest])(by simp [AObj.isNest])(by kernel_rfl) ?_;intro X hX hP hC aI aJ vals hA;refine⟨_,by simp,hA, ?_⟩;have af:X.P.follows .mixedOrders=true:=(by rw [hP];exact T.mixed);clear aI aJ)
 repeat' (first|fail|((first|((with_reducible (first|apply oA|apply oB));exact rfl;intro K hK)|(refine hK _ ?_;clear hK K)|((with_reducible (first|apply oG|apply oH));iterate 3 exact rfl)|((with_reducible apply oI);(iterate 2 exact rfl);intro K hK)|(with_reducible (first|apply wI|apply wJ|apply wK)));try simp only [go_sem,simprocAttr])|(show dF _ (.seq (.region 5 _ _)_)_ _;(refine nG 13 0 3 rfl rfl rfl ?_;simp only [LA.app,ASt.put,ASt.kill,putM,rml,List.set_cons_zero,List.set_cons_succ,go_sem,simprocAttr]);(refine wX hX 13 2 100 (.tip 3 1 [])rfl rfl rfl (by simp only [go_sem,simprocAttr])(by decide)(by simp [go_sem,simprocAttr])⟨3,1,by decide, .inr rfl⟩ ?_;simp only [LA.app,ASt.put,ASt.kill,subT,rmk,putM,rml,kl,AV.sub,AV.subs,AObj.sub,List.set_cons_zero,List.set_cons_succ,go_sem,simprocAttr]))|(with_reducible (first|apply oC|apply oJ|exact oK|apply wA|apply wB|apply wC hX hC|apply wD hX hC|apply wE hX hC af|apply wF hX hC af|apply wG|apply wH|apply And.intro))|((with_reducible refine oD ?_ ?_);first|fail|kernel_rfl)|((with_reducible (first|apply oE|apply oF));(iterate 3 exact rfl);all_goals (intro h;first|(exact absurd h (by decide))|((try simp only [go_sem,simprocAttr] at h);(try with_reducible intro K hK);simp only [go_sem,simprocAttr])))|((first|((with_reducible apply wL);exact rfl)|((with_reducible apply wM);exact rfl));all_goals (try ((with_reducible intro h);first|(exact absurd h (by decide))|(try simp only [go_sem,simprocAttr] at h))))|omega|((first|first|(refine rN hX hC hP [(10000,13)](tS g hl hc hm)rfl rfl rfl ?_ ?_ ?_ ?_ ?_ ?_ ?_ ?_ ?_ ?_ ?_ ?_ ?_ ?_;(focus (simp only [go_sem,simprocAttr];done));(iterate 12 (focus (simp [go_sem,simprocAttr];done)));simp only [go_sem,simprocAttr,List.map_cons,List.map_nil])|refine aa hX hC hP (ga g hm)rfl rfl rfl (by simp only [go_sem,simprocAttr])rfl ?_|refine aa hX hC hP (hO)rfl rfl rfl (by simp only [go_sem,simprocAttr])rfl ?_);try simp only [go_sem,simprocAttr])|(intro h))
 rw [C7]
 refine an (fun k:Nat=>k≤g.n.toNat∧∀j,j<k→yC g p j=true)(fun k=>⟨[(3, .ptr 3 0),(4, .ref 28),(6, .ptr 6 0),(7, .ptr 13 0),(30, .d (sI p.ord)),(31,eN p.ord.length),(32,eN k)], [(28, .own 80 1 (vT (ee g p k))),(13, .box [.d (sT (fK g p k).row), .d (vw g), .ref 100]),(100, .tip 3 1 ((fK g p k).pl.map rI)),(6, .box [eN 0,eN 0, .nil 3]),(3, .box [.d (sI p.ord), .d (.sl 1 (vI p.outs))])]⟩)(fun k=>g.n.toNat - k)0 (by simp) ?_ ?_
 ·refine Le.of ?_ ?_<;>simp [go_sem,simprocAttr,eH,fK,ee]
 rintro k⟨hk,hok⟩
 obtain⟨hi,_,hrl⟩:=dI hm A4 hk hok
 have hel:=kX (g:=g)(p:=p)(k:=k)
 have hmul:k*(g.es.length+1)≤64*129:=Nat.mul_le_mul (by omega)(by omega)
 rcases Nat.lt_or_ge k g.n.toNat with hlt|hge
 ·have hb:decide ((k:Int)<(p.ord.length:Int))=true:=decide_eq_true (by omega)
  have DP:=aN A4 hlt
  have dr:=tX (g:=g)(p:=p)(k:=k)
  have A5:fK g p (k+1)=(aB g (fK g p k)(az p k)(bL p (az p k))).2:=rfl
  have vq:fe g p k=(aB g (fK g p k)(az p k)(bL p (az p k))).1.1:=rfl
  have hpk:=xw A4 hlt
  have C9:=xx (g:=g)(p:=p)(k:=k)
  have hsk:yC g p k=false→R=(([], []),(3,(k:Int))):=fun h=>by
   rw [hR,mO.2⟨hlt,h,hok⟩]
  have kr:=j6 A4 DP.1 DP.2
  have fZ:p.ord.getD k 0=az p k:=rfl
  have Da:(fK g p k).pl.length≤64:=by
   rcases Fh hi.aY with h|h
   ·omega
   ·rw [h];simp
  obtain⟨x,hx⟩:∃x:Nat,az p k=x:=⟨(az p k).toNat,by omega⟩
  rw [hx] at fZ A5 vq hpk C9 DP kr dr
  have hxl:x<p.outs.length:=by have:=A4.1;omega
  have hv:=j3 hxl
  have hla:bL p (x:Int)=p.outs.getD x []:=by unfold bL;rw [Int.toNat_natCast]
  rw [hla] at A5 vq hpk C9 kr
  rw [Int.toNat_natCast] at dr
  have ku:=xz g hm (fK g p k)hi (x:Int)(p.outs.getD x [])(by omega)(by omega)(by omega)
  have b8:=C8 (ls:=ee g p k)(k:=x)(l:=fe g p k)
  generalize p.outs.getD x []=o at hv A5 vq hpk C9 ku
  rw [← dr] at b8
  generalize fK g p k=f at A5 vq hpk C9 ku hi hrl Da
  have JG:x<(ee g p k).length:=by omega
  have hvl:(vT (ee g p k)).length=(ee g p k).length:=vT_length
  cases vr:yC g p k with
  |false=>
   rw [C9 vr] at ku
   simp only at ku
   have Ge:=hsk vr
   subst Ge
   repeat' (first|fail|((first|((with_reducible (first|apply oA|apply oB));exact rfl;intro K hK)|(refine hK _ ?_;clear hK K)|((with_reducible (first|apply oG|apply oH));iterate 3 exact rfl)|((with_reducible apply oI);(iterate 2 exact rfl);intro K hK)|(with_reducible (first|apply wI|apply wJ|apply wK)));try simp only [go_sem,simprocAttr,hb,fZ,hv,iA,sq,List.map_nil])|fail|(with_reducible (first|apply oC|apply oJ|exact oK|apply wA|apply wB|apply wC hX hC|apply wD hX hC|apply wE hX hC af|apply wF hX hC af|apply wG|apply wH|apply And.intro))|((with_reducible refine oD ?_ ?_);first|fail|kernel_rfl)|((with_reducible (first|apply oE|apply oF));(iterate 3 exact rfl);all_goals (intro h;first|(exact absurd h (by decide))|((try simp only [go_sem,simprocAttr,hb,fZ,hv,iA,sq,List.map_nil] at h);(try with_reducible intro K hK);simp only [go_sem,simprocAttr,hb,fZ,hv,iA,sq,List.map_nil])))|((first|((with_reducible apply wL);exact rfl)|((with_reducible apply wM);exact rfl));all_goals (try ((with_reducible intro h);first|(exact absurd h (by decide))|(try simp only [go_sem,simprocAttr,hb,fZ,hv,iA,sq,List.map_nil] at h))))|omega|((first|first|(refine aA hX hC hP [(10000,13),(10001,100),(10002,101)](ku)rfl rfl rfl ?_ ?_ ?_ ?_ ?_ ?_ ?_ ?_ ?_ ?_ ?_ ?_ ?_ ?_;(focus (simp only [go_sem,simprocAttr,hb,fZ,hv,iA,sq,List.map_nil];done));(iterate 12 (focus (simp [go_sem,simprocAttr,hb,fZ,hv,iA,sq,List.map_nil];done)));simp only [go_sem,simprocAttr,hb,fZ,hv,iA,sq,List.map_nil,List.map_cons,List.map_nil]));try simp only [go_sem,simprocAttr,hb,fZ,hv,iA,sq,List.map_nil])|(intro h))
   all_goals rfl
  |true=>
   rw [hpk vr] at ku
   have ef:(aB g f (x:Int)o).1.2=0:=rfl
   rw [vq] at b8
   generalize aB g f (x:Int)o=su at A5 vq ku ef b8
   generalize OX:ee g p k=E at b8 JG hel hvl
   have tY:=fun d=>nM JG d
   repeat' (first|fail|((first|((with_reducible (first|apply oA|apply oB));exact rfl;intro K hK)|(refine hK _ ?_;clear hK K)|((with_reducible (first|apply oG|apply oH));iterate 3 exact rfl)|((with_reducible apply oI);(iterate 2 exact rfl);intro K hK)|(with_reducible (first|apply wI|apply wJ|apply wK)));try simp only [go_sem,simprocAttr,hb,fZ,hv,iA,sq,ef,b8,tY,List.drop_succ_cons,List.drop_zero])|(show dF _ (.region 11 _ _)_ _;(refine iG hX 13 2 101 100 rfl rfl rfl (by first|exact .inl rfl|exact .inr rfl)(by decide)(by decide) ?_;simp only [LA.app,ASt.put,ASt.kill,subT,rmk,putM,rml,kl,AV.sub,AV.subs,AObj.sub,List.set_cons_zero,List.set_cons_succ,go_sem,simprocAttr,hb,fZ,hv,iA,sq,ef,b8,tY,List.drop_succ_cons,List.drop_zero]))|(with_reducible (first|apply oC|apply oJ|exact oK|apply wA|apply wB|apply wC hX hC|apply wD hX hC|apply wE hX hC af|apply wF hX hC af|apply wG|apply wH|apply And.intro))|((with_reducible refine oD ?_ ?_);first|fail|kernel_rfl)|((with_reducible (first|apply oE|apply oF));(iterate 3 exact rfl);all_goals (intro h;first|(exact absurd h (by decide))|((try simp only [go_sem,simprocAttr,hb,fZ,hv,iA,sq,ef,b8,tY,List.drop_succ_cons,List.drop_zero] at h);(try with_reducible intro K hK);simp only [go_sem,simprocAttr,hb,fZ,hv,iA,sq,ef,b8,tY,List.drop_succ_cons,List.drop_zero])))|((first|((with_reducible apply wL);exact rfl)|((with_reducible apply wM);exact rfl));all_goals (try ((with_reducible intro h);first|(exact absurd h (by decide))|(try simp only [go_sem,simprocAttr,hb,fZ,hv,iA,sq,ef,b8,tY,List.drop_succ_cons,List.drop_zero] at h))))|omega|((first|first|(refine aA hX hC hP [(10000,13),(10001,100),(10002,101)](ku)rfl rfl rfl ?_ ?_ ?_ ?_ ?_ ?_ ?_ ?_ ?_ ?_ ?_ ?_ ?_ ?_;(focus (simp only [go_sem,simprocAttr,hb,fZ,hv,iA,sq,ef,b8,tY,List.drop_succ_cons,List.drop_zero];done));(iterate 12 (focus (simp [go_sem,simprocAttr,hb,fZ,hv,iA,sq,ef,b8,tY,List.drop_succ_cons,List.drop_zero];done)));simp only [go_sem,simprocAttr,hb,fZ,hv,iA,sq,ef,b8,tY,List.drop_succ_cons,List.drop_zero,List.map_cons,List.map_nil]));try simp only [go_sem,simprocAttr,hb,fZ,hv,iA,sq,ef,b8,tY,List.drop_succ_cons,List.drop_zero])|(intro h))
   refine⟨k+1,⟨by omega,fun j hj=> ?_⟩, ?_,by omega⟩
   ·by_cases e:j=k
    ·subst e;exact vr
    ·exact hok j (by omega)
   ·rw [A5]
    have Db:(vT E).set x [D.sl 3 (List.map rT su.1.1)]=vT (ee g p (k+1)):=b8
    refine Le.of ?_ ?_<;>simp [go_sem,simprocAttr,hb,fZ,hv,iA,sq,ef,b8,tY,List.drop_succ_cons,List.drop_zero,Db]
 have hb:decide ((k:Int)<(p.ord.length:Int))=false:=decide_eq_false (by omega)
 obtain rfl:k=g.n.toNat:=by omega
 rw [eS.2 hok] at hR
 subst hR
 repeat' (first|fail|((first|((with_reducible (first|apply oA|apply oB));exact rfl;intro K hK)|(refine hK _ ?_;clear hK K)|((with_reducible (first|apply oG|apply oH));iterate 3 exact rfl)|((with_reducible apply oI);(iterate 2 exact rfl);intro K hK)|(with_reducible (first|apply wI|apply wJ|apply wK)));try simp only [go_sem,simprocAttr,hb])|fail|(with_reducible (first|apply oC|apply oJ|exact oK|apply wA|apply wB|apply wC hX hC|apply wD hX hC|apply wE hX hC af|apply wF hX hC af|apply wG|apply wH|apply And.intro))|((with_reducible refine oD ?_ ?_);first|fail|kernel_rfl)|((with_reducible (first|apply oE|apply oF));(iterate 3 exact rfl);all_goals (intro h;first|(exact absurd h (by decide))|((try simp only [go_sem,simprocAttr,hb] at h);(try with_reducible intro K hK);simp only [go_sem,simprocAttr,hb])))|((first|((with_reducible apply wL);exact rfl)|((with_reducible apply wM);exact rfl));all_goals (try ((with_reducible intro h);first|(exact absurd h (by decide))|(try simp only [go_sem,simprocAttr,hb] at h))))|omega|((first|first|(refine pH hX hC hP 60 (AK [vw g,sI (fK g p g.n.toNat).pl](fK g p g.n.toNat).row (by omega))rfl rfl rfl ?_ ?_ (by first|exact⟨_,_,_,rfl,zj⟩|exact⟨_,_,_,rfl,zk⟩|exact⟨_,_,_,rfl,zm⟩)rfl (by decide) ?_;(iterate 2 (focus (simp only [go_sem,simprocAttr,hb];done)));simp only [go_sem,simprocAttr,hb]));try simp only [go_sem,simprocAttr,hb])|(intro h))
end Go.Ab
end
section
namespace Go.Ab
open Go.Proofs
attribute [local congr] ACall.congr
set_option maxRecDepth 10000
set_option maxHeartbeats 8000000
def P9 (n:Int)(es:List Edge)(ord:List Int)(O:List (List Int)):List (Nat × AObj):= [(10000, .box [eN n, .ref 10001, .ref 10002, .ref 10003]),(10001, .tip 58 2 (es.map rE)),(10002, .tip 3 1 (ord.map rI)),(10003, .own 25 1 (vI O))]
def Qa (n:Int)(es:List Edge)(ord:List Int)(O:List (List Int)):List (Nat × AObj):= [(10000, .box [eN n, .ref 10004, .ref 10002, .ref 10003]),(10004, .tip 58 2 (es.map rE)),(10002, .tip 3 1 (ord.map rI)),(10003, .own 25 1 (vI O))]
def OY (x:Int)(items:List It):List Edge:=(loose items).map fun v=>(v,x)
end Go.Ab
end
section
namespace Go.Ab
open Go.Proofs
attribute [local congr] ACall.congr
set_option maxRecDepth 10000
set_option maxHeartbeats 16000000
def pz:Pl:=⟨[], []⟩
def OZ (b:Bool)(g:Gr)(p:Pl):Gr × Pl × Int:=
 if (bP b g p).2.1≠0 then (gz,pz,1)else if 64<(C2 g p).n∨128<(C2 g p).es.length then (gz,pz,10)else (C2 g p,Mo g p,0)
theorem tZ {b:Bool} {g:Gr} {p:Pl} (hr:b=true↔(cr g).1=0∧bF g p)(h:(bP b g p).2.1=0):cC g p∧bP b g p=((ee g p g.n.toNat,kY g p),(0,0)):=by
 cases b with
 |false=>simp [bP] at h
 |true=>
  have hR:bP true g p=match iJ g p g.n.toNat with
   |some i=>(([], []),(3,(i:Int)))
   |none=>((ee g p g.n.toNat,(fK g p g.n.toNat).row),(0,0)):=rfl
  cases hs:iJ g p g.n.toNat with
  |some i=>rw [hR,hs] at h;simp at h
  |none=>
   obtain⟨h1,h2⟩:=hr.1 rfl
   exact⟨⟨h1,h2,eS.1 hs⟩,by rw [hR,hs];rfl⟩
end Go.Ab
end
section
namespace Go.Ab
open Go.Proofs
attribute [local congr] ACall.congr
set_option maxRecDepth 10000
set_option maxHeartbeats 16000000
def O0 (p:Pl)(x:Gr)(k:Nat):List (List Int):=(List.range k).map fun v=>if 0<(p.outs.getD v []).length then p.outs.getD v [] else bw x (v:Int)
theorem yE {g:Gr} {p:Pl} (hr:cC g p):∀t∈kY g p,t.1<0:=by
 obtain⟨hc,h,hok⟩:=hr
 have hm:=aF hc
 have hn:=aV hm
 obtain⟨hi,gw,_⟩:=dI hm h (k:=g.n.toNat)(Nat.le_refl _)hok
 intro t ht
 refine Decidable.byContradiction fun h0=> ?_
 rcases hi.it t ht with⟨h1,_⟩|⟨h1,h2,_,h4⟩
 ·omega
 ·have Nn:=(dK hm (k:=t.1.toNat)(by omega)).2
  rw [← h4] at Nn
  refine hi.head t ht h1 (jD hi.aY ?_ Nn)
  rw [gw,List.length_take,cg h];omega
end Go.Ab
end
section
namespace Go.Ab
open Go.Proofs
attribute [local congr] ACall.congr
set_option maxRecDepth 10000
set_option maxHeartbeats 8000000
def pY (g:Gr)(p:Pl):Bool:=decide (200<g.es.length)||decide (100<p.ord.length)||decide (100<p.outs.length)||p.outs.any fun l=>decide (200<l.length)
theorem zB {g:Gr} {p:Pl} (h:pY g p=false):g.es.length≤200∧p.ord.length≤100∧p.outs.length≤100∧∀l∈p.outs,l.length≤200:=by
 simp only [pY,Bool.or_eq_false_iff,decide_eq_false_iff_not,List.any_eq_false,decide_eq_true_eq] at h
 obtain⟨⟨⟨h1,h2⟩,h3⟩,h4⟩:=h
 exact⟨by omega,by omega,by omega,fun l hl=>by have:=h4 l hl;omega⟩
theorem xC {g:Gr} {p:Pl} (h:pY g p=false):pO p:=by
 obtain⟨_,h1,h2,h3⟩:=zB h
 exact⟨by omega,by omega,fun l hl=>by have:=h3 l hl;omega⟩
structure zC (p:Pl):Prop where
 ord:p.ord.length≤9223372036854775807
 outs:p.outs.length≤9223372036854775807
 each:∀l∈p.outs,l.length≤9223372036854775807
theorem vt (g:Gr)(p:Pl)(hl:g.es.length≤9223372036854775807)(hp:zC p):Spec Tryz.prog 19 (Args [eG g,ePl p]) [](eB (pY g p)) []:=by
 have ho:=hp.ord
 have hu:=hp.outs
 (refine Spec.intro (C:=T.cfg [] [])(rs:= [.t 4])(T.au _ _)Tryz.func19 rfl rfl Tryz.ntmps19 Tryz.results19 (by simp [AObj.isNest])(by simp [AObj.isNest])(by kernel_rfl) ?_;intro X hX hP hC aI aJ vals hA;refine⟨_,by simp,hA, ?_⟩;have af:X.P.follows .mixedOrders=true:=(by rw [hP];exact T.mixed);clear aI aJ)
 generalize hB:pY g p=B
 by_cases h1:200<g.es.length
 ·have ak:decide (200<(g.es.length:Int))=true:=decide_eq_true (by omega)
  have:B=true:=by rw [← hB,pY,decide_eq_true h1];rfl
  subst this
  repeat' (first|fail|((first|((with_reducible (first|apply oA|apply oB));exact rfl;intro K hK)|(refine hK _ ?_;clear hK K)|((with_reducible (first|apply oG|apply oH));iterate 3 exact rfl)|((with_reducible apply oI);(iterate 2 exact rfl);intro K hK)|(with_reducible (first|apply wI|apply wJ|apply wK)));try simp only [go_sem,simprocAttr,ak])|fail|(with_reducible (first|apply oC|apply oJ|exact oK|apply wA|apply wB|apply wC hX hC|apply wD hX hC|apply wE hX hC af|apply wF hX hC af|apply wG|apply wH|apply And.intro))|((with_reducible refine oD ?_ ?_);first|fail|kernel_rfl)|((with_reducible (first|apply oE|apply oF));(iterate 3 exact rfl);all_goals (intro h;first|(exact absurd h (by decide))|((try simp only [go_sem,simprocAttr,ak] at h);(try with_reducible intro K hK);simp only [go_sem,simprocAttr,ak])))|((first|((with_reducible apply wL);exact rfl)|((with_reducible apply wM);exact rfl));all_goals (try ((with_reducible intro h);first|(exact absurd h (by decide))|(try simp only [go_sem,simprocAttr,ak] at h))))|omega|((first|fail);try simp only [go_sem,simprocAttr,ak])|(intro h))
 have ak:decide (200<(g.es.length:Int))=false:=decide_eq_false (by omega)
 by_cases h2:100<p.ord.length
 ·have aq:decide (100<(p.ord.length:Int))=true:=decide_eq_true (by omega)
  have:B=true:=by rw [← hB,pY,decide_eq_true h2];simp
  subst this
  repeat' (first|fail|((first|((with_reducible (first|apply oA|apply oB));exact rfl;intro K hK)|(refine hK _ ?_;clear hK K)|((with_reducible (first|apply oG|apply oH));iterate 3 exact rfl)|((with_reducible apply oI);(iterate 2 exact rfl);intro K hK)|(with_reducible (first|apply wI|apply wJ|apply wK)));try simp only [go_sem,simprocAttr,ak,aq])|fail|(with_reducible (first|apply oC|apply oJ|exact oK|apply wA|apply wB|apply wC hX hC|apply wD hX hC|apply wE hX hC af|apply wF hX hC af|apply wG|apply wH|apply And.intro))|((with_reducible refine oD ?_ ?_);first|fail|kernel_rfl)|((with_reducible (first|apply oE|apply oF));(iterate 3 exact rfl);all_goals (intro h;first|(exact absurd h (by decide))|((try simp only [go_sem,simprocAttr,ak,aq] at h);(try with_reducible intro K hK);simp only [go_sem,simprocAttr,ak,aq])))|((first|((with_reducible apply wL);exact rfl)|((with_reducible apply wM);exact rfl));all_goals (try ((with_reducible intro h);first|(exact absurd h (by decide))|(try simp only [go_sem,simprocAttr,ak,aq] at h))))|omega|((first|fail);try simp only [go_sem,simprocAttr,ak,aq])|(intro h))
 have aq:decide (100<(p.ord.length:Int))=false:=decide_eq_false (by omega)
 by_cases h3:100<p.outs.length
 ·have bu:decide (100<(p.outs.length:Int))=true:=decide_eq_true (by omega)
  have:B=true:=by rw [← hB,pY,decide_eq_true h3];simp
  subst this
  repeat' (first|fail|((first|((with_reducible (first|apply oA|apply oB));exact rfl;intro K hK)|(refine hK _ ?_;clear hK K)|((with_reducible (first|apply oG|apply oH));iterate 3 exact rfl)|((with_reducible apply oI);(iterate 2 exact rfl);intro K hK)|(with_reducible (first|apply wI|apply wJ|apply wK)));try simp only [go_sem,simprocAttr,ak,aq,bu])|fail|(with_reducible (first|apply oC|apply oJ|exact oK|apply wA|apply wB|apply wC hX hC|apply wD hX hC|apply wE hX hC af|apply wF hX hC af|apply wG|apply wH|apply And.intro))|((with_reducible refine oD ?_ ?_);first|fail|kernel_rfl)|((with_reducible (first|apply oE|apply oF));(iterate 3 exact rfl);all_goals (intro h;first|(exact absurd h (by decide))|((try simp only [go_sem,simprocAttr,ak,aq,bu] at h);(try with_reducible intro K hK);simp only [go_sem,simprocAttr,ak,aq,bu])))|((first|((with_reducible apply wL);exact rfl)|((with_reducible apply wM);exact rfl));all_goals (try ((with_reducible intro h);first|(exact absurd h (by decide))|(try simp only [go_sem,simprocAttr,ak,aq,bu] at h))))|omega|((first|fail);try simp only [go_sem,simprocAttr,ak,aq,bu])|(intro h))
 have bu:decide (100<(p.outs.length:Int))=false:=decide_eq_false (by omega)
 have xW:B=p.outs.any fun l=>decide (200<l.length):=by rw [← hB,pY,decide_eq_false h1,decide_eq_false h2,decide_eq_false h3];simp
 clear hB
 repeat' (first|fail|((first|((with_reducible (first|apply oA|apply oB));exact rfl;intro K hK)|(refine hK _ ?_;clear hK K)|((with_reducible (first|apply oG|apply oH));iterate 3 exact rfl)|((with_reducible apply oI);(iterate 2 exact rfl);intro K hK)|(with_reducible (first|apply wI|apply wJ|apply wK)));try simp only [go_sem,simprocAttr,ak,aq,bu])|fail|(with_reducible (first|apply oC|apply oJ|exact oK|apply wA|apply wB|apply wC hX hC|apply wD hX hC|apply wE hX hC af|apply wF hX hC af|apply wG|apply wH|apply And.intro))|((with_reducible refine oD ?_ ?_);first|fail|kernel_rfl)|((with_reducible (first|apply oE|apply oF));(iterate 3 exact rfl);all_goals (intro h;first|(exact absurd h (by decide))|((try simp only [go_sem,simprocAttr,ak,aq,bu] at h);(try with_reducible intro K hK);simp only [go_sem,simprocAttr,ak,aq,bu])))|((first|((with_reducible apply wL);exact rfl)|((with_reducible apply wM);exact rfl));all_goals (try ((with_reducible intro h);first|(exact absurd h (by decide))|(try simp only [go_sem,simprocAttr,ak,aq,bu] at h))))|omega|((first|fail);try simp only [go_sem,simprocAttr,ak,aq,bu])|(intro h))
 refine an (fun k:Nat=>k≤p.outs.length∧∀j,j<k→(p.outs.getD j []).length≤200)(fun k=>⟨[(24, .d (.sl 1 (vI p.outs))),(25,eN p.outs.length),(26,eN k)], []⟩)(fun k=>p.outs.length - k)0 (by simp) ?_ ?_
 ·(refine Le.of ?_ ?_<;>simp [go_sem,simprocAttr])
 rintro k⟨hk,hg⟩
 rcases Nat.lt_or_ge k p.outs.length with ck|FC
 ·have hb:decide ((k:Int)<(p.outs.length:Int))=true:=decide_eq_true (by omega)
  have hv:=j3 ck
  have hm:=bt (d:= [])ck
  have kr:=hp.each _ hm
  by_cases h4:200<(p.outs.getD k []).length
  ·have hb4:decide (200<((p.outs.getD k []).length:Int))=true:=decide_eq_true (by omega)
   have:B=true:=by rw [xW,List.any_eq_true];exact⟨_,hm,decide_eq_true h4⟩
   subst this
   repeat' (first|fail|((first|((with_reducible (first|apply oA|apply oB));exact rfl;intro K hK)|(refine hK _ ?_;clear hK K)|((with_reducible (first|apply oG|apply oH));iterate 3 exact rfl)|((with_reducible apply oI);(iterate 2 exact rfl);intro K hK)|(with_reducible (first|apply wI|apply wJ|apply wK)));try simp only [go_sem,simprocAttr,hb,hv,hb4])|fail|(with_reducible (first|apply oC|apply oJ|exact oK|apply wA|apply wB|apply wC hX hC|apply wD hX hC|apply wE hX hC af|apply wF hX hC af|apply wG|apply wH|apply And.intro))|((with_reducible refine oD ?_ ?_);first|fail|kernel_rfl)|((with_reducible (first|apply oE|apply oF));(iterate 3 exact rfl);all_goals (intro h;first|(exact absurd h (by decide))|((try simp only [go_sem,simprocAttr,hb,hv,hb4] at h);(try with_reducible intro K hK);simp only [go_sem,simprocAttr,hb,hv,hb4])))|((first|((with_reducible apply wL);exact rfl)|((with_reducible apply wM);exact rfl));all_goals (try ((with_reducible intro h);first|(exact absurd h (by decide))|(try simp only [go_sem,simprocAttr,hb,hv,hb4] at h))))|omega|((first|fail);try simp only [go_sem,simprocAttr,hb,hv,hb4])|(intro h))
  ·have hb4:decide (200<((p.outs.getD k []).length:Int))=false:=decide_eq_false (by omega)
   repeat' (first|fail|((first|((with_reducible (first|apply oA|apply oB));exact rfl;intro K hK)|(refine hK _ ?_;clear hK K)|((with_reducible (first|apply oG|apply oH));iterate 3 exact rfl)|((with_reducible apply oI);(iterate 2 exact rfl);intro K hK)|(with_reducible (first|apply wI|apply wJ|apply wK)));try simp only [go_sem,simprocAttr,hb,hv,hb4])|fail|(with_reducible (first|apply oC|apply oJ|exact oK|apply wA|apply wB|apply wC hX hC|apply wD hX hC|apply wE hX hC af|apply wF hX hC af|apply wG|apply wH|apply And.intro))|((with_reducible refine oD ?_ ?_);first|fail|kernel_rfl)|((with_reducible (first|apply oE|apply oF));(iterate 3 exact rfl);all_goals (intro h;first|(exact absurd h (by decide))|((try simp only [go_sem,simprocAttr,hb,hv,hb4] at h);(try with_reducible intro K hK);simp only [go_sem,simprocAttr,hb,hv,hb4])))|((first|((with_reducible apply wL);exact rfl)|((with_reducible apply wM);exact rfl));all_goals (try ((with_reducible intro h);first|(exact absurd h (by decide))|(try simp only [go_sem,simprocAttr,hb,hv,hb4] at h))))|omega|((first|fail);try simp only [go_sem,simprocAttr,hb,hv,hb4])|(intro h))
   refine⟨k+1,⟨by omega,fun j hj=> ?_⟩, ?_,by omega⟩
   ·by_cases e:j=k
    ·subst e;omega
    ·exact hg j (by omega)
   ·(refine Le.of ?_ ?_<;>simp [go_sem,simprocAttr,hb,hv,hb4])
 ·have hb:decide ((k:Int)<(p.outs.length:Int))=false:=decide_eq_false (by omega)
  have:B=false:=by
   rw [xW,List.any_eq_false]
   intro l hl
   obtain⟨j,hj,rfl⟩:=List.mem_iff_getElem.1 hl
   have:=hg j (by omega)
   rw [List.getD_eq_getElem?_getD,List.getElem?_eq_getElem hj,Option.getD_some] at this
   simp;omega
  subst this
  repeat' (first|fail|((first|((with_reducible (first|apply oA|apply oB));exact rfl;intro K hK)|(refine hK _ ?_;clear hK K)|((with_reducible (first|apply oG|apply oH));iterate 3 exact rfl)|((with_reducible apply oI);(iterate 2 exact rfl);intro K hK)|(with_reducible (first|apply wI|apply wJ|apply wK)));try simp only [go_sem,simprocAttr,hb])|fail|(with_reducible (first|apply oC|apply oJ|exact oK|apply wA|apply wB|apply wC hX hC|apply wD hX hC|apply wE hX hC af|apply wF hX hC af|apply wG|apply wH|apply And.intro))|((with_reducible refine oD ?_ ?_);first|fail|kernel_rfl)|((with_reducible (first|apply oE|apply oF));(iterate 3 exact rfl);all_goals (intro h;first|(exact absurd h (by decide))|((try simp only [go_sem,simprocAttr,hb] at h);(try with_reducible intro K hK);simp only [go_sem,simprocAttr,hb])))|((first|((with_reducible apply wL);exact rfl)|((with_reducible apply wM);exact rfl));all_goals (try ((with_reducible intro h);first|(exact absurd h (by decide))|(try simp only [go_sem,simprocAttr,hb] at h))))|omega|((first|fail);try simp only [go_sem,simprocAttr,hb])|(intro h))
def kB (g:Gr):Bool:=decide ((cr g).1=0)&&decide ((bJ (·.1)g).length=1)
theorem sH (g:Gr)(hl:g.es.length≤1000):Spec Tryz.prog 51 (Args [eG g]) [](eB (kB g)) []:=by
 by_cases hc:(cr g).1=0
 ·have hm:=aF hc
  have ak:decide ((cr g).1=0)=true:=decide_eq_true hc
  have hI:kB g=decide (((bJ (·.1)g).length:Int)=1):=by
   unfold kB;rw [ak,Bool.true_and,decide_eq_decide];omega
  rw [hI]
  generalize iR:bJ (·.1)g=bl
  have hS:=rV g hm
  rw [iR] at hS
  (refine Spec.intro (C:=T.cfg [] [])(rs:= [.t 2])(T.au _ _)Tryz.func51 rfl rfl Tryz.ntmps51 Tryz.results51 (by simp [AObj.isNest])(by simp [AObj.isNest])(by kernel_rfl) ?_;intro X hX hP hC aI aJ vals hA;refine⟨_,by simp,hA, ?_⟩;have af:X.P.follows .mixedOrders=true:=(by rw [hP];exact T.mixed);clear aI aJ)
  repeat' (first|fail|((first|((with_reducible (first|apply oA|apply oB));exact rfl;intro K hK)|(refine hK _ ?_;clear hK K)|((with_reducible (first|apply oG|apply oH));iterate 3 exact rfl)|((with_reducible apply oI);(iterate 2 exact rfl);intro K hK)|(with_reducible (first|apply wI|apply wJ|apply wK)));try simp only [go_sem,simprocAttr,ak])|fail|(with_reducible (first|apply oC|apply oJ|exact oK|apply wA|apply wB|apply wC hX hC|apply wD hX hC|apply wE hX hC af|apply wF hX hC af|apply wG|apply wH|apply And.intro))|((with_reducible refine oD ?_ ?_);first|fail|kernel_rfl)|((with_reducible (first|apply oE|apply oF));(iterate 3 exact rfl);all_goals (intro h;first|(exact absurd h (by decide))|((try simp only [go_sem,simprocAttr,ak] at h);(try with_reducible intro K hK);simp only [go_sem,simprocAttr,ak])))|((first|((with_reducible apply wL);exact rfl)|((with_reducible apply wM);exact rfl));all_goals (try ((with_reducible intro h);first|(exact absurd h (by decide))|(try simp only [go_sem,simprocAttr,ak] at h))))|omega|((first|first|refine aa hX hC hP (jV g hl)rfl rfl rfl (by simp only [go_sem,simprocAttr,ak])rfl ?_|refine aa hX hC hP (ga g hm)rfl rfl rfl (by simp only [go_sem,simprocAttr,ak])rfl ?_|refine aa hX hC hP (hS)rfl rfl rfl (by simp only [go_sem,simprocAttr,ak])rfl ?_);try simp only [go_sem,simprocAttr,ak])|(intro h))
 ·have ak:decide ((cr g).1=0)=false:=decide_eq_false hc
  have hI:kB g=false:=by unfold kB;rw [ak];rfl
  rw [hI]
  (refine Spec.intro (C:=T.cfg [] [])(rs:= [.t 2])(T.au _ _)Tryz.func51 rfl rfl Tryz.ntmps51 Tryz.results51 (by simp [AObj.isNest])(by simp [AObj.isNest])(by kernel_rfl) ?_;intro X hX hP hC aI aJ vals hA;refine⟨_,by simp,hA, ?_⟩;have af:X.P.follows .mixedOrders=true:=(by rw [hP];exact T.mixed);clear aI aJ)
  repeat' (first|fail|((first|((with_reducible (first|apply oA|apply oB));exact rfl;intro K hK)|(refine hK _ ?_;clear hK K)|((with_reducible (first|apply oG|apply oH));iterate 3 exact rfl)|((with_reducible apply oI);(iterate 2 exact rfl);intro K hK)|(with_reducible (first|apply wI|apply wJ|apply wK)));try simp only [go_sem,simprocAttr,ak])|fail|(with_reducible (first|apply oC|apply oJ|exact oK|apply wA|apply wB|apply wC hX hC|apply wD hX hC|apply wE hX hC af|apply wF hX hC af|apply wG|apply wH|apply And.intro))|((with_reducible refine oD ?_ ?_);first|fail|kernel_rfl)|((with_reducible (first|apply oE|apply oF));(iterate 3 exact rfl);all_goals (intro h;first|(exact absurd h (by decide))|((try simp only [go_sem,simprocAttr,ak] at h);(try with_reducible intro K hK);simp only [go_sem,simprocAttr,ak])))|((first|((with_reducible apply wL);exact rfl)|((with_reducible apply wM);exact rfl));all_goals (try ((with_reducible intro h);first|(exact absurd h (by decide))|(try simp only [go_sem,simprocAttr,ak] at h))))|omega|((first|first|refine aa hX hC hP (jV g hl)rfl rfl rfl (by simp only [go_sem,simprocAttr,ak])rfl ?_);try simp only [go_sem,simprocAttr,ak])|(intro h))
theorem yF (g:Gr)(hl:g.es.length≤1000):Spec Tryz.prog 50 (Args [eG g]) [](eB (kB g)) []:=by
 by_cases hc:(cr g).1=0
 ·have hm:=aF hc
  have hn:=aV hm
  have ak:decide ((cr g).1=0)=true:=decide_eq_true hc
  have hI:kB g=decide (((bJ (·.1)g).length:Int)=1):=by
   unfold kB;rw [ak,Bool.true_and,decide_eq_decide];omega
  rw [hI]
  have hS:=cx g false hl (by omega)
  rw [show jW (!false)=(·.1)from rfl] at hS
  generalize bJ (·.1)g=bl at hS
  (refine Spec.intro (C:=T.cfg [] [])(rs:= [.t 2])(T.au _ _)Tryz.func50 rfl rfl Tryz.ntmps50 Tryz.results50 (by simp [AObj.isNest])(by simp [AObj.isNest])(by kernel_rfl) ?_;intro X hX hP hC aI aJ vals hA;refine⟨_,by simp,hA, ?_⟩;have af:X.P.follows .mixedOrders=true:=(by rw [hP];exact T.mixed);clear aI aJ)
  repeat' (first|fail|((first|((with_reducible (first|apply oA|apply oB));exact rfl;intro K hK)|(refine hK _ ?_;clear hK K)|((with_reducible (first|apply oG|apply oH));iterate 3 exact rfl)|((with_reducible apply oI);(iterate 2 exact rfl);intro K hK)|(with_reducible (first|apply wI|apply wJ|apply wK)));try simp only [go_sem,simprocAttr,ak])|fail|(with_reducible (first|apply oC|apply oJ|exact oK|apply wA|apply wB|apply wC hX hC|apply wD hX hC|apply wE hX hC af|apply wF hX hC af|apply wG|apply wH|apply And.intro))|((with_reducible refine oD ?_ ?_);first|fail|kernel_rfl)|((with_reducible (first|apply oE|apply oF));(iterate 3 exact rfl);all_goals (intro h;first|(exact absurd h (by decide))|((try simp only [go_sem,simprocAttr,ak] at h);(try with_reducible intro K hK);simp only [go_sem,simprocAttr,ak])))|((first|((with_reducible apply wL);exact rfl)|((with_reducible apply wM);exact rfl));all_goals (try ((with_reducible intro h);first|(exact absurd h (by decide))|(try simp only [go_sem,simprocAttr,ak] at h))))|omega|((first|first|refine aa hX hC hP (aR g (by omega))rfl rfl rfl (by simp only [go_sem,simprocAttr,ak])rfl ?_|refine aa hX hC hP (hS)rfl rfl rfl (by simp only [go_sem,simprocAttr,ak])rfl ?_);try simp only [go_sem,simprocAttr,ak])|(intro h))
 ·have ak:decide ((cr g).1=0)=false:=decide_eq_false hc
  have hI:kB g=false:=by unfold kB;rw [ak];rfl
  rw [hI]
  (refine Spec.intro (C:=T.cfg [] [])(rs:= [.t 2])(T.au _ _)Tryz.func50 rfl rfl Tryz.ntmps50 Tryz.results50 (by simp [AObj.isNest])(by simp [AObj.isNest])(by kernel_rfl) ?_;intro X hX hP hC aI aJ vals hA;refine⟨_,by simp,hA, ?_⟩;have af:X.P.follows .mixedOrders=true:=(by rw [hP];exact T.mixed);clear aI aJ)
  repeat' (first|fail|((first|((with_reducible (first|apply oA|apply oB));exact rfl;intro K hK)|(refine hK _ ?_;clear hK K)|((with_reducible (first|apply oG|apply oH));iterate 3 exact rfl)|((with_reducible apply oI);(iterate 2 exact rfl);intro K hK)|(with_reducible (first|apply wI|apply wJ|apply wK)));try simp only [go_sem,simprocAttr,ak])|fail|(with_reducible (first|apply oC|apply oJ|exact oK|apply wA|apply wB|apply wC hX hC|apply wD hX hC|apply wE hX hC af|apply wF hX hC af|apply wG|apply wH|apply And.intro))|((with_reducible refine oD ?_ ?_);first|fail|kernel_rfl)|((with_reducible (first|apply oE|apply oF));(iterate 3 exact rfl);all_goals (intro h;first|(exact absurd h (by decide))|((try simp only [go_sem,simprocAttr,ak] at h);(try with_reducible intro K hK);simp only [go_sem,simprocAttr,ak])))|((first|((with_reducible apply wL);exact rfl)|((with_reducible apply wM);exact rfl));all_goals (try ((with_reducible intro h);first|(exact absurd h (by decide))|(try simp only [go_sem,simprocAttr,ak] at h))))|omega|((first|first|refine aa hX hC hP (aR g (by omega))rfl rfl rfl (by simp only [go_sem,simprocAttr,ak])rfl ?_);try simp only [go_sem,simprocAttr,ak])|(intro h))
end Go.Ab
end
section
namespace Go.Ab
open Go.Proofs
attribute [local congr] ACall.congr
set_option maxRecDepth 10000
set_option maxHeartbeats 8000000
def Qb:Gr:=⟨3, [(0,1),(0,2)]⟩
def Qc:Pl:=⟨[0,1,2], [[0,1], [], []]⟩
def Qd:Gr:=⟨4, [(0,1),(0,2),(1,3),(2,3)]⟩
def Qe:Pl:=⟨[0,1,2,3], [[0,1], [2], [3], []]⟩
end Go.Ab
end
section
namespace Go.Ab
open Go.Proofs
attribute [local congr] ACall.congr
set_option maxRecDepth 10000
def Qf (l:List Int)(k:Nat):Bool:=(List.range k).all fun i=>decide (l.getD i 0=(i:Int))
def EK (g:Gr)(names order:List Int)(k:Nat):List Edge:=(List.range k).map fun i=>(names.getD (g.es.getD (order.getD i 0).toNat (0,0)).1.toNat 0,names.getD (g.es.getD (order.getD i 0).toNat (0,0)).2.toNat 0)
def gA (g:Gr)(names order:List Int):Gr:=⟨g.n,EK g names order order.length⟩
theorem xD {g:Gr} {names order:List Int} {k:Nat} :(EK g names order k).length=k:=by simp [EK]
def JH (g:Gr)(names order:List Int):Bool:=aM g&&fL names g.n&&fL order g.es.length
def O2 (g:Gr)(names order:List Int):Gr:=if JH g names order then gA g names order else⟨0, []⟩
end Go.Ab
end
section
namespace Go.Ab
def Ed (g:Gr)(a b:Int):Prop:=∃i,i<g.es.length∧tl g i=a∧hd g i=b
def Ke (g:Gr)(l:List Int):Prop:=∀i,i<l.length→Ed g (l.getD i 0)(l.getD ((i+1) % l.length)0)
def Dc (g:Gr)(way:List Int)(at_:Int):Prop:=∀p,p<way.length→Ed g ((way++ [at_]).getD (p+1)0)(way.getD p 0)
theorem oW {l:List Int} {a:Int} :(l++ [a]).getD l.length 0=a:=by
 rw [List.getD_eq_getElem?_getD,List.getElem?_append_right (Nat.le_refl _)];simp
theorem sJ {g:Gr} (hm:aM g=true):∀(f:Nat)(way:List Int)(a:Nat),a<g.n.toNat→(a:Int)∉aK g→Dc g way a→left g way≤f→
  Dc g (jU g (cA g (aK g))f way a).1 (jU g (cA g (aK g))f way a).2∧0≤(jU g (cA g (aK g))f way a).2∧(jU g (cA g (aK g))f way a).2∈(jU g (cA g (aK g))f way a).1
 |f,way,a,ha,hn,hc,hl=>by
  by_cases hmem:(a:Int)∈way
  ·rw [jt (.inr hmem)]
   exact⟨hc,by simp only;omega,hmem⟩
  ·have hla:=ia ha hmem
   cases f with
   |zero=>omega
   |succ f=>
    obtain⟨⟨i,hi,Mp,Bo,Jw⟩,_⟩:=r7 hm (F5 hm ha hn)
    have htr:=bK hm hi
    rw [Bo] at htr
    obtain⟨b,yw⟩:∃b:Nat,iI g (cA g (aK g))a=b:=⟨(iI g (cA g (aK g))a).toNat,by omega⟩
    rw [yw] at Jw htr Bo
    have e1:jU g (cA g (aK g))(f+1)way a=jU g (cA g (aK g))f (way++ [(a:Int)])b:=by
     simp only [jU];rw [if_neg (by intro h;rcases h with h|h;omega;exact hmem h),yw]
    rw [e1]
    refine sJ hm f (way++ [(a:Int)])b (by omega)Jw ?_ (by omega)
    intro p hp
    rw [List.length_append,List.length_singleton] at hp
    by_cases gw:p<way.length
    ·have:=hc p gw
     rw [kW (by simp;omega),kW gw]
     exact this
    ·have:p=way.length:=by omega
     subst this
     have e2:=oW (l:=way++ [(a:Int)])(a:=(b:Int))
     rw [List.length_append,List.length_singleton] at e2
     rw [e2,oW]
     exact⟨i,hi,Bo,Mp⟩
theorem oX {l:List Int} {k p:Nat} :(l.drop k).getD p 0=l.getD (k+p)0:=by
 rw [List.getD_eq_getElem?_getD,List.getElem?_drop, ← List.getD_eq_getElem?_getD]
theorem Ke.Mq {g:Gr} {l:List Int} (h:∀p,p<l.length→Ed g (l.getD ((p+1) % l.length)0)(l.getD p 0))(h0:0<l.length):Ke g (kg l.reverse):=by
 have Kc:0<l.reverse.length:=by simpa using h0
 obtain⟨k,xO,hk2,_⟩:=dw (ic Kc)
 rw [List.length_reverse] at hk2
 have e1:kg l.reverse=l.reverse.drop k++l.reverse.take k:=by simp only [kg,xO,Int.toNat_natCast]
 have hlen:(kg l.reverse).length=l.length:=by rw [e1];simp;omega
 have hg:∀i,i<l.length→(kg l.reverse).getD i 0=l.getD (l.length - 1 - (i+k) % l.length)0:=by
  intro i hi
  rw [e1,List.getD_eq_getElem?_getD]
  by_cases hik:i<l.length - k
  ·rw [List.getElem?_append_left (by simp;omega),List.getElem?_drop,List.getElem?_reverse (by omega),Nat.mod_eq_of_lt (by omega), ← List.getD_eq_getElem?_getD]
   congr 1;omega
  ·rw [List.getElem?_append_right (by simp;omega),List.length_drop,List.length_reverse,List.getElem?_take,if_pos (by omega),List.getElem?_reverse (by omega), ← List.getD_eq_getElem?_getD]
   have:(i+k) % l.length=i+k - l.length:=by rw [Nat.mod_eq_sub_mod (by omega),Nat.mod_eq_of_lt (by omega)]
   rw [this];congr 1;omega
 intro i hi
 rw [hlen] at hi ⊢
 rw [hg i hi,hg _ (Nat.mod_lt _ h0)]
 have hmm:((i+1) % l.length+k) % l.length=((i+k) % l.length+1) % l.length:=by
  rw [Nat.mod_add_mod,Nat.mod_add_mod];congr 1;omega
 rw [hmm]
 have hj:=Nat.mod_lt (i+k)h0
 generalize (i+k) % l.length=j at hj ⊢
 by_cases ua:j+1<l.length
 ·rw [Nat.mod_eq_of_lt ua]
  have:=h (l.length - 1 - (j+1))(by omega)
  rw [Nat.mod_eq_of_lt (by omega),show l.length - 1 - (j+1)+1=l.length - 1 - j from by omega] at this
  exact this
 ·have:j+1=l.length:=by omega
  rw [this,Nat.mod_self]
  have:=h (l.length - 1)(by omega)
  rw [show l.length - 1+1=l.length from by omega,Nat.mod_self] at this
  rw [show l.length - 1 - j=0 from by omega]
  exact this
def Mr (g:Gr):Prop:=∃r:Int→Nat,∀i,i<g.es.length→r (tl g i)<r (hd g i)
theorem zD {g:Gr} (hm:aM g=true):Bu g=true↔Mr g:=by
 constructor
 ·intro h
  refine⟨fun v=>((xh g.n.toNat (aK g)(aK g).length).getD v.toNat 0).toNat,fun i hi=> ?_⟩
  have h1:=CU (AI hm h)hi
  have h2:=si (n:=g.n.toNat)(l:=aK g)(k:=(aK g).length)(y:=(tl g i).toNat)
  simp only;omega
 ·rintro⟨r,hr⟩
  cases h:Bu g with
  |true=>rfl
  |false=>
   exfalso
   obtain⟨y,hy,hn⟩:=zi hm h
   have key:∀(p:Nat)(y:Nat),y<g.n.toNat→(y:Int)∉aK g→r y=p→False:=by
    intro p
    induction p using Nat.strongRecOn with
    |_ p ih=>
     intro y hy hn hp
     obtain⟨t,i,hi,h1,rfl,h2⟩:=F5 hm hy hn
     have htr:=bK hm hi
     have hlt:=hr i hi
     rw [h1,hp] at hlt
     have e:((tl g i).toNat:Int)=tl g i:=by omega
     exact ih (r (tl g i))hlt (tl g i).toNat (by omega)(by rw [e];exact h2)(by rw [e])
   exact key _ y hy hn rfl
theorem EL {g:Gr} (hm:aM g=true)(h:Bu g=true):js g= []:=by
 have hall:=(bZ.1 (zh hm h)).2
 have hn:=aV hm
 rcases start_eq hm with⟨h1,h2⟩|⟨a,ha,h1,h2,h3⟩
 ·have:jr g=([], -1):=by
   unfold jr;rw [h1];exact jt (.inl (by omega))_
  simp only [js,this]
  rw [if_pos (by omega)]
 ·exact absurd (hall a (dU.2 (by omega)))h3
theorem Dd {g:Gr} (hm:aM g=true)(h:Bu g=false):0<(js g).length∧Ke g (js g):=by
 obtain⟨y,hy,O3⟩:=zi hm h
 have hn:=aV hm
 rcases start_eq hm with⟨h1,h2⟩|⟨a,ha,h1,h2,h3⟩
 ·exfalso
  rcases eO (f:=fun n:Int=>decide (0<n))(l:=cA g (aK g))0 with⟨_,h4⟩|⟨k,h4,_⟩
  ·have h5:=(oR hm hy).2 O3
   have h6:=h4 ((cA g (aK g)).getD y 0)(by rw [List.getD_eq_getElem?_getD,jS hy];exact List.mem_of_getElem? (jS hy))
   rw [kQ hy] at h6
   exact absurd h5 (of_decide_eq_false h6)
  ·omega
 ·obtain⟨h4,h5,h6⟩:=sJ hm g.n.toNat [] a ha h3 (fun p hp=>by simp at hp)vh
  have hw:jr g=jU g (cA g (aK g))g.n.toNat [] a:=by unfold jr;rw [h1]
  rw [← hw] at h4 h5 h6
  obtain⟨k,xO,hk2,Ju⟩:=dw h6
  have hc:js g=kg ((jr g).1.drop k).reverse:=by
   simp only [js]
   rw [if_neg (by omega),xO,Int.toNat_natCast]
  have hlen:((jr g).1.drop k).length=(jr g).1.length - k:=by simp
  have h0:0<((jr g).1.drop k).length:=by omega
  refine⟨?_, ?_⟩
  ·rw [hc]
   simp only [kg,List.length_append,List.length_drop,List.length_take,List.length_reverse]
   omega
  ·rw [hc]
   refine Ke.Mq (fun p hp=> ?_)h0
   rw [hlen] at hp ⊢
   have h7:=h4 (k+p)(by omega)
   rw [oX (p:=p)]
   by_cases ua:p+1<(jr g).1.length - k
   ·rw [Nat.mod_eq_of_lt ua,oX]
    rw [kW (by omega)] at h7
    exact h7
   ·have:p+1=(jr g).1.length - k:=by omega
    rw [this,Nat.mod_self,oX,Nat.add_zero,Ju]
    rw [show k+p+1=(jr g).1.length from by omega,oW] at h7
    exact h7
end Go.Ab
end
section
namespace Go.Ab
def nm (names:List Int)(v:Int):Int:=names.getD v.toNat 0
structure iK (g:Gr)(names order:List Int):Prop where
 may:aM g=true
 Gf:fL names g.n=true
 ord:fL order (g.es.length:Int)=true
section
variable {g:Gr} {names order:List Int} (h:iK g names order)
include h
theorem iK.len:(gA g names order).es.length=g.es.length:=by
 have:=(bZ.1 h.ord).1
 simp only [gA,xD];omega
theorem iK.iT {i:Nat} (hi:i<g.es.length):∃j,j<g.es.length∧order.getD i 0=(j:Int)∧(gA g names order).es.getD i (0,0)=(nm names (tl g j),nm names (hd g j)):=by
 have qO:=(bZ.1 h.ord).1
 have:=sg h.ord _ (gr (l:=order)(m:=i)(by omega))
 refine⟨(order.getD i 0).toNat,by omega,by omega, ?_⟩
 simp only [gA,EK,nm,tl,hd]
 rw [List.getD_eq_getElem?_getD,List.getElem?_map,List.getElem?_range (by omega)]
 rfl
theorem iK.back {j:Nat} (hj:j<g.es.length):∃i,i<g.es.length∧order.getD i 0=(j:Int)∧(gA g names order).es.getD i (0,0)=(nm names (tl g j),nm names (hd g j)):=by
 obtain⟨qO,hall⟩:=bZ.1 h.ord
 obtain⟨i,hi,hil,he⟩:=dw (hall (j:Int)(dU.2 (by omega)))
 obtain⟨j',_,h2,h3⟩:=h.iT (i:=i)(by omega)
 have:j'=j:=by omega
 subst this
 exact⟨i,by omega,he,h3⟩
theorem iK.inj {a b:Int} (ha:0≤a∧a<g.n)(hb:0≤b∧b<g.n)(e:nm names a=nm names b):a=b:=by
 have hnl:=(bZ.1 h.Gf).1
 have:=jY h.Gf (i:=a.toNat)(j:=b.toNat)(by omega)(by omega)e
 omega
theorem iK.range {a:Int} (ha:0≤a∧a<g.n):0≤nm names a∧nm names a<g.n:=by
 have hnl:=(bZ.1 h.Gf).1
 exact sg h.Gf _ (gr (by omega))
theorem iK.inv {a:Int} (ha:0≤a∧a<g.n):dx names (nm names a)=a:=by
 have hnl:=(bZ.1 h.Gf).1
 obtain⟨k,hk,ck,he⟩:=dw (gr (l:=names)(m:=a.toNat)(by omega))
 have h2:=jY h.Gf ck (j:=a.toNat)(by omega)he
 have h3:dx names (nm names a)=k:=hk
 omega
theorem iK.of {v:Int} (hv:0≤v∧v<g.n):∃a,(0≤a∧a<g.n)∧nm names a=v:=by
 obtain⟨hnl,hall⟩:=bZ.1 h.Gf
 obtain⟨k,hk,ck,he⟩:=dw (hall v (dU.2 (by omega)))
 exact⟨k,by omega,he⟩
theorem iK.may':aM (gA g names order)=true:=by
 have hn:=aV h.may
 have hlen:=h.len
 have hall:(gA g names order).es.any (nH (gA g names order))=false:=by
  rw [List.any_eq_false]
  intro e he
  obtain⟨i,hi,rfl⟩:=List.getElem_of_mem he
  obtain⟨j,hj,_,h3⟩:=h.iT (i:=i)(by omega)
  rw [List.getD_eq_getElem?_getD,List.getElem?_eq_getElem hi,Option.getD_some] at h3
  rw [h3]
  have h4:=h.range (bK h.may hj)
  have h5:=h.range (bX h.may hj)
  have e1:(gA g names order).n=g.n:=rfl
  simp only [nH,ta,e1,Bool.or_eq_true,decide_eq_true_eq]
  omega
 have e1:(gA g names order).n=g.n:=rfl
 simp only [aM,hall,e1,Bool.not_false,Bool.and_true,Bool.and_eq_true,decide_eq_true_eq]
 omega
omit h in
theorem oY {i j:Nat} (e:(gA g names order).es.getD i (0,0)=(nm names (tl g j),nm names (hd g j))):tl (gA g names order)i=nm names (tl g j)∧hd (gA g names order)i=nm names (hd g j):=⟨congrArg Prod.fst e,congrArg Prod.snd e⟩
theorem iK.loop:(0≤ju (gA g names order))↔0≤ju g:=by
 have key:∀g:Gr,(0≤ju g)↔∃i,i<g.es.length∧tl g i=hd g i:=by
  intro g
  have:=gS (fun e:Edge=>decide (e.1=e.2))g.es
  rw [show (0≤ju g)↔g.es.any (fun e:Edge=>decide (e.1=e.2))=true from by rw [← this];simp [ju],List.any_eq_true]
  constructor
  ·rintro⟨e,he,h2⟩
   obtain⟨i,hi,rfl⟩:=List.getElem_of_mem he
   refine⟨i,hi, ?_⟩
   simpa [tl,hd,List.getD_eq_getElem?_getD,List.getElem?_eq_getElem hi] using h2
  ·rintro⟨i,hi,h2⟩
   refine⟨_,List.getElem_mem hi, ?_⟩
   simpa [tl,hd,List.getD_eq_getElem?_getD,List.getElem?_eq_getElem hi] using h2
 rw [key,key,h.len]
 constructor
 ·rintro⟨i,hi,e⟩
  obtain⟨j,hj,_,h3⟩:=h.iT hi
  obtain⟨e1,e2⟩:=oY h3
  exact⟨j,hj,h.inj (bK h.may hj)(bX h.may hj)(by rw [← e1, ← e2,e])⟩
 ·rintro⟨j,hj,e⟩
  obtain⟨i,hi,_,h3⟩:=h.back hj
  obtain⟨e1,e2⟩:=oY h3
  exact⟨i,hi,by rw [e1,e2,e]⟩
omit h in
theorem uc (g:Gr):(0≤eP g)↔∃i k,i<g.es.length∧k<g.es.length∧i≠k∧g.es.getD i (0,0)=g.es.getD k (0,0):=by
 have:=gS (mI g)(List.range g.es.length)
 rw [show (0≤eP g)↔(List.range g.es.length).any (mI g)=true from by rw [← this];simp [eP],List.any_eq_true]
 constructor
 ·rintro⟨i,hi,h2⟩
  have hil:=List.mem_range.1 hi
  have h3:=of_decide_eq_true h2
  rw [List.mem_iff_getElem?] at h3
  obtain⟨k,hk⟩:=h3
  rw [List.getElem?_take] at hk
  split at hk
  ·rename_i hki
   exact⟨i,k,hil,by omega,by omega,by rw [List.getD_eq_getElem?_getD (i:=k),hk];rfl⟩
  ·cases hk
 ·rintro⟨i,k,hi,hk,hne,e⟩
  have main:∀i k,k<i→i<g.es.length→g.es.getD i (0,0)=g.es.getD k (0,0)→mI g i=true:=by
   intro i k hki hi e
   refine decide_eq_true ?_
   rw [e,List.mem_iff_getElem?]
   refine⟨k, ?_⟩
   rw [List.getElem?_take,if_pos hki,List.getD_eq_getElem?_getD,List.getElem?_eq_getElem (by omega)];rfl
  rcases Nat.lt_or_gt_of_ne hne with hlt|hgt
  ·exact⟨k,List.mem_range.2 hk,main k i hlt hk e.symm⟩
  ·exact⟨i,List.mem_range.2 hi,main i k hgt hi e⟩
theorem iK.JI:(0≤eP (gA g names order))↔0≤eP g:=by
 have qO:=(bZ.1 h.ord).1
 rw [uc,uc,h.len]
 constructor
 ·rintro⟨i,k,hi,hk,hne,e⟩
  obtain⟨j,hj,ho,h3⟩:=h.iT hi
  obtain⟨j',hj',ho',Ec⟩:=h.iT hk
  refine⟨j,j',hj,hj',fun e'=> ?_, ?_⟩
  ·subst e'
   exact hne (jY h.ord (by omega)(by omega)(by rw [ho,ho']))
  ·rw [h3,Ec,Prod.mk.injEq] at e
   have e1:=h.inj (bK h.may hj)(bK h.may hj')e.1
   have e2:=h.inj (bX h.may hj)(bX h.may hj')e.2
   exact Prod.ext e1 e2
 ·rintro⟨j,j',hj,hj',hne,e⟩
  obtain⟨i,hi,ho,h3⟩:=h.back hj
  obtain⟨k,hk,ho',Ec⟩:=h.back hj'
  refine⟨i,k,hi,hk,fun e'=> ?_, ?_⟩
  ·subst e';omega
  ·have e1:tl g j=tl g j':=congrArg Prod.fst e
   have e2:hd g j=hd g j':=congrArg Prod.snd e
   rw [h3,Ec,e1,e2]
theorem iK.Ms:Bu (gA g names order)=Bu g:=by
 rw [Bool.eq_iff_iff,zD h.may',zD h.may]
 constructor
 ·rintro⟨r,hr⟩
  refine⟨fun v=>r (nm names v),fun j hj=> ?_⟩
  obtain⟨i,hi,_,h3⟩:=h.back hj
  obtain⟨e1,e2⟩:=oY h3
  have:=hr i (by rw [h.len];exact hi)
  Ej [e1,e2] at this
 ·rintro⟨r,hr⟩
  refine⟨fun v=>r (dx names v),fun i hi=> ?_⟩
  rw [h.len] at hi
  obtain⟨j,hj,_,h3⟩:=h.iT hi
  obtain⟨e1,e2⟩:=oY h3
  have:=hr j hj
  rw [e1,e2];simp only;rw [h.inv (bK h.may hj),h.inv (bX h.may hj)]
  exact this
omit h in
theorem iw {g:Gr} {y:Int} :y∈bJ (·.2)g↔(0≤y∧y<g.n)∧∀i,i<g.es.length→hd g i≠y:=by
 simp only [bJ,hU,List.mem_map,List.mem_filter,List.mem_range,decide_eq_true_eq]
 have he:∀x:Nat,x<g.n.toNat→(((c7 (·.2)g).getD x []).length=0↔∀i,i<g.es.length→hd g i≠(x:Int)):=by
  intro x hx
  have e:(c7 (·.2)g).getD x []=bf (·.2)g.es g.es.length (x:Int):=by
   simp [c7,List.getD_eq_getElem?_getD,List.getElem?_range hx,kS]
  rw [e,List.length_eq_zero_iff]
  simp only [bf,List.map_eq_nil_iff,List.filter_eq_nil_iff,List.mem_range,decide_eq_true_eq]
  rfl
 constructor
 ·rintro⟨x,⟨hx,h0⟩,rfl⟩
  refine⟨by simp;omega,(he x hx).1 h0⟩
 ·rintro⟨⟨h1,h2⟩,h3⟩
  have e:((y.toNat:Nat):Int)=y:=by omega
  exact⟨y.toNat,⟨by omega,(he _ (by omega)).2 (by rw [e];exact h3)⟩,e⟩
omit h in
theorem sK {f:Edge→Int} {g:Gr} :(bJ f g).Nodup:=by
 unfold bJ hU
 refine List.Pairwise.map _ (fun a b h e=>h (Int.ofNat.inj e))(List.Pairwise.filter _ List.nodup_range)
theorem iK.bare:(bJ (·.2)(gA g names order)).length=(bJ (·.2)g).length:=by
 have e1:(gA g names order).n=g.n:=rfl
 have h1:((bJ (·.2)g).map (nm names)).length≤(bJ (·.2)(gA g names order)).length:=by
  refine Nat.le_trans (count_le _ (bJ (·.2)(gA g names order)) ?_ ?_)List.countP_le_length
  ·rw [List.nodup_iff_pairwise_ne]
   refine List.Pairwise.map _ (fun a b h=>h) ?_
   refine List.Pairwise.imp_of_mem ?_ sK
   intro a b ha hb hab e
   exact hab (h.inj (iw.1 ha).1 (iw.1 hb).1 e)
  ·intro v hv
   obtain⟨y,hy,rfl⟩:=List.mem_map.1 hv
   obtain⟨hy1,hy2⟩:=iw.1 hy
   refine iw.2⟨h.range hy1,fun i hi e=> ?_⟩
   rw [h.len] at hi
   obtain⟨j,hj,_,h3⟩:=h.iT hi
   rw [(oY h3).2] at e
   exact hy2 j hj (h.inj (bX h.may hj)hy1 e)
 have h2:((bJ (·.2)(gA g names order)).map (dx names)).length≤(bJ (·.2)g).length:=by
  have hsplit:∀v∈bJ (·.2)(gA g names order),∃a,(0≤a∧a<g.n)∧nm names a=v:=fun v hv=>h.of (iw.1 hv).1
  refine Nat.le_trans (count_le _ (bJ (·.2)g) ?_ ?_)List.countP_le_length
  ·rw [List.nodup_iff_pairwise_ne]
   refine List.Pairwise.map _ (fun a b h=>h) ?_
   refine List.Pairwise.imp_of_mem ?_ sK
   intro a b ha hb hab e
   obtain⟨a',Kl,rfl⟩:=hsplit a ha
   obtain⟨b',hb',rfl⟩:=hsplit b hb
   rw [h.inv Kl,h.inv hb'] at e
   exact hab (by rw [e])
  ·intro v hv
   obtain⟨y,hy,rfl⟩:=List.mem_map.1 hv
   obtain⟨a,ha,rfl⟩:=hsplit y hy
   rw [h.inv ha]
   refine iw.2⟨ha,fun j hj e=> ?_⟩
   obtain⟨i,hi,_,h3⟩:=h.back hj
   refine (iw.1 hy).2 i (by rw [h.len];exact hi) ?_
   rw [(oY h3).2,e]
 simp only [List.length_map] at h1 h2
 omega
theorem iK.kind:(cr (gA g names order)).1=(cr g).1:=by
 have hm:=h.may'
 have hc:(0<(js (gA g names order)).length)↔0<(js g).length:=by
  have key:∀g:Gr,aM g=true→((0<(js g).length)↔Bu g=false):=by
   intro g hm
   cases ho:Bu g with
   |true=>rw [EL hm ho];simp
   |false=>simp [(Dd hm ho).1]
  rw [key _ hm,key _ h.may,h.Ms]
 have h1:=h.loop
 have h2:=h.JI
 have h3:=h.bare
 simp only [cr,gH,hm,h.may]
 simp only [Bool.true_eq_false,if_false,h1,h2,hc,h3]
 split
 ·rfl
 split
 ·rfl
 split
 ·rfl
 split<;>rfl
end
end Go.Ab
end
section
namespace Go.Ab
open Go.Proofs
set_option maxRecDepth 10000
def No:Nat→List Edge→Int→Option (Int × Int)
 |_, [],_=>none
 |m,e::N,v=>if e.1=v then some ((m:Int),e.2)else No (m+1)N v
def Qg (m:Nat)(N:List Edge)(t:It):It:=if 0≤t.1 then t else match No m N t.2.1 with
 |some (i,h)=>(i,t.2.1,h)
 |none=>t
structure Np (g:Gr)(p:Pl):Prop where
 run:cC g p
 n:(C2 g p).n≤64
 es:(C2 g p).es.length≤128
variable {g:Gr} {p:Pl}
end Go.Ab
end
section
namespace Go.Ab
open Go.Proofs
set_option maxRecDepth 10000
variable {g:Gr} {p:Pl}
theorem zE {p:Pl} {k:Nat} {v:Int} (hk:k≤p.ord.length)(h:v∈p.ord.take k):∃j,j<k∧az p j=v:=by
 obtain⟨j,hj,e⟩:=List.mem_iff_getElem.1 h
 simp only [List.length_take] at hj
 refine⟨j,by omega, ?_⟩
 rw [← e,az,List.getD_eq_getElem?_getD,List.getElem?_eq_getElem (by omega)]
 simp
end Go.Ab
end
section
namespace Go.Ab
open Go.Proofs
set_option maxRecDepth 10000
variable {g:Gr} {p:Pl}
theorem oZ (hr:cC g p):bL p (az p (g.n.toNat - 1))= []∧az p (g.n.toNat - 1)∈loose (kY g p):=by
 have hm:=aF hr.1
 have hn:=aV hm
 obtain⟨k,hk⟩:∃k,g.n.toNat=k+1:=⟨g.n.toNat - 1,by omega⟩
 obtain⟨hi,_,_⟩:=dI hm hr.2.1 (k:=k)(by omega)fun j hj=>hr.2.2 j (by omega)
 obtain⟨A,X,C,hrw,_,_,_,hs⟩:=iu hm hi.aY (hr.2.2 k (by omega))
 have hL:kY g p=A++aL g (az p k)(bL p (az p k))++C:=by
  unfold kY;rw [hk]
  show (aB _ _ _ _).2.row=_
  rw [hs]
 have xO:g.n.toNat - 1=k:=by omega
 rw [xO]
 have kr:=yE hr
 have hx:=aN hr.2.1 (k:=k)(by omega)
 have h0:bL p (az p k)= []:=by
  refine Decidable.byContradiction fun h0=> ?_
  have ha:aL g (az p k)(bL p (az p k))=(bL p (az p k)).map (fA g (az p k)):=if_neg h0
  obtain⟨i,hi'⟩:=List.exists_mem_of_ne_nil _ h0
  have h1:=kr (fA g (az p k)i)(by rw [hL,ha];simp;exact .inr (.inl⟨i,hi',rfl⟩))
  obtain⟨e,rfl,_⟩:=jA ((bS hr.2.1 hx.1 hx.2).mem_iff.1 hi')
  simp [fA] at h1
  omega
 refine⟨h0, ?_⟩
 have ha:aL g (az p k)(bL p (az p k))= [(-1,az p k, -1)]:=if_pos h0
 rw [hL,ha,tW,tW]
 simp [loose]
theorem lJ {f:Edge→Int} {g:Gr} {y:Int} :y∈bJ f g↔(0≤y∧y<g.n)∧bf f g.es g.es.length y= []:=by
 simp only [bJ,hU,List.mem_map,List.mem_filter,List.mem_range,decide_eq_true_eq]
 have he:∀x:Nat,x<g.n.toNat→(((c7 f g).getD x []).length=0↔bf f g.es g.es.length (x:Int)= []):=by
  intro x hx
  have e:(c7 f g).getD x []=bf f g.es g.es.length (x:Int):=by
   simp [c7,List.getD_eq_getElem?_getD,List.getElem?_range hx,kS]
  rw [e,List.length_eq_zero_iff]
 constructor
 ·rintro⟨x,⟨hx,h0⟩,rfl⟩
  exact⟨by simp;omega,(he x hx).1 h0⟩
 ·rintro⟨⟨h1,h2⟩,h3⟩
  have e:((y.toNat:Nat):Int)=y:=by omega
  exact⟨y.toNat,⟨by omega,(he _ (by omega)).2 (by rw [e];exact h3)⟩,e⟩
end Go.Ab
end
section
namespace Go.Ab
open Go.Proofs
set_option maxRecDepth 10000
def iX (l:List It):List It:=l.filter fun t=>decide (0≤t.1)
theorem lK {a b:List It} :iX (a++b)=iX a++iX b:=by simp [iX]
theorem iL {l:List It} {t:It} :t∈iX l↔t∈l∧0≤t.1:=by simp [iX]
theorem qk {x:Int} {l:List It} (h:fF x l):fF x (iX l):=fun t ht=>h t (iL.1 ht).1
def vu (x:Int)(l:List It):Prop:=∀t∈l,t.2.2=x
theorem lM {g:Gr} {x:Int} {o:List Int} (ho:∀i∈o,0≤i):iX (aL g x o)=o.map (fA g x):=by
 unfold aL
 split
 ·rename_i h;subst h;rfl
 ·refine List.filter_eq_self.2 fun t ht=> ?_
  obtain⟨i,hi,rfl⟩:=List.mem_map.1 ht
  exact decide_eq_true (ho i hi)
theorem ud {x:Int} :∀ {X Y c d:List It},vu x X→vu x Y→fF x c→fF x d→X++c=Y++d→X=Y∧c=d
 | [], [],c,d,_,_,_,_,e=>⟨rfl,e⟩
 | [],u::Y,c,d,_,hY,hc,_,e=>by
  simp only [List.nil_append] at e
  exact absurd (hY u (by simp))(hc u (by rw [e];simp))
 |t::X, [],c,d,hX,_,_,hd,e=>by
  simp only [List.nil_append] at e
  exact absurd (hX t (by simp))(hd t (by rw [← e];simp))
 |t::X,u::Y,c,d,hX,hY,hc,hd,e=>by
  simp only [List.cons_append,List.cons.injEq] at e
  obtain⟨e1,e2⟩:=ud (fun s hs=>hX s (by simp [hs]))(fun s hs=>hY s (by simp [hs]))hc hd e.2
  exact⟨by rw [e.1,e1],e2⟩
theorem xE {x:Int} :∀ {a b X Y c d:List It},fF x a→fF x b→vu x X→vu x Y→fF x c→fF x d→X≠ []→Y≠ []→a++X++c=b++Y++d→a=b∧X=Y∧c=d
 |t::a, [],X,u::Y,c,d,ha,_,_,hY,_,_,_,_,e=>by
  simp only [List.cons_append,List.nil_append,List.cons.injEq] at e
  exact absurd (by rw [e.1];exact hY u (by simp))(ha t (by simp))
 | [],t::b,u::X,Y,c,d,_,hb,hX,_,_,_,_,_,e=>by
  simp only [List.cons_append,List.nil_append,List.cons.injEq] at e
  exact absurd (by rw [← e.1];exact hX u (by simp))(hb t (by simp))
 |t::a,u::b,X,Y,c,d,ha,hb,hX,hY,hc,hd,nX,nY,e=>by
  simp only [List.cons_append,List.cons.injEq] at e
  obtain⟨e1,e2,e3⟩:=xE (fun s hs=>ha s (by simp [hs]))(fun s hs=>hb s (by simp [hs]))hX hY hc hd nX nY e.2
  exact⟨by rw [e.1,e1],e2,e3⟩
 | [], [],X,Y,c,d,_,_,hX,hY,hc,hd,_,_,e=>by
  refine⟨rfl, ?_⟩
  simp only [List.nil_append] at e
  exact ud hX hY hc hd e
 | [],_::_, [],_,_,_,_,_,_,_,_,_,h,_,_=>absurd rfl h
 |_::_, [],_, [],_,_,_,_,_,_,_,_,_,h,_=>absurd rfl h
theorem De {g:Gr} (hm:aM g=true) {f:Fr} (hi:gI g f) {x:Int} (hR:aD g f x=true)(hn:bA g x≠0):
  ∃a X c,iX f.row=a++X++c∧fF x a∧fF x c∧vu x X∧X.length=bA g x∧∀o,iX (aB g f x o).2.row=a++iX (aL g x o)++c:=by
 obtain⟨A,X,C,hr,hA,hC,hX,cX⟩:=cW hm hi hR hn
 have hx:=(aT hR).1
 have hmem:∀t∈X,t∈f.row:=fun t ht=>by rw [hr];simp [ht]
 have hiff:∀t∈X,(0≤t.1↔t.2.2=x):=fun t ht=>by
  have h1:=(hi.it t (hmem t ht)).head hm
  have h2:=hX.al t ht
  omega
 refine⟨iX A,iX X,iX C,by rw [hr,lK,lK],qk hA,qk hC,fun t ht=> ?_, ?_,fun o=> ?_⟩
 ·obtain⟨h1,h2⟩:=iL.1 ht
  exact (hiff t h1).1 h2
 ·rw [← cX,iX, ← List.countP_eq_length_filter]
  refine List.countP_congr fun t ht=> ?_
  simp only [kA,decide_eq_true_eq]
  exact hiff t ht
 ·rw [j5 o hr hA hC hX]
  simp only [lK]
theorem EM {g:Gr} (hm:aM g=true) {f:Fr} (hi:gI g f) {x:Int} (hR:aD g f x=true)(hn:bA g x≠0) {a X c:List It} (e:iX f.row=a++X++c)(ha:fF x a)(hc:fF x c)(hX:vu x X)(nX:X≠ [])(o:List Int):
  iX (aB g f x o).2.row=a++iX (aL g x o)++c:=by
 obtain⟨b,Y,d,e',hb,hd,hY,lY,hs⟩:=De hm hi hR hn
 have nY:Y≠ []:=fun h=>hn (by rw [← lY,h];rfl)
 obtain⟨e1,_,e3⟩:=xE hb ha hY hX hd hc nY nX (e'.symm.trans e)
 rw [hs o,e1,e3]
theorem Df {g:Gr} (hm:aM g=true) {f:Fr} (hi:gI g f) {x:Int} (h0:0≤x)(h1:x<g.n)(hp:x∉f.pl) {a X c:List It} (e:iX f.row=a++X++c)(ha:fF x a)(hc:fF x c)(hX:vu x X)(nX:X≠ [])(hl:X.length=bA g x):aD g f x=true:=by
 have hmem:∀j,j<f.row.length→AO g (f.row.getD j (0,0,0)):=fun j hj=>hi.it _ (bt hj)
 have Ao:f.row.countP (kA x)=X.length:=by
  have h2:f.row.countP (kA x)=(iX f.row).countP (kA x):=by
   rw [iX,List.countP_filter]
   refine List.countP_congr fun t ht=> ?_
   have:=(hi.it t ht).head hm
   simp only [kA,Bool.and_eq_true,decide_eq_true_eq]
   omega
  have c1:a.countP (kA x)=0:=List.countP_eq_zero.2 fun t ht=>by simp [kA,ha t ht]
  have c2:c.countP (kA x)=0:=List.countP_eq_zero.2 fun t ht=>by simp [kA,hc t ht]
  have c3:X.countP (kA x)=X.length:=List.countP_eq_length.2 fun t ht=>by simp [kA,hX t ht]
  rw [h2,e,List.countP_append,List.countP_append,c1,c2,c3]
  omega
 rw [← nO hm hi,fU,if_neg (by rintro (h|h|h);omega;omega;exact hp h),fV h0 h1,Bool.and_eq_true,decide_eq_true_eq]
 have hN:(bf (fun e=>e.2)g.es g.es.length x).length=bA g x:=rfl
 rw [hN]
 refine⟨?_, ?_⟩
 ·unfold aU
  rw [jy,j4 (Nat.le_refl _),List.take_length,Ao,hl]
 ·rw [Bool.or_eq_true];right
  rcases cT (row:=f.row)(x:=x)f.row.length with⟨hs,hno⟩|⟨p,q,n,hs,hab,iR,hc0,dM,hpx,Mt,hlo,hhi⟩
  ·have hs':aU f.row x=(-1,0,0):=hs
   rw [hs'];simp [pM]
  ·have hs':aU f.row x=((p:Int),(q:Int),(n:Int)):=hs
   rw [hs']
   simp only [Int.toNat_natCast,pM,Bool.not_eq_true']
   rw [← Bool.not_eq_true,tT iR]
   rintro⟨j,h2,h3,h4⟩
   simp only [jZ,Bool.and_eq_true,decide_eq_true_eq] at h4
   have hja:p<j:=by
    refine Nat.lt_of_le_of_ne h2 fun e=> ?_
    subst e;exact h4.1 hpx
   have hjb:j<q - 1:=by
    refine Nat.lt_of_le_of_ne (by omega)fun e=> ?_
    subst e;exact h4.1 Mt
   have hsub:=((sF (i:=j+1)(j:=q - 1)(sF (i:=p+1)(j:=j)(sF (i:=0)(j:=p)(List.nil_sublist _)(by omega)(by omega))(by omega)(by omega))(by omega)(by omega)).trans (List.take_sublist _ f.row)).filter fun t=>decide (0≤t.1)
   have hp1:=(hmem p (by omega)).head hm
   have Nq:=(hmem j (by omega)).head hm
   have hq1:=(hmem (q - 1)(by omega)).head hm
   generalize f.row.getD p (0,0,0)=s1 at hsub hp1 hpx
   generalize f.row.getD j (0,0,0)=s2 at hsub Nq h4
   generalize f.row.getD (q - 1)(0,0,0)=s3 at hsub hq1 Mt
   have hf:([]++ [s1]++ [s2]++ [s3]).filter (fun t=>decide (0≤t.1))= [s1,s2,s3]:=List.filter_eq_self.2 fun t ht=>by
    simp only [List.nil_append,List.cons_append,List.mem_cons,List.not_mem_nil,or_false] at ht
    rcases ht with rfl|rfl|rfl
    ·exact decide_eq_true (hp1.1.2 (by omega))
    ·exact decide_eq_true (Nq.1.2 h4.2)
    ·exact decide_eq_true (hq1.1.2 (by omega))
   rw [hf] at hsub
   have hsub: [s1,s2,s3].Sublist (a++(X++c)):=by rw [← List.append_assoc, ← e];exact hsub
   rw [List.sublist_append_iff] at hsub
   obtain⟨l1,l',el,k1,k'⟩:=hsub
   rw [List.sublist_append_iff] at k'
   obtain⟨l2,l3,rfl,k2,k3⟩:=k'
   match l1,el,k1 with
   |t::l1,el,k1=>
    simp only [List.cons_append,List.cons.injEq] at el
    exact ha t (k1.subset (by simp))(by rw [← el.1];exact hpx)
   | [],el,_=>
    match l2,el,k2 with
    | [],el,_=>
     simp only [List.nil_append] at el
     exact hc s1 (k3.subset (by rw [← el];simp))hpx
    | [t],el,_=>
     simp only [List.nil_append,List.cons_append,List.cons.injEq] at el
     exact hc s3 (k3.subset (by rw [← el.2];simp))Mt
    |t::u::l2,el,k2=>
     simp only [List.nil_append,List.cons_append,List.cons.injEq] at el
     exact h4.1 (by rw [el.2.1];exact hX u (k2.subset (by simp)))
end Go.Ab
end
section
namespace Go.Ab
open Go.Proofs
set_option maxRecDepth 10000
def JJ (gone:List Int)(i:Nat):Bool:= !decide ((i:Int)∈gone)
def Gz (gone:List Int)(k:Nat):List Nat:=(List.range k).filter (JJ gone)
def O4 (gone:List Int)(k:Nat):Nat:=(Gz gone k).length
def Mu (gone:List Int)(es:List Edge)(k:Nat):List Edge:=(Gz gone k).map fun i=>es.getD i (0,0)
def O5 (g:Gr)(gone:List Int):Gr:=⟨g.n,Mu gone g.es g.es.length⟩
def Nr (gone:List Int)(i:Int):Int:=if i∈gone then -1 else (O4 gone i.toNat:Int)
def Mv (gone:List Int)(l:List Int):List Int:=(l.filter fun i=>decide (i∉gone)).map (Nr gone)
def O6 (p:Pl)(gone:List Int):Pl:=⟨p.ord,p.outs.map (Mv gone)⟩
variable {g:Gr} {p:Pl} {gone:List Int}
def O7 (gone:List Int)(t:It):It:=(Nr gone t.1,t.2.1,t.2.2)
def O8 (gone:List Int)(l:List It):List It:=(l.filter fun t=>decide (t.1∉gone)).map (O7 gone)
theorem fW (hr:cC g p):bA g (az p 0)=0:=by
 have hm:=aF hr.1
 have hn:=aV hm
 refine Decidable.byContradiction fun hnz=> ?_
 obtain⟨A,X,C,hrw,_,_,hX,_⟩:=cW hm (zu g).aY (hr.2.2 0 (by omega))hnz
 obtain⟨q,X0,e1,_⟩:=hX.fst
 rw [e1] at hrw
 simp at hrw
end Go.Ab
end
section
namespace Go.Ab
open Go.Proofs
set_option maxRecDepth 10000
theorem vv {g:Gr} (hm:aM g=true) {f:Fr} (hi:gI g f) {x:Int} (hR:aD g f x=true)(hn:bA g x≠0)(o:List Int):
  ∃a c,iX f.row=a++iX (aB g f x o).1.1++c∧fF x a∧fF x c∧vu x (iX (aB g f x o).1.1)∧(iX (aB g f x o).1.1).length=bA g x∧iX (aB g f x o).2.row=a++iX (aL g x o)++c:=by
 obtain⟨A,X,C,hr,hA,hC,hX,hc⟩:=cW hm hi hR hn
 have hx:=(aT hR).1
 have hmem:∀t∈X,t∈f.row:=fun t ht=>by rw [hr];simp [ht]
 have hiff:∀t∈X,(0≤t.1↔t.2.2=x):=fun t ht=>by
  have h1:=(hi.it t (hmem t ht)).head hm
  have h2:=hX.al t ht
  constructor
  ·intro h;rcases h2 with h2|h2
   ·exact h2
   ·exact absurd h2 (h1.1.1 h)
  ·intro h;exact h1.1.2 (by omega)
 rw [j5 o hr hA hC hX]
 refine⟨iX A,iX C,by rw [hr,lK,lK],qk hA,qk hC,fun t ht=> ?_, ?_,by simp only [lK]⟩
 ·obtain⟨h1,h2⟩:=iL.1 ht
  exact (hiff t h1).1 h2
 ·rw [← hc,iX, ← List.countP_eq_length_filter]
  refine List.countP_congr fun t ht=> ?_
  simp only [kA,decide_eq_true_eq]
  exact hiff t ht
def cH (g:Gr)(p:Pl)(x:Int):List Int:=(iX ((ee g p g.n.toNat).getD x.toNat [])).map (·.1)
def nV (g:Gr)(p:Pl)(f:Fr)(x:Int):List Int:=(iX (aB g f x (bL p x)).1.1).map (·.1)
def pP (g:Gr)(p:Pl):Nat→Fr→Prop
 |0,f=>(f.pl.length:Int)=g.n
 |m+1,f=>∃x,aD g f x=true∧nV g p f x=cH g p x∧pP g p m (tV g p f x)
theorem sM {g:Gr} {p:Pl} :∀ {m:Nat} {f f':Fr},f.row=f'.row→f.pl.Perm f'.pl→pP g p m f→pP g p m f'
 |0,f,f',_,hp,h=>by
  have h:(f.pl.length:Int)=g.n:=h
  show (f'.pl.length:Int)=g.n
  rw [← hp.length_eq];exact h
 |m+1,f,f',hr,hp,⟨x,h1,h3,h2⟩=>by
  refine⟨x,by rw [← xu hr hp];exact h1, ?_,sM ?_ ?_ h2⟩
  ·simp only [nV,aB,hr] at h3 ⊢;exact h3
  ·simp only [tV,aB,hr]
  ·exact hp.append_right _
theorem ue {g:Gr} (hc:(cr g).1=0) {p:Pl} (hp:bF g p):∀ {m:Nat} {f:Fr},xo g f→(f.pl.length:Int)+(m+1:Nat)=g.n→pP g p (m+1)f→∀ {x:Int},aD g f x=true→nV g p f x=cH g p x∧pP g p m (tV g p f x)
 |m,f,hi,hl,⟨y,tU,Kf,hcan⟩,x,hR=>by
  have hm:=aF hc
  by_cases hxy:x=y
  ·subst hxy;exact⟨Kf,hcan⟩
  have py:=bS hp (aT tU).1 (aT tU).2.1
  have px:=bS hp (aT hR).1 (aT hR).2.1
  have i2:=jC hm hi tU py
  match m,hl,hcan with
  |0,hl,hcan=>
   exfalso
   have h1:=jD i2.aY (by show ((f.pl++ [y]).length:Int)=g.n;simp;omega)(x:=x)⟨(aT hR).1,(aT hR).2.1⟩
   have h2:x∈f.pl++ [y]:=h1
   simp [(aT hR).2.2,hxy] at h2
  |m+1,hl,hcan=>
   obtain⟨h4,h5,h6,h7,h8⟩:=AW hc hi hxy hR tU px py
   obtain⟨h9,h3⟩:=ue hc hp i2 (by show (((f.pl++ [y]).length:Nat):Int)+_=_;simp;omega)hcan h5
   refine⟨?_,y,h4, ?_,sM h6.symm ?_ h3⟩
   ·unfold nV at h9 ⊢;rw [h7];exact h9
   ·unfold nV at Kf ⊢;rw [h8] at Kf;exact Kf
   show (f.pl++ [y]++ [x]).Perm (f.pl++ [x]++ [y])
   rw [List.append_assoc,List.append_assoc]
   exact List.Perm.append_left _ (List.Perm.swap ..)
theorem uf {g:Gr} {p:Pl} (h:cC g p):∀ {d k:Nat},k+d=g.n.toNat→pP g p d (fK g p k)
 |0,k,hk=>by
  have hn:=aV (aF h.1)
  obtain⟨_,gw,_⟩:=dI (aF h.1)h.2.1 (k:=k)(by omega)fun j hj=>h.2.2 j (by omega)
  show ((fK g p k).pl.length:Int)=g.n
  rw [gw,List.length_take,cg h.2.1];omega
 |d+1,k,hk=>⟨az p k,h.2.2 k (by omega),by
   unfold cH
   rw [nR h.2.1 (Nat.le_refl _)(show k<g.n.toNat by omega)]
   rfl,uf h (k:=k+1)(by omega)⟩
theorem zF {g:Gr} (hc:(cr g).1=0) {p:Pl} (hp:bF g p):∀ {m:Nat} {f:Fr},xo g f→pP g p m f→∀ {i:Nat},i<g.es.length→tl g i∈f.pl→hd g i∉f.pl→∃t∈f.row,t.1=(i:Int)
 |0,f,hi,h,i,hil,_,hh=>by
  have hr:=bX (aF hc)hil
  exact absurd (jD hi.aY h (x:=hd g i)hr)hh
 |m+1,f,hi,⟨x,hR,_,h⟩,i,hil,ht,hh=>by
  have hm:=aF hc
  have px:=bS hp (aT hR).1 (aT hR).2.1
  by_cases hx:hd g i=x
  ·obtain⟨t,h1,h2,_⟩:=vp hm hi hR hil hx
   exact⟨t,h1,h2⟩
  ·obtain⟨t,h1,h2⟩:=zF hc hp (jC hm hi hR px)h hil (List.mem_append.2 (.inl ht))(fun h1=>by
    rcases List.mem_append.1 h1 with h1|h1
    ·exact hh h1
    ·exact hx (by simpa using h1))
   obtain⟨A,X,C,hr,_,_,_,hs⟩:=iu hm hi.aY hR
   rw [hs] at h1
   simp only [List.mem_append] at h1
   rcases h1 with (h1|h1)|h1
   ·exact⟨t,by rw [hr];simp [h1],h2⟩
   ·rcases jB (fun i hi=>px.mem_iff.1 hi)h1 with⟨h3,_⟩|⟨k,h3,h4,h5,_,h6,_⟩
    ·omega
    ·have:k=i:=by omega
     subst this
     exact absurd (h6 ▸ ht)(aT hR).2.2
   ·exact⟨t,by rw [hr];simp [h1],h2⟩
def ql (g:Gr)(e:Int):Int:=(g.es.getD e.toNat (0,0)).1
def DQ (g:Gr)(e:Int):Int:=(g.es.getD e.toNat (0,0)).2
def pQ (g:Gr)(x:Int):Prop:=0≤x∧x<g.n
instance {g:Gr} {x:Int} :Decidable (pQ g x):=inferInstanceAs (Decidable (0≤x∧x<g.n))
def k4 (g:Gr)(p:Pl)(k:Nat)(W D:List Int):Prop:=∃f,xo g f∧f.pl=D∧W=(iX f.row).map (·.1)∧pP g p k f∧(D.length:Int)+k=g.n∧az p 0∈D
def Dg (g:Gr)(p:Pl)(x:Int):Nat:=((xh g.n.toNat p.ord p.ord.length).getD x.toNat 0).toNat
def cy (g:Gr)(p:Pl):PS:=
 {m:=g.es.length,src:=az p 0,Fm:=az p (g.n.toNat - 1),tl:=ql g,hd:=DQ g,ins:=fun x=>if pQ g x then cH g p x else [],outs:=fun x=>if pQ g x then bL p x else [],DE:=Dg g p,Row:=k4 g p,k0:=g.n.toNat - 1}
theorem j7 {g:Gr} {p:Pl} {x:Int} (h:pQ g x):(cy g p).ins x=cH g p x:=if_pos h
theorem nW {g:Gr} {p:Pl} {x:Int} (h:¬pQ g x):(cy g p).ins x= []:=if_neg h
theorem iM {g:Gr} {p:Pl} {x:Int} (h:pQ g x):(cy g p).outs x=bL p x:=if_pos h
theorem nZ {g:Gr} {p:Pl} {x:Int} (h:¬pQ g x):(cy g p).outs x= []:=if_neg h
theorem cD {f:Edge→Int} {es:List Edge} {x e:Int} :e∈bf f es es.length x↔(0≤e∧e<es.length)∧f (es.getD e.toNat (0,0))=x:=by
 refine⟨gW,fun⟨h1,h2⟩=> ?_⟩
 simp only [bf,List.mem_map,List.mem_filter,List.mem_range,decide_eq_true_eq]
 exact⟨e.toNat,⟨by omega,h2⟩,by simp;omega⟩
section
variable {g:Gr} {p:Pl}
theorem zG (hm:aM g=true)(hp:bF g p) {k:Nat} (hk:k<g.n.toNat):Dg g p (az p k)=k:=by
 have hE:=((zx hm).2 hp).1
 have:=vk hE (p:=k)(k:=p.ord.length)(by rw [cg hp];exact hk)(Nat.le_refl _)
 unfold Dg
 show ((xh _ _ _).getD (p.ord.getD k 0).toNat 0).toNat=k
 rw [this];simp
theorem sN (h:cC g p) {e:Int} (he:0≤e∧e<g.es.length) {k:Nat} (hk:k<g.n.toNat)(hx:DQ g e=az p k):∃j,j<k∧az p j=ql g e:=by
 have hm:=aF h.1
 obtain⟨hi,gw,_⟩:=dI hm h.2.1 (k:=k)(by omega)fun j hj=>h.2.2 j (by omega)
 obtain⟨t,h1,h2,h3,_⟩:=vp hm hi (h.2.2 k hk)(i:=e.toNat)(by omega)hx
 have h4:=hi.tail t h1 (by omega)
 rw [h3,gw] at h4
 exact zE (by rw [cg h.2.1];omega)h4
theorem n0 (hm:aM g=true) {f:Fr} (hi:gI g f) {t:It} (ht:t∈iX f.row):(0≤t.1∧t.1<g.es.length)∧t.2.1=ql g t.1∧t.2.2=DQ g t.1:=by
 obtain⟨h1,h2⟩:=iL.1 ht
 rcases hi.it t h1 with h3|h3
 ·omega
 ·exact⟨⟨h3.1,h3.2.1⟩,h3.2.2.1,h3.2.2.2⟩
theorem Dh {f:Fr} (hi:xo g f):((iX f.row).map (·.1)).Nodup:=by
 refine List.pairwise_map.2 ?_
 have:=hi.once.filter (fun t:It=>decide (0≤t.1))
 refine List.Pairwise.imp_of_mem (fun {s t} hs ht h1=>h1 (iL.1 hs).2)this
theorem EN (hm:aM g=true) {f:Fr} (hi:xo g f) {x:Int} (hR:aD g f x=true):(nV g p f x).Nodup∧∀e,e∈nV g p f x↔(0≤e∧e<g.es.length)∧DQ g e=x:=by
 by_cases hn:bA g x=0
 ·have hno:=sD hm hi.aY (aT hR).1 hn
  have e0:nV g p f x= []:=by unfold nV;rw [lH _ hno];rfl
  rw [e0]
  refine⟨List.nodup_nil,fun e=>⟨fun h=>by (cases h),fun⟨h1,h2⟩=> ?_⟩⟩
  have:=cD.2⟨h1,h2⟩
  have h3:bf (·.2)g.es g.es.length x= []:=List.eq_nil_of_length_eq_zero hn
  rw [h3] at this;cases this
 ·obtain⟨a,c,e1,ha,hc,hX,hl,_⟩:=vv hm hi.aY hR hn (bL p x)
  have bY:=Dh hi
  have hmem:∀t∈iX (aB g f x (bL p x)).1.1,t∈iX f.row:=fun t ht=>by rw [e1];simp [ht]
  rw [e1,List.map_append,List.map_append,List.nodup_append] at bY
  have Ns:(nV g p f x).Nodup:=(List.nodup_append.1 bY.1).2.1
  have hsub:∀e∈nV g p f x,e∈bf (·.2)g.es g.es.length x:=fun e he=>by
   obtain⟨t,ht,rfl⟩:=List.mem_map.1 he
   obtain⟨h1,_,h3⟩:=n0 hm hi.aY (hmem t ht)
   exact cD.2⟨h1,by rw [← hX t ht,h3];rfl⟩
  have hlen:(bf (·.2)g.es g.es.length x).length=(nV g p f x).length:=by
   unfold nV;rw [List.length_map,hl];rfl
  exact⟨Ns,fun e=>⟨fun he=>cD.1 (hsub e he),fun he=>vo Ns hsub hlen e (cD.2 he)⟩⟩
theorem zH (h:cC g p) {k:Nat} (hk:k<g.n.toNat):cH g p (az p k)=nV g p (fK g p k)(az p k):=by
 unfold cH
 rw [nR h.2.1 (Nat.le_refl _)hk];rfl
theorem k5 (h:cC g p) {x:Int} (hx:pQ g x):(cH g p x).Nodup∧∀e,e∈cH g p x↔(0≤e∧e<g.es.length)∧DQ g e=x:=by
 obtain⟨k,hk,rfl⟩:=gh h.2.1 hx.1 hx.2
 have hm:=aF h.1
 obtain⟨hi,_,_⟩:=dI hm h.2.1 (k:=k)(by omega)fun j hj=>h.2.2 j (by omega)
 rw [zH h hk]
 exact EN hm hi (h.2.2 k hk)
theorem jE (h:cC g p) {x:Int} (hx:pQ g x):(cH g p x).length=bA g x:=by
 obtain⟨h1,h2⟩:=k5 h hx
 refine Nat.le_antisymm ?_ ?_
 ·exact eV h1 fun e he=>cD.2 ((h2 e).1 he)
 ·exact eV cV fun e he=>(h2 e).2 (cD.1 he)
theorem ez (h:cC g p)(hI:kB g=true) {x:Int} (hx:pQ g x):bL p x= []↔x=az p (g.n.toNat - 1):=by
 have hm:=aF h.1
 have hn:=aV hm
 constructor
 ·intro h1
  have hs:=(oZ h).1
  have hsi:=aN h.2.1 (k:=g.n.toNat - 1)(by omega)
  have b1:=lJ (f:=(·.1))(g:=g)(y:=x) |>.2⟨hx,(nT h.2.1 hx.1 hx.2).2 h1⟩
  have b2:=lJ (f:=(·.1))(g:=g)(y:=az p (g.n.toNat - 1)) |>.2⟨hsi,(nT h.2.1 hsi.1 hsi.2).2 hs⟩
  have hl:(bJ (·.1)g).length=1:=by
   unfold kB at hI
   simp only [Bool.and_eq_true,decide_eq_true_eq] at hI
   exact hI.2
  obtain⟨y,hy⟩:=List.length_eq_one_iff.1 hl
  rw [hy,List.mem_singleton] at b1 b2
  rw [b1,b2]
 ·rintro rfl;exact (oZ h).1
theorem ug (h:cC g p)(hI:kB g=true) {f:Fr} (hi:xo g f):∀ {d k:Nat},k+d=g.n.toNat→k<g.n.toNat→az p k∉f.pl→az p (g.n.toNat - 1)∉f.pl
 |0,k,h1,h2,_=>by omega
 |d+1,k,h1,h2,h3=>by
  have hm:=aF h.1
  have hx:=aN h.2.1 h2
  by_cases hs:bL p (az p k)= []
  ·rw [(ez h hI hx).1 hs] at h3;exact h3
  ·obtain⟨e,u,he⟩:=iD hs
   have sZ:e∈bw g (az p k):=(bS h.2.1 hx.1 hx.2).mem_iff.1 (by rw [he];simp)
   obtain⟨ni,vH⟩:=cD.1 sZ
   have hh:=bX hm (i:=e.toNat)(by omega)
   obtain⟨k',hk',e'⟩:=gh h.2.1 hh.1 hh.2
   obtain⟨j,hj,e2⟩:=sN h ni hk' e'.symm
   have:j=k:=dL h.2.1 (by omega)h2 (e2.trans vH)
   refine ug h hI hi (d:=g.n.toNat - k')(k:=k')(by omega)hk' fun h4=> ?_
   have:=hi.low e.toNat (by omega)(e' ▸ h4)
   have h5:tl g e.toNat=az p k:=vH
   exact h3 (h5 ▸ this)
 termination_by d=>d
theorem k4.nd {k:Nat} {W D:List Int} (h:k4 g p k W D):W.Nodup:=by
 obtain⟨f,hi,_,rfl,_⟩:=h;exact Dh hi
theorem k4.mem (h:cC g p) {k:Nat} {W D:List Int} (hr:k4 g p k W D)(e:Int):e∈W↔(0≤e∧e<g.es.length)∧ql g e∈D∧DQ g e∉D:=by
 have hm:=aF h.1
 obtain⟨f,hi,rfl,rfl,hc,_⟩:=hr
 constructor
 ·intro he
  obtain⟨t,ht,rfl⟩:=List.mem_map.1 he
  obtain⟨h1,h2,h3⟩:=n0 hm hi.aY ht
  obtain⟨h4,h5⟩:=iL.1 ht
  exact⟨h1,h2 ▸ hi.tail t h4 h5,h3 ▸ hi.head t h4 h5⟩
 ·rintro⟨h1,h2,h3⟩
  obtain⟨t,h4,h5⟩:=zF h.1 h.2.1 hi hc (i:=e.toNat)(by omega)h2 h3
  exact List.mem_map.2⟨t,iL.2⟨h4,by omega⟩,by omega⟩
theorem k4.next (h:cC g p) {k:Nat} {W D:List Int} (hr:k4 g p (k+1)W D):∃x A C,W=A++(cy g p).ins x++C∧(cy g p).ins x≠ []:=by
 have hm:=aF h.1
 obtain⟨f,hi,rfl,rfl,⟨x,hR,hg,_⟩,_,hs⟩:=hr
 obtain⟨x0,x1,x2⟩:=aT hR
 have hx:pQ g x:=⟨x0,x1⟩
 have hn:bA g x≠0:=fun h0=>by
  have:=nP h.1 (x:=x)(y:=az p 0)hx (hi.Gb _ hs)h0 (fW h)
  exact x2 (this ▸ hs)
 obtain⟨a,c,e1,_,_,_,hl,_⟩:=vv hm hi.aY hR hn (bL p x)
 refine⟨x,a.map (·.1),c.map (·.1), ?_, ?_⟩
 ·rw [j7 hx, ← hg,e1,List.map_append,List.map_append];rfl
 ·rw [j7 hx]
  intro h0
  have:=jE h hx
  rw [h0] at this
  exact hn this.symm
theorem k4.step (h:cC g p) {k:Nat} {W D A C:List Int} {x:Int} (hr:k4 g p k W D)(hW:W=A++(cy g p).ins x++C)(hI:(cy g p).ins x≠ []):∃k',k=k'+1∧k4 g p k' (A++(cy g p).outs x++C)(D++ [x]):=by
 have hm:=aF h.1
 have hx:pQ g x:=Decidable.byContradiction fun h0=>hI (nW h0)
 have bY:=hr.nd
 have hmem:=k4.mem h hr
 rw [j7 hx] at hW hI
 rw [iM hx]
 obtain⟨i1,i2⟩:=k5 h hx
 obtain⟨e0,u0,EC⟩:=iD hI
 have Nt:x∉D:=by
  have h1:=(i2 e0).1 (by rw [EC];simp)
  have h2:=(hmem e0).1 (by rw [hW,EC];simp)
  rw [h1.2] at h2;exact h2.2.2
 obtain⟨f,hi,rfl,O9,hc,hD,hs⟩:=hr
 rw [O9] at hW bY
 obtain⟨l1,c,e1,e2,e3⟩:=List.map_eq_append_iff.1 hW
 obtain⟨a,X,e4,e5,e6⟩:=List.map_eq_append_iff.1 e2
 have hrow:iX f.row=a++X++c:=by rw [e1,e4]
 rw [hrow,List.map_append,List.map_append,e5,e6,e3] at bY
 have hit:∀t∈a++X++c,(0≤t.1∧t.1<g.es.length)∧t.2.1=ql g t.1∧t.2.2=DQ g t.1:=fun t ht=>n0 hm hi.aY (by rw [hrow];exact ht)
 have hX:vu x X:=fun t ht=>by
  have h1:t.1∈cH g p x:=by rw [← e6];exact List.mem_map_of_mem ht
  rw [(hit t (by simp [ht])).2.2,((i2 _).1 h1).2]
 have hin:∀t∈a++X++c,t.2.2=x→t.1∈cH g p x:=fun t ht e=>by
  obtain⟨h1,_,h3⟩:=hit t ht
  exact (i2 _).2⟨h1,by rw [← h3,e]⟩
 have ha:fF x a:=fun t ht e=>by
  have h1:=hin t (by simp [ht])e
  have h2:t.1∈A:=by rw [← e5];exact List.mem_map_of_mem ht
  exact (List.nodup_append.1 (List.nodup_append.1 bY).1).2.2 _ h2 _ h1 rfl
 have Nu:fF x c:=fun t ht e=>by
  have h1:=hin t (by simp [ht])e
  have h2:t.1∈C:=by rw [← e3];exact List.mem_map_of_mem ht
  exact (List.nodup_append.1 bY).2.2 _ (List.mem_append.2 (.inr h1))_ h2 rfl
 have Mg:X.length=bA g x:=by rw [← jE h hx, ← e6,List.length_map]
 have nX:X≠ []:=fun h0=>hI (by rw [← e6,h0];rfl)
 have hR:=Df hm hi.aY hx.1 hx.2 Nt hrow ha Nu hX nX Mg
 have hn:bA g x≠0:=fun h0=>nX (List.eq_nil_of_length_eq_zero (Mg.trans h0))
 have px:=bS h.2.1 hx.1 hx.2
 cases k with
 |zero=>exact absurd (jD hi.aY (by omega)hx)Nt
 |succ k=>
  refine⟨k,rfl,tV g p f x,jC hm hi hR px,rfl, ?_,(ue h.1 h.2.1 hi (by omega)hc hR).2, ?_,List.mem_append.2 (.inl hs)⟩
  ·have:=EM hm hi.aY hR hn hrow ha Nu hX nX (bL p x)
   show _=(iX (aB g f x (bL p x)).2.row).map (·.1)
   rw [this,List.map_append,List.map_append,e5,e3,lM (fun i hi=>by
    have:=cD.1 (px.mem_iff.1 hi);exact this.1.1),List.map_map]
   have e7:((fun t:It=>t.1) ∘ fA g x)=id:=rfl
   rw [e7,List.map_id]
  ·show (((f.pl++ [x]).length:Nat):Int)+_=_
   rw [List.length_append,List.length_singleton];omega
theorem A6 (h:cC g p):k4 g p (g.n.toNat - 1)(bL p (az p 0)) [az p 0]:=by
 have hm:=aF h.1
 have hn:=aV hm
 have hx:=aN h.2.1 (k:=0)(by omega)
 obtain⟨hi,gw,_⟩:=dI hm h.2.1 (k:=1)(by omega)fun j hj=>h.2.2 j (by omega)
 have px:=bS h.2.1 hx.1 hx.2
 have hno:fF (az p 0)(fK g p 0).row:=fun t ht=>by cases ht
 have hf:fK g p 1=⟨aL g (az p 0)(bL p (az p 0)), [az p 0]⟩:=by
  show (aB g (fK g p 0)(az p 0)_).2=_
  rw [lH _ hno]
  show (⟨_++ [], []++ [_]⟩:Fr)=_
  simp
 refine⟨fK g p 1,hi,by rw [hf], ?_,uf h (by omega),by simp;omega,by simp⟩
 rw [hf]
 show _=(iX (aL g (az p 0)(bL p (az p 0)))).map (·.1)
 rw [lM (fun i hi=>(cD.1 (px.mem_iff.1 hi)).1.1),List.map_map]
 have e7:((fun t:It=>t.1) ∘ fA g (az p 0))=id:=rfl
 rw [e7,List.map_id]
theorem zI (h:cC g p)(hI:kB g=true):(cy g p).Ok:=by
 have hm:=aF h.1
 have hn:=aV hm
 have h0:pQ g (az p 0):=aN h.2.1 (by omega)
 exact {
  fm:=fun x e=>by
   show _↔(0≤e∧e<g.es.length)∧ql g e=x
   by_cases hx:pQ g x
   ·rw [iM hx,(bS h.2.1 hx.1 hx.2).mem_iff];exact cD
   ·rw [nZ hx]
    refine⟨fun h=>by (cases h),fun⟨h1,h2⟩=>absurd ?_ hx⟩
    rw [← h2];exact bK hm (i:=e.toNat)(by omega)
  cM:=fun x e=>by
   show _↔(0≤e∧e<g.es.length)∧DQ g e=x
   by_cases hx:pQ g x
   ·rw [j7 hx];exact (k5 h hx).2 e
   ·rw [nW hx]
    refine⟨fun h=>by (cases h),fun⟨h1,h2⟩=>absurd ?_ hx⟩
    rw [← h2];exact bX hm (i:=e.toNat)(by omega)
  mU:=fun x=>by
   by_cases hx:pQ g x
   ·rw [iM hx,(bS h.2.1 hx.1 hx.2).nodup_iff];exact cV
   ·rw [nZ hx];exact List.nodup_nil
  xU:=fun x=>by
   by_cases hx:pQ g x
   ·rw [j7 hx];exact (k5 h hx).1
   ·rw [nW hx];exact List.nodup_nil
  og:=fun e he=>by
   have he:0≤e∧e<g.es.length:=he
   have hh:=bX hm (i:=e.toNat)(by omega)
   obtain⟨k,hk,e1⟩:=gh h.2.1 hh.1 hh.2
   obtain⟨j,hj,e2⟩:=sN h he hk e1.symm
   show Dg g p (ql g e)<Dg g p (DQ g e)
   have e3:DQ g e=az p k:=e1.symm
   rw [← e2,e3,zG hm h.2.1 hk,zG hm h.2.1 (by omega)]
   exact hj
  DT:=by
   show k4 g p (g.n.toNat - 1)((cy g p).outs (az p 0)) [az p 0]
   rw [iM h0];exact A6 h
  kC:=fun hr=>k4.nd hr
  dA:=fun hr e=>k4.mem h hr e
  kD:=fun hr=>k4.next h hr
  mV:=fun hr h1 h2=>k4.step h hr h1 h2
  lp:=fun {W D} hr e he=>by
   obtain⟨f,hi,rfl,_,_,hD,_⟩:=hr
   exact jD hi.aY (by omega)(bX hm (i:=e.toNat)(by have:=he.1;have:=he.2;have:e<g.es.length:=he.2;omega))
  pZ:=fun {k W D} hr=>by obtain⟨f,hi,rfl,_,_,_,hs⟩:=hr;exact hs
  p8:=fun {k W D} hr hs=>by
   obtain⟨f,hi,rfl,_,_,hD,_⟩:=hr
   refine Decidable.byContradiction fun hk=> ?_
   have:∃k',k'<g.n.toNat∧az p k'∉f.pl:=by
    refine Decidable.byContradiction fun hall=> ?_
    have hall:∀k',k'<g.n.toNat→az p k'∈f.pl:=fun k' hk'=>Decidable.byContradiction fun h1=>hall⟨k',hk',h1⟩
    have:=eV (l:=p.ord)(m:=f.pl)(sG h.2.1)fun x hx=>by
     have hx:=dU.1 (h.2.1.2.1.mem_iff.1 hx)
     obtain⟨k',h1,rfl⟩:=gh h.2.1 hx.1 (by omega)
     exact hall k' h1
    rw [cg h.2.1] at this
    omega
   obtain⟨k',h1,h2⟩:=this
   exact ug h hI hi (d:=g.n.toNat - k')(by omega)h1 h2 hs
  qv:=by
   show (cy g p).ins (az p 0)= []
   rw [j7 h0]
   have:=jE h h0
   rw [fW h] at this
   exact List.eq_nil_of_length_eq_zero this
  mW:=fun x hx=>by
   have DO:pQ g x:=Decidable.byContradiction fun h0=>hx (nW h0)
   rw [iM DO]
   exact ez h hI DO}
end
end Go.Ab
end
section
namespace Go.Ab
open Go.Proofs
set_option maxRecDepth 10000
set_option linter.unusedSectionVars false
section
variable (g:Gr)(p:Pl)
def cK:Nat→Nat
 |0=>1
 |k+1=>cK k+((bL p (az p k)).length - 1)
def Gg (e:Int):Nat:=(bL p (ql g e)).findIdx (fun i=>decide (i=e))
def eA (x:Int):Int:=(cH g p x).headD 0
def mg (x:Int):Int:=(cH g p x).getLastD 0
def LK:Nat→Int→Int
 |0,_=>0
 |k+1,e=>if ql g e=az p k then (if Gg g p e=0 then (if k=0 then 0 else LK k (eA g p (az p k)))else (cK p k:Int)+Gg g p e - 1)else LK k e
def RK (r:Int):Nat→Int→Int
 |0,_=>0
 |k+1,e=>if ql g e=az p k then (if Gg g p e+1<(bL p (az p k)).length then (cK p k:Int)+Gg g p e else (if k=0 then r else RK r k (mg g p (az p k))))else RK r k e
def iy:Nat→List Int
 |0=> [az p 0]
 |k+1=>iy k++List.replicate ((bL p (az p k)).length - 1)(az p k)
end
section
variable {g:Gr} {p:Pl}
theorem gu:∀ {k:Nat},(iy p k).length=cK p k
 |0=>rfl
 |k+1=>by rw [iy,List.length_append,List.length_replicate,gu,cK]
theorem o3:∀ {k:Nat},0<cK p k
 |0=>by simp [cK]
 |k+1=>by rw [cK];have:= @o3 k;omega
theorem qm {k:Nat} :∀ {d:Nat},cK p k≤cK p (k+d)
 |0=>Nat.le_refl _
 |d+1=>by
  have:= @qm k d
  show _≤cK p (k+d+1)
  rw [cK];omega
theorem uh {k:Nat} {f:Nat} (hf:f<cK p k):∀ {d:Nat},(iy p (k+d)).getD f 0=(iy p k).getD f 0
 |0=>rfl
 |d+1=>by
  show (iy p (k+d+1)).getD f 0=_
  have:=qm (p:=p)(k:=k)(d:=d)
  rw [iy,List.getD_eq_getElem?_getD,List.getElem?_append_left (by rw [gu];omega), ← List.getD_eq_getElem?_getD,uh hf]
theorem Di {k f:Nat} (h1:cK p k≤f)(h2:f<cK p (k+1)):(iy p (k+1)).getD f 0=az p k:=by
 rw [iy,List.getD_eq_getElem?_getD,List.getElem?_append_right (by rw [gu];exact h1),List.getElem?_replicate,gu,if_pos (by rw [cK] at h2;omega)]
 rfl
variable (h:cC g p)
include h
theorem mQ {k:Nat} (hk:k<g.n.toNat) {u v:List Int} {e:Int} (he:bL p (az p k)=u++e::v):ql g e=az p k∧Gg g p e=u.length:=by
 have hx:=aN h.2.1 hk
 have px:=bS h.2.1 hx.1 hx.2
 have h1:=(cD.1 (px.mem_iff.1 (show e∈bL p (az p k)by rw [he];simp))).2
 have h1:ql g e=az p k:=h1
 refine⟨h1, ?_⟩
 have bY:(bL p (az p k)).Nodup:=px.nodup_iff.2 cV
 unfold Gg
 rw [h1,he]
 rw [he,List.nodup_append] at bY
 rw [List.findIdx_append]
 have h2:u.findIdx (fun i=>decide (i=e))=u.length:=by
  rw [List.findIdx_eq_length]
  intro i hi
  exact decide_eq_false fun e2=>bY.2.2 i hi e (by simp)e2
 rw [h2,if_neg (by omega)]
 simp [List.findIdx_cons]
theorem zJ {e:Int} {k:Nat} (hk:k<g.n.toNat)(he:ql g e=az p k):∀ {d:Nat},k+1+d≤g.n.toNat→LK g p (k+1+d)e=LK g p (k+1)e
 |0,_=>rfl
 |d+1,hd=>by
  show LK g p (k+1+d+1)e=_
  rw [LK,if_neg (fun e2=>by have:=dL h.2.1 hk (show k+1+d<g.n.toNat by omega)(he.symm.trans e2);omega),zJ hk he (by omega)]
theorem zK {r:Int} {e:Int} {k:Nat} (hk:k<g.n.toNat)(he:ql g e=az p k):∀ {d:Nat},k+1+d≤g.n.toNat→RK g p r (k+1+d)e=RK g p r (k+1)e
 |0,_=>rfl
 |d+1,hd=>by
  show RK g p r (k+1+d+1)e=_
  rw [RK,if_neg (fun e2=>by have:=dL h.2.1 hk (show k+1+d<g.n.toNat by omega)(he.symm.trans e2);omega),zK hk he (by omega)]
theorem k6 {e:Int} {k:Nat} (hk:k<g.n.toNat)(he:ql g e=az p k) {j:Nat} (h1:k+1≤j)(h2:j≤g.n.toNat):LK g p j e=LK g p (k+1)e:=by
 obtain⟨d,rfl⟩:=Nat.exists_eq_add_of_le h1
 exact zJ h hk he h2
theorem gB {r:Int} {e:Int} {k:Nat} (hk:k<g.n.toNat)(he:ql g e=az p k) {j:Nat} (h1:k+1≤j)(h2:j≤g.n.toNat):RK g p r j e=RK g p r (k+1)e:=by
 obtain⟨d,rfl⟩:=Nat.exists_eq_add_of_le h1
 exact zK h hk he h2
theorem vA {k:Nat} (hk:k<g.n.toNat) {v:List Int} {e:Int} (he:bL p (az p k)=e::v) {j:Nat} (h1:k+1≤j)(h2:j≤g.n.toNat):LK g p j e=if k=0 then 0 else LK g p k (eA g p (az p k)):=by
 obtain⟨a,b⟩:=mQ h hk (u:= [])he
 rw [k6 h hk a h1 h2,LK,if_pos a,if_pos (show Gg g p e=0 from b)]
theorem zL {k:Nat} (hk:k<g.n.toNat) {u v:List Int} {e:Int} (he:bL p (az p k)=u++e::v)(hu:u≠ []) {j:Nat} (h1:k+1≤j)(h2:j≤g.n.toNat):LK g p j e=(cK p k:Int)+u.length - 1:=by
 obtain⟨a,b⟩:=mQ h hk he
 have:=List.length_pos_iff.2 hu
 rw [k6 h hk a h1 h2,LK,if_pos a,if_neg (by omega),b]
theorem sO {r:Int} {k:Nat} (hk:k<g.n.toNat) {u:List Int} {e:Int} (he:bL p (az p k)=u++ [e]) {j:Nat} (h1:k+1≤j)(h2:j≤g.n.toNat):RK g p r j e=if k=0 then r else RK g p r k (mg g p (az p k)):=by
 obtain⟨a,b⟩:=mQ h hk he
 rw [gB h hk a h1 h2,RK,if_pos a,if_neg (by rw [b,he];simp)]
theorem iN {r:Int} {k:Nat} (hk:k<g.n.toNat) {u v:List Int} {e c:Int} (he:bL p (az p k)=u++e::c::v) {j:Nat} (h1:k+1≤j)(h2:j≤g.n.toNat):RK g p r j e=(cK p k:Int)+u.length:=by
 obtain⟨a,b⟩:=mQ h hk he
 rw [gB h hk a h1 h2,RK,if_pos a,if_pos (by rw [b,he];simp),b]
theorem o4 {x:Int} {a:Int} {u:List Int} (hu:cH g p x=a::u):eA g p x=a:=by unfold eA;rw [hu];rfl
theorem k7 {x:Int} {a:Int} {u:List Int} (hu:cH g p x=u++ [a]):mg g p x=a:=by unfold mg;rw [hu];simp
theorem zM {k:Nat} (hk:k<g.n.toNat)(hI:cH g p (az p k)≠ []):k≠0:=fun h0=>by
 subst h0
 have:=jE h (aN h.2.1 hk)
 rw [fW h] at this
 exact hI (List.eq_nil_of_length_eq_zero this)
theorem xF {k:Nat} (hk:k<g.n.toNat) {a:Int} (ha:a∈cH g p (az p k)):∃j,j<k∧ql g a=az p j:=by
 obtain⟨h1,h2⟩:=((k5 h (aN h.2.1 hk)).2 a).1 ha
 obtain⟨j,h3,h4⟩:=sN h h1 hk h2
 exact⟨j,h3,h4.symm⟩
def WK (g:Gr)(p:Pl)(k:Nat):List Int:=(iX (fK g p k).row).map (·.1)
theorem sP (hn:0<g.n.toNat):WK g p 1=bL p (az p 0):=by
 have hx:=aN h.2.1 hn
 have px:=bS h.2.1 hx.1 hx.2
 have hno:fF (az p 0)(fK g p 0).row:=fun t ht=>by cases ht
 have hf:(fK g p 1).row=aL g (az p 0)(bL p (az p 0)):=by
  show (aB g (fK g p 0)(az p 0)_).2.row=_
  rw [lH _ hno]
  show _++ []=_
  simp
 unfold WK
 rw [hf,lM (fun i hi=>(cD.1 (px.mem_iff.1 hi)).1.1),List.map_map]
 have e7:((fun t:It=>t.1) ∘ fA g (az p 0))=id:=rfl
 rw [e7,List.map_id]
theorem lN {k:Nat} (h0:k≠0)(hk:k<g.n.toNat):∃A C,WK g p k=A++cH g p (az p k)++C∧cH g p (az p k)≠ []∧WK g p (k+1)=A++bL p (az p k)++C:=by
 have hm:=aF h.1
 obtain⟨hi,gw,_⟩:=dI hm h.2.1 (k:=k)(by omega)fun j hj=>h.2.2 j (by omega)
 have hR:=h.2.2 k hk
 have hx:=aN h.2.1 hk
 have px:=bS h.2.1 hx.1 hx.2
 have hn:bA g (az p k)≠0:=fun hz=>by
  have Pa:=aN h.2.1 (show 0<g.n.toNat by omega)
  have:=nP h.1 hx Pa hz (fW h)
  exact h0 (dL h.2.1 hk (by omega)this)
 obtain⟨a,c,e1,_,_,_,hl,e2⟩:=vv hm hi.aY hR hn (bL p (az p k))
 refine⟨a.map (·.1),c.map (·.1), ?_, ?_, ?_⟩
 ·rw [zH h hk];unfold WK;rw [e1,List.map_append,List.map_append];rfl
 ·intro h1
  have:=jE h hx
  rw [h1] at this
  exact hn this.symm
 ·unfold WK
  show (iX (aB g (fK g p k)(az p k)_).2.row).map (·.1)=_
  rw [e2,List.map_append,List.map_append,lM (fun i hi=>(cD.1 (px.mem_iff.1 hi)).1.1),List.map_map]
  have e7:((fun t:It=>t.1) ∘ fA g (az p k))=id:=rfl
  rw [e7,List.map_id]
theorem qn {k:Nat} (hk:k≤g.n.toNat) {a:Int} (ha:a∈WK g p k):∃j,j<k∧ql g a=az p j:=by
 have hm:=aF h.1
 obtain⟨hi,gw,_⟩:=dI hm h.2.1 (k:=k)(by omega)fun j hj=>h.2.2 j (by omega)
 obtain⟨t,ht,rfl⟩:=List.mem_map.1 ha
 obtain⟨h1,h2,_⟩:=n0 hm hi.aY ht
 obtain⟨h4,h5⟩:=iL.1 ht
 have:=hi.tail t h4 h5
 rw [gw,h2] at this
 obtain⟨j,hj,e⟩:=zE (by rw [cg h.2.1];omega)this
 exact⟨j,hj,e.symm⟩
theorem zN {r:Int} {k:Nat} (hk:k<g.n.toNat) {j:Nat} (h1:k+1≤j)(h2:j≤g.n.toNat):fG (LK g p j)(RK g p r j)(if k=0 then 0 else LK g p k (eA g p (az p k)))(bL p (az p k)):=by
 refine mX (fun u a b v e=> ?_)fun a u e=>vA h hk e h1 h2
 rw [iN h hk e h1 h2,zL h hk (u:=u++ [a])(v:=v)(e:=b)(by rw [e];simp)(by simp)h1 h2]
 simp;omega
theorem zO {r:Int} {k:Nat} (hk:k<g.n.toNat) {j:Nat} (h1:k+1≤j)(h2:j≤g.n.toNat)(hO:bL p (az p k)≠ [])(f:Int):gK (RK g p r j)f (bL p (az p k))=if k=0 then r else RK g p r k (mg g p (az p k)):=by
 obtain⟨v,b,hv⟩:=cO hO
 rw [hv,cI,sO h hk hv h1 h2]
theorem k8 {L R L' R':Int→Int} :∀ {W:List Int} {f:Int},(∀a∈W,L a=L' a∧R a=R' a)→(fG L R f W↔fG L' R' f W)
 | [],_,_=>Iff.rfl
 |a::W,f,hh=>by
  have h1:=hh a (List.mem_cons_self ..)
  simp only [fG,h1.1,h1.2,k8 (W:=W)fun b hb=>hh b (List.mem_cons_of_mem _ hb)]
theorem sQ {R R':Int→Int} :∀ {W:List Int} {f:Int},(∀a∈W,R a=R' a)→gK R f W=gK R' f W
 | [],_,_=>rfl
 |a::W,f,hh=>by
  simp only [gK,hh a (List.mem_cons_self ..),sQ (W:=W)fun b hb=>hh b (List.mem_cons_of_mem _ hb)]
theorem yG {r:Int} (hI:kB g=true):∀ {k:Nat},1≤k→k<g.n.toNat→WK g p k≠ []→fG (LK g p k)(RK g p r k)0 (WK g p k)∧gK (RK g p r k)0 (WK g p k)=r
 |0,h1,_,_=>by omega
 |k+1,_,hk,hW=>by
  by_cases h0:k=0
  ·subst h0
   rw [sP h (by omega)] at hW ⊢
   have a:=zN (r:=r)h (k:=0)(by omega)(j:=1)(Nat.le_refl _)(by omega)
   have b:=zO (r:=r)h (k:=0)(by omega)(j:=1)(Nat.le_refl _)(by omega)hW 0
   rw [if_pos rfl] at a b
   exact⟨a,b⟩
  ·obtain⟨A,C,e1,hne,e2⟩:=lN h h0 (show k<g.n.toNat by omega)
   obtain⟨l1,l2⟩:=yG hI (k:=k)(by omega)(by omega)(by rw [e1];simp [hne])
   have hO:bL p (az p k)≠ []:=fun h1=>by
    have:=(ez h hI (aN h.2.1 (show k<g.n.toNat by omega))).1 h1
    have:=dL h.2.1 (show k<g.n.toNat by omega)(by omega)this
    omega
   have zP:∀a∈WK g p k,LK g p (k+1)a=LK g p k a∧RK g p r (k+1)a=RK g p r k a:=fun a ha=>by
    obtain⟨j,hj,e⟩:=qn h (by omega)ha
    exact⟨by rw [k6 h (by omega)e (j:=k+1)(by omega)(by omega),k6 h (by omega)e (j:=k)(by omega)(by omega)],by rw [gB h (by omega)e (j:=k+1)(by omega)(by omega),gB h (by omega)e (j:=k)(by omega)(by omega)]⟩
   rw [← k8 h zP] at l1
   rw [← sQ h fun a ha=>(zP a ha).2] at l2
   rw [e1] at l1 l2 zP
   rw [e2]
   obtain⟨a0,u0,DU⟩:=iD hne
   obtain⟨u,a,hu⟩:=cO hne
   obtain⟨l3,l5⟩:=bT.1 l1
   obtain⟨l4,l6⟩:=bT.1 l3
   have Pb:LK g p (k+1)a0=gK (RK g p r (k+1))0 A:=by rw [DU] at l6;exact l6.1
   have DW:∀f,gK (RK g p r (k+1))f (cH g p (az p k))=RK g p r k (mg g p (az p k)):=fun f=>by
    rw [k7 h hu,hu,cI,(zP a (by rw [hu];simp)).2]
   have hlk:=zN (r:=r)h (k:=k)(by omega)(j:=k+1)(Nat.le_refl _)(by omega)
   have Mw:=zO (r:=r)h (k:=k)(by omega)(j:=k+1)(Nat.le_refl _)(by omega)hO
   rw [if_neg h0] at hlk Mw
   rw [o4 h DU, ← (zP a0 (by rw [DU];simp)).1,Pb] at hlk
   refine⟨?_, ?_⟩
   ·rw [bT,bT,cu,Mw]
    rw [cu,DW] at l5
    exact⟨⟨l4,hlk⟩,l5⟩
   ·rw [cu,cu,Mw]
    rw [cu,cu,DW] at l2
    exact l2
theorem mR (hI:kB g=true) {r:Int} (hr:r<0∨cK p g.n.toNat≤r):(cy g p).gC (LK g p g.n.toNat)(RK g p r g.n.toNat)0 r (fun f=>(iy p g.n.toNat).getD f.toNat 0):=by
 have hm:=aF h.1
 have hn:=aV hm
 have Bt:∀ {x:Int} {l:List Int},(cy g p).outs x=l→l≠ []→∃k,k<g.n.toNat∧az p k=x∧bL p (az p k)=l:=fun {x l} h1 h2=>by
  by_cases hx:pQ g x
  ·obtain⟨k,hk,rfl⟩:=gh h.2.1 hx.1 hx.2
   exact⟨k,hk,rfl,by rw [← h1,iM hx]⟩
  ·rw [nZ hx] at h1;exact absurd h1.symm h2
 have Mx:∀ {x:Int} {l:List Int},(cy g p).ins x=l→l≠ []→∃k,k<g.n.toNat∧az p k=x∧cH g p (az p k)=l:=fun {x l} h1 h2=>by
  by_cases hx:pQ g x
  ·obtain⟨k,hk,rfl⟩:=gh h.2.1 hx.1 hx.2
   exact⟨k,hk,rfl,by rw [← h1,j7 hx]⟩
  ·rw [nW hx] at h1;exact absurd h1.symm h2
 have h0:(cy g p).src=az p 0:=rfl
 have Hp:∀k,0<cK p k:=fun k=>o3
 exact {
  ne:=by have:=Hp g.n.toNat;omega
  gJ:=fun {x u a b v} e=>by
   obtain⟨k,hk,_,e2⟩:=Bt e (by simp)
   rw [iN h hk e2 (by omega)(Nat.le_refl _),zL h hk (u:=u++ [a])(v:=v)(e:=b)(by rw [e2];simp)(by simp)(by omega)(Nat.le_refl _)]
   simp;omega
  qy:=fun {x u a b v} e=>by
   obtain⟨k,hk,_,e2⟩:=Mx e (by simp)
   have wg:=zM h hk (by rw [e2];simp)
   obtain⟨A,C,e1,hne,_⟩:=lN h wg hk
   have l1:=(yG (r:=r)h hI (k:=k)(by omega)hk (by rw [e1];simp [hne])).1
   have zP:∀a∈WK g p k,LK g p g.n.toNat a=LK g p k a∧RK g p r g.n.toNat a=RK g p r k a:=fun a ha=>by
    obtain⟨j,hj,e⟩:=qn h (by omega)ha
    exact⟨by rw [k6 h (by omega)e (j:=g.n.toNat)(by omega)(by omega),k6 h (by omega)e (j:=k)(by omega)(by omega)],by rw [gB h (by omega)e (j:=g.n.toNat)(by omega)(by omega),gB h (by omega)e (j:=k)(by omega)(by omega)]⟩
   rw [← k8 h zP,e1,e2,show A++(u++a::b::v)++C=(A++u)++a::b::(v++C)by simp] at l1
   exact By l1
  fst:=fun {x a u b v} e1 e2=>by
   obtain⟨k,hk,hx,e3⟩:=Bt e2 (by simp)
   have e4:cH g p (az p k)=a::u:=by
    have DO:pQ g x:=by rw [← hx];exact aN h.2.1 hk
    rw [hx, ← j7 DO];exact e1
   have wg:=zM h hk (by rw [e4];simp)
   obtain⟨j,hj,et⟩:=xF h hk (a:=a)(by rw [e4];simp)
   rw [vA h hk e3 (by omega)(Nat.le_refl _),if_neg wg,o4 h e4,k6 h (by omega)et (j:=g.n.toNat)(by omega)(Nat.le_refl _),k6 h (by omega)et (j:=k)(by omega)(by omega)]
  Bw:=fun {x a u b v} e1 e2=>by
   obtain⟨k,hk,hx,e3⟩:=Bt e2 (by simp)
   have e4:cH g p (az p k)=u++ [a]:=by
    have DO:pQ g x:=by rw [← hx];exact aN h.2.1 hk
    rw [hx, ← j7 DO];exact e1
   have wg:=zM h hk (by rw [e4];simp)
   obtain⟨j,hj,et⟩:=xF h hk (a:=a)(by rw [e4];simp)
   rw [sO h hk e3 (by omega)(Nat.le_refl _),if_neg wg,k7 h e4,gB h (by omega)et (j:=g.n.toNat)(by omega)(Nat.le_refl _),gB h (by omega)et (j:=k)(by omega)(by omega)]
  s0:=fun {b v} e=>by
   obtain⟨k,hk,hx,e3⟩:=Bt e (by simp)
   have:k=0:=dL h.2.1 hk (by omega)hx
   rw [vA h hk e3 (by omega)(Nat.le_refl _),if_pos this]
  s1:=fun {b v} e=>by
   obtain⟨k,hk,hx,e3⟩:=Bt e (by simp)
   have:k=0:=dL h.2.1 hk (by omega)hx
   rw [sO h hk e3 (by omega)(Nat.le_refl _),if_pos this]
  new:=fun {x u a b v} e=>by
   obtain⟨k,hk,hx,e3⟩:=Bt e (by simp)
   have hR:=iN (r:=r)h hk e3 (j:=g.n.toNat)(by omega)(Nat.le_refl _)
   have hl:(bL p (az p k)).length=u.length+(v.length+2):=by rw [e3];simp
   have DM:cK p (k+1)=cK p k+((bL p (az p k)).length - 1):=rfl
   obtain⟨d,hd⟩:=Nat.exists_eq_add_of_le (show k+1≤g.n.toNat by omega)
   have hmo:=qm (p:=p)(k:=k+1)(d:=d)
   rw [← hd] at hmo
   have:=Hp k
   refine⟨?_,by omega,by omega⟩
   show (iy p g.n.toNat).getD (RK g p r g.n.toNat a).toNat 0=x
   rw [hR,show ((cK p k:Int)+(u.length:Int)).toNat=cK p k+u.length by omega,hd,uh (by omega),Di (by omega)(by omega),hx]
  new1:=fun {x u a b v u' a' b' v'} e1 e2 e3=>by
   obtain⟨k,hk,hx,e4⟩:=Bt e1 (by simp)
   have e5:bL p (az p k)=u'++a'::b'::v':=by
    have DO:pQ g x:=by rw [← hx];exact aN h.2.1 hk
    rw [hx, ← iM DO];exact e2
   rw [iN h hk e4 (by omega)(Nat.le_refl _),iN h hk e5 (by omega)(Nat.le_refl _)] at e3
   have hl:u.length=u'.length:=by omega
   rw [e4] at e5
   have:=(List.append_inj e5 hl).2
   simp only [List.cons.injEq] at this
   exact this.1}
end
end Go.Ab
end
section
namespace Go.Ab
theorem oa {X:Ctx} {o:Oper} {s:ASt} {K:LA→Prop} (hX:X.Ok) {C:Cfg} (hC:X.C=C) {P:Program} (hP:X.P=P) {c:Call} {fo:Operand} {f:Nat} {first caps Gh Gi:List AV} {ob:AObj} (d:Nat)
  (hs:Spec P f (Args Gi) [](.ref 10000) [(10000,ob)])(ho:o.op= .call c)(hc:c.callee= .value fo)(hf:aev C 0 s fo= .fn f first caps)(has:evA C s c.args.toList c.argTypes.toList=Gh)
  (wS:cvts (fun a x=>rdX C (fun _=>false)true (reach s 3 (AV.idss (first++Gh++caps)))4 a=some x)(first++Gh++caps)Gi)
  (BU:∃e sz rows,ob= .own e sz rows∧∀r∈rows,∀x∈r,∃v,x=D.sc v)(hd:o.dst=some d)(hdl:d<10000)
  (hK:K⟨rsOf s (fo::c.args.toList),reach s 3 (AV.idss (first++Gh++caps)), [(d,none)], [(d,ob)],some d, .ref d⟩):ACall X o (.fn f first caps)Gh s K:=by
 subst hC;subst hP
 refine⟨_,⟨hd.symm, ?_⟩,⟨aC s _,jQ s _ _⟩,hK⟩
 rintro s' a w hdn fQ⟨E,hE⟩
 have hfo:=hE.evs fQ.1 X.C 0 (x:=fo)(by simp)
 rw [hf] at hfo
 obtain⟨us,vs,hfo,iS,tr⟩:=hfo
 have hargs:=lD (s:=s)hE c.args.toList c.argTypes.toList (fun p hp=>fQ.1 p (by cases fo<;>simp [rsOf,hp]))
 rw [has] at hargs
 have q8:AVrs w E (first++Gh++caps)(us++c.args.toList.map a.eval++vs):=(iS.append hargs).append tr
 obtain⟨fn,cd,hfn,hname,hbody⟩:=hs.can
 have hrun:(execOp a.eval o).run X.P w= .ok (.enter f (us++c.args.toList.map a.eval++vs).toArray)w:=by
  have h1:us.toArray++c.args.map a.eval++vs.toArray=(us++c.args.toList.map a.eval++vs).toArray:=by
   apply Array.toList_inj.1;simp
  have h2:=c8 (P:=X.P)hfn hname hbody (us.toArray++c.args.map a.eval++vs.toArray)w
  rw [h1] at h2
  simp only [execOp,ho,resolve,hc,hfo,Deferred.ofValue,Sem.run_bind,Sem.run_pure,Result.andThen_ok,invoke]
  rw [h1];exact h2
 have gy:∀l,bG [] l=none:=fun l=>by unfold bG;split<;>rfl
 have wU:aH w E.z w (fun b=>max (E.z b)(cm w b)):=fun b=>⟨Nat.le_max_left _ _,fun _ _=>rfl⟩
 have q9:Good []⟨E.ρ,E.σ,fun b=>max (E.z b)(cm w b)⟩w:=by
  refine⟨fun l h=>by simp [look] at h,fun l l' b h=>by simp [gy] at h,fun l o h=>by simp [gy] at h,fun b hb=> ?_⟩
  simp [hE.good.fresh b hb,cm,Array.getElem?_eq_none hb]
 have hA:AVrs w⟨E.ρ,E.σ,fun b=>max (E.z b)(cm w b)⟩Gi (us++c.args.toList.map a.eval++vs):=
  gq (E':=⟨E.ρ,E.σ,fun b=>max (E.z b)(cm w b)⟩)⟨wU,fun _ _=>rfl,fun _ _=>rfl⟩(fun a x v DJ hr=>nq hE.good wU (fun l o b _ _ _ _=>Nat.le_max_right _ _)(rL (fun l o hl=>fQ.2 _ (aW hl))DJ)hr)wS q8
 unfold Oper.wp
 rw [hrun]
 refine (hs.calls _ w _ q9 hA).mono ?_
 rintro e w'⟨v,E',rfl,hst,hg',tE,hres⟩
 have hheap:∀b,b<w.heap.size→w'.heap[b]? =w.heap[b]? :=fun b hb=>(hst.frame b hb (by rintro⟨l,o,hl,_⟩;simp [gy] at hl)).1
 obtain⟨e0,sz,rows,rfl,hfl⟩:=BU
 have Cv:bG [(10000,AObj.own e0 sz rows)] 10000=some (.own e0 sz rows):=by rw [dB (by omega)];simp [look]
 have ja:=hg'.jb 10000 _ Cv
 have wZ:∀b,E'.ρ 10000=some b→w.heap.size≤b:=fun b hb=>by
  rcases tE 10000 _ b Cv rfl hb with h|⟨l,q,hl,_⟩
  ·exact h
  ·simp [gy] at hl
 obtain⟨E2,hρ,hσ,FW,FX,Es,z7⟩:∃E2:Env,(∀l,l≠d→E2.ρ l=E.ρ l)∧(∀l,l≠d→E2.σ l=E.σ l)∧E2.ρ d=E'.ρ 10000∧E2.σ d=E'.σ 10000∧(∀b,b<w.heap.size→E2.z b=E.z b)∧(∀b,w.heap.size≤b→E2.z b=E'.z b):=
  ⟨⟨fun l=>if l=d then E'.ρ 10000 else E.ρ l,fun l=>if l=d then E'.σ 10000 else E.σ l,fun b=>if b<w.heap.size then E.z b else E'.z b⟩,fun l h=>by simp [h],fun l h=>by simp [h],by simp,by simp,fun b h=>by simp [h],fun b h=>by simp [show¬b<w.heap.size by omega]⟩
 have ck:∀l,kl [(d,(none:Option D))] l=if d=l then some none else none:=fun l=>by simp only [kl]
 have hlk:∀l,look [(d,AObj.own e0 sz rows)] l=if d=l then some (.own e0 sz rows)else none:=fun l=>by simp only [look]
 refine⟨E2,hd ▸ hE.app'⟨rsOf s (fo::c.args.toList),reach s 3 (AV.idss (first++Gh++caps)), [(d,none)], [(d, .own e0 sz rows)],some d, .ref d⟩E2 w' v (fun b=> ?_)hst.os hst.tape hst.output hst.size (fun l hl=> ?_)(fun l x hl=> ?_)(fun l hl=> ?_)(fun l hl=> ?_)(fun l q hl=> ?_)(fun b hb=> .inl⟨hheap b hb,Es b hb⟩)(fun l q hl=> ?_)(fun l l' b hl hl' _ _=> ?_)(fun l b hl hb=> ?_)(fun b hb=> ?_) ?_ (fun k hk=>hdn k (hd ▸ hk))⟩
 ·by_cases hb:b<w.heap.size
  ·exact⟨by rw [Es b hb];exact Nat.le_refl _,fun o _=>cell?_of_heap (hheap b hb)o⟩
  ·have:=hE.good.fresh b (by omega)
   exact⟨by omega,fun o ho=>by omega⟩
 ·have:l≠d:=fun e=>by subst e;simp [kl] at hl
  exact⟨hρ l this,hσ l this⟩
 ·simp only [ck] at hl;split at hl<;>simp at hl
 ·have:l≠d:=fun e=>by
   subst e
   have:=hX.low l hl
   omega
  exact⟨hρ l this,hσ l this⟩
 ·simp only [ck] at hl
  split at hl
  ·omega
  ·exact absurd rfl hl
 ·simp only [hlk] at hl
  split at hl
  ·cases hl;exact⟨by omega,rfl⟩
  ·cases hl
 ·simp only [hlk] at hl
  split at hl
  ·rename_i he;subst he
   cases hl
   obtain⟨g1,g2,g3⟩:=ja
   refine⟨g1,g2, ?_⟩
   rcases g3 with⟨h1,h2,h3⟩|⟨b,cur,cap,h1,h2,h3,h4,h5,h6,h7,h8⟩
   ·exact .inl⟨by rw [FW];exact h1,h2,by rw [FX];exact h3⟩
   ·refine .inr⟨b,cur,cap,by rw [FW];exact h1,h2,by rw [FX];exact h3,h4,h5,h6,by rw [z7 b (wZ b h1)];exact h7,fun i j r x hi hj=> ?_⟩
    obtain⟨v,hv,hx⟩:=h8 i j r x hi hj
    obtain⟨u,rfl⟩:=hfl r (List.mem_of_getElem? hi)x (List.mem_of_getElem? hj)
    cases hx with
    |sc _ h=>exact⟨_,hv, .sc _ h⟩
  ·cases hl
 ·simp only [hlk] at hl hl'
  split at hl
  ·rename_i he;split at hl'
   ·rename_i he';rw [← he, ← he']
   ·exact absurd rfl hl'
  ·exact absurd rfl hl
 ·simp only [hlk] at hl
  split at hl
  ·rename_i he;subst he
   rw [FW] at hb;exact .inl (wZ b hb)
  ·exact absurd rfl hl
 ·rw [z7 b (Nat.le_trans hst.size hb)];exact hg'.fresh b hb
 ·exact⟨by rw [FX];exact hres.1,hres.2⟩
end Go.Ab
end
section
namespace Go.Ab
open Go.Proofs
attribute [local congr] ACall.congr
set_option maxRecDepth 10000
set_option maxHeartbeats 8000000
def jF (A o:List Int)(f:Nat→Int):Nat→List Int
 |0=>A
 |j+1=>(jF A o f j).set (o.getD j 0).toNat (f j)
theorem fX {A o:List Int} {f:Nat→Int} :∀ {j:Nat},(jF A o f j).length=A.length
 |0=>rfl
 |j+1=>by rw [jF,List.length_set,fX]
def mh (A o:List Int)(left:Int)(c:Nat)(j:Nat):List Int:=jF A o (fun j=>if j=0 then left else (c:Int)+j - 1)j
def mj (A o:List Int)(right:Int)(c:Nat)(j:Nat):List Int:=jF A o (fun j=>if j+1<o.length then (c:Int)+j else right)j
theorem A7 {A o:List Int} {left:Int} {c:Nat} {j:Nat} :(mh A o left c j).length=A.length:=fX
theorem A8 {A o:List Int} {left:Int} {c:Nat} {j:Nat} :(mj A o left c j).length=A.length:=fX
theorem uj {A o:List Int} {f:Nat→Int} {e:Nat} :∀ {j:Nat},(∀i,i<j→(o.getD i 0).toNat≠e)→(jF A o f j).getD e 0=A.getD e 0
 |0,_=>rfl
 |j+1,h=>by
  have h1:=h j (by omega)
  rw [jF,List.getD_eq_getElem?_getD,List.getElem?_set,if_neg h1, ← List.getD_eq_getElem?_getD,uj fun i hi=>h i (by omega)]
theorem xG {A o:List Int} {f:Nat→Int} {i:Nat} (hA:(o.getD i 0).toNat<A.length):∀ {j:Nat},i<j→(∀k,k<j→(o.getD k 0).toNat=(o.getD i 0).toNat→k=i)→(jF A o f j).getD (o.getD i 0).toNat 0=f i
 |0,h,_=>by omega
 |j+1,h,hn=>by
  rw [jF,List.getD_eq_getElem?_getD,List.getElem?_set]
  by_cases e:(o.getD j 0).toNat=(o.getD i 0).toNat
  ·have:=hn j (by omega)e
   subst this
   rw [if_pos rfl,if_pos (by rw [fX];exact hA)];rfl
  ·have hji:j≠i:=fun e2=>e (by rw [e2])
   rw [if_neg e, ← List.getD_eq_getElem?_getD,xG hA (by omega)fun k hk=>hn k (by omega)]
def ff (c k:Nat):List Int:=(List.range k).map fun i:Nat=>((c+i:Nat):Int)
theorem yH {c k:Nat} :ff c (k+1)=ff c k++ [((c+k:Nat):Int)]:=by simp [ff,List.range_succ]
theorem jG {c k:Nat} :(ff c k).length=k:=by simp [ff]
def EO (left:Int)(c d j:Nat):Int:=if min j (d - 1)=0 then left else (c:Int)+(min j (d - 1):Nat) - 1
def GN (ed gp:D)(A B lo hi:List Int):List (Nat × AObj):= [(10000, .box [.d ed, .d gp, .ref 10001, .ref 10002, .ref 10003, .ref 10004]),(10001, .own 3 1 (A.map rI)),(10002, .own 3 1 (B.map rI)),(10003, .tip 3 1 (lo.map rI)),(10004, .own 3 1 (hi.map rI))]
def GO (ed gp:D)(A B lo hi:List Int):List (Nat × AObj):= [(10000, .box [.d ed, .d gp, .ref 10001, .ref 10002, .ref 10005, .ref 10006]),(10001, .own 3 1 (A.map rI)),(10002, .own 3 1 (B.map rI)),(10005, .tip 3 1 (lo.map rI)),(10006, .own 3 1 (hi.map rI))]
theorem uk (x left right:Int)(o:List Int)(ed gp:D)(A B lo hi:List Int)(ho:o.length≤100000)(hO:∀i∈o,0≤i∧i<A.length)(hB:B.length=A.length)(hlo:lo.length≤100000)(hhi:hi.length≤100000):
  Spec Tryz.prog 52 (Args [.ptr 10000 0,eN x, .d (sI o),eN left,eN right])(GN ed gp A B lo hi)
   (.d (sI (ff lo.length (o.length - 1))))(GO ed gp (mh A o left lo.length o.length)(mj B o right lo.length o.length)(lo++List.replicate (o.length - 1)x)(hi++List.replicate (o.length - 1)0)):=by
 unfold GN GO
 generalize hc:lo.length=c at*
 (refine Spec.ej (C:=T.cfg [] [])(rs:= [.t 10]) [(10005,200),(10006,201)](T.au _ _)Tryz.func52 rfl rfl Tryz.ntmps52 Tryz.results52 (by simp [AObj.isNest])(by simp [AObj.isNest])(by first|(simp [look];done)|(simp [asN];done)|(intro l hl;simp only [asN];repeat (rw [if_neg (fun e=>by subst e;simp [look] at hl)])))(by first|(simp [look];done)|(simp [asN];done)|(intro l hl;simp only [asN];repeat (rw [if_neg (fun e=>by subst e;simp [look] at hl)])))(by kernel_rfl) ?_;intro X hX hP hC aI aJ vals hA;refine⟨_,by simp,hA, ?_⟩;have af:X.P.follows .mixedOrders=true:=(by rw [hP];exact T.mixed);clear aI aJ)
 repeat' (first|fail|((first|((with_reducible (first|apply oA|apply oB));exact rfl;intro K hK)|(refine hK _ ?_;clear hK K)|((with_reducible (first|apply oG|apply oH));iterate 3 exact rfl)|((with_reducible apply oI);(iterate 2 exact rfl);intro K hK)|(with_reducible (first|apply wI|apply wJ|apply wK)));try simp only [go_sem,simprocAttr])|(show dF _ (.seq (.region 1 _ _)_)_ _;(refine gN hX 10 202 (.tip 3 1 [])(by simp only [go_sem,simprocAttr])(by simp only [go_sem,simprocAttr])(by decide)⟨3,1,by decide, .inr rfl⟩ ?_;simp only [go_sem,simprocAttr]);(refine iG hX 10000 4 10003 200 rfl rfl rfl (by first|exact .inl rfl|exact .inr rfl)(by decide)(by decide) ?_;simp only [LA.app,ASt.put,ASt.kill,subT,rmk,putM,rml,kl,AV.sub,AV.subs,AObj.sub,List.set_cons_zero,List.set_cons_succ,go_sem,simprocAttr]);(refine iG hX 10000 5 10004 201 rfl rfl rfl (by first|exact .inl rfl|exact .inr rfl)(by decide)(by decide) ?_;simp only [LA.app,ASt.put,ASt.kill,subT,rmk,putM,rml,kl,AV.sub,AV.subs,AObj.sub,List.set_cons_zero,List.set_cons_succ,go_sem,simprocAttr]))|(with_reducible (first|apply oC|apply oJ|exact oK|apply wA|apply wB|apply wC hX hC|apply wD hX hC|apply wE hX hC af|apply wF hX hC af|apply wG|apply wH|apply And.intro))|((with_reducible refine oD ?_ ?_);first|fail|kernel_rfl)|((with_reducible (first|apply oE|apply oF));(iterate 3 exact rfl);all_goals (intro h;first|(exact absurd h (by decide))|((try simp only [go_sem,simprocAttr] at h);(try with_reducible intro K hK);simp only [go_sem,simprocAttr])))|((first|((with_reducible apply wL);exact rfl)|((with_reducible apply wM);exact rfl));all_goals (try ((with_reducible intro h);first|(exact absurd h (by decide))|(try simp only [go_sem,simprocAttr] at h))))|omega|((first|fail);try simp only [go_sem,simprocAttr])|(intro h))
 Fi
 refine an (fun j:Nat=>j≤o.length)(fun j=>⟨[(0, .ptr 10000 0),(1,eN x),(2, .d (sI o)),(3,eN (EO left c o.length j)),(4,eN right),(10, .ref 202),(13, .d (sI o)),(14,eN o.length),(15,eN j)], [(10000, .box [.d ed, .d gp, .ref 10001, .ref 10002, .ref 200, .ref 201]),(10001, .own 3 1 ((mh A o left c j).map rI)),(10002, .own 3 1 ((mj B o right c j).map rI)),(200, .tip 3 1 ((lo++List.replicate (min j (o.length - 1))x).map rI)),(201, .own 3 1 ((hi++List.replicate (min j (o.length - 1))0).map rI)),(202, .tip 3 1 ((ff c (min j (o.length - 1))).map rI))]⟩)(fun j=>o.length - j)0 (by omega) ?_ ?_
 ·refine Le.of ?_ ?_<;>simp [go_sem,simprocAttr,EO,mh,mj,jF,ff]
 rintro j hj
 rcases Nat.lt_or_ge j o.length with hjl|Ka
 rotate_left
 ·have hb:decide ((j:Int)<(o.length:Int))=false:=decide_eq_false (by omega)
  obtain rfl:j=o.length:=by omega
  have hmin:min o.length (o.length - 1)=o.length - 1:=by omega
  rw [hmin]
  repeat' (first|fail|((first|((with_reducible (first|apply oA|apply oB));exact rfl;intro K hK)|(refine hK _ ?_;clear hK K)|((with_reducible (first|apply oG|apply oH));iterate 3 exact rfl)|((with_reducible apply oI);(iterate 2 exact rfl);intro K hK)|(with_reducible (first|apply wI|apply wJ|apply wK)));try simp only [go_sem,simprocAttr,hb])|fail|(with_reducible (first|apply oC|apply oJ|exact oK|apply wA|apply wB|apply wC hX hC|apply wD hX hC|apply wE hX hC af|apply wF hX hC af|apply wG|apply wH|apply And.intro))|((with_reducible refine oD ?_ ?_);first|fail|kernel_rfl)|((with_reducible (first|apply oE|apply oF));(iterate 3 exact rfl);all_goals (intro h;first|(exact absurd h (by decide))|((try simp only [go_sem,simprocAttr,hb] at h);(try with_reducible intro K hK);simp only [go_sem,simprocAttr,hb])))|((first|((with_reducible apply wL);exact rfl)|((with_reducible apply wM);exact rfl));all_goals (try ((with_reducible intro h);first|(exact absurd h (by decide))|(try simp only [go_sem,simprocAttr,hb] at h))))|omega|((first|fail);try simp only [go_sem,simprocAttr,hb])|(intro h))
 have hb:decide ((j:Int)<(o.length:Int))=true:=decide_eq_true (by omega)
 have hin:=hO _ (bt (d:=0)hjl)
 have s4:=A7 (A:=A)(o:=o)(left:=left)(c:=c)(j:=j)
 have iR:=A8 (A:=B)(o:=o)(left:=right)(c:=c)(j:=j)
 have Gj:mh A o left c (j+1)=(mh A o left c j).set (o.getD j 0).toNat (if j=0 then left else (c:Int)+j - 1):=rfl
 have A9:mj B o right c (j+1)=(mj B o right c j).set (o.getD j 0).toNat (if j+1<o.length then (c:Int)+j else right):=rfl
 have sZ:min j (o.length - 1)=j:=by omega
 have hlf:EO left c o.length j=if j=0 then left else (c:Int)+j - 1:=by unfold EO;rw [sZ]
 rw [sZ,hlf]
 generalize sR:o.getD j 0=v at hin Gj A9
 obtain⟨i,rfl⟩:∃i:Nat,v=i:=⟨v.toNat,by omega⟩
 rw [Int.toNat_natCast] at Gj A9
 generalize (if j=0 then left else (c:Int)+j - 1)=lv at Gj hlf ⊢
 by_cases hj2:j+1<o.length
 ·have aq:decide ((j:Int)+1<(o.length:Int))=true:=decide_eq_true (by omega)
  have hm2:min (j+1)(o.length - 1)=j+1:=by omega
  rw [if_pos hj2] at A9
  have Gk:EO left c o.length (j+1)=((c+j:Nat):Int):=by unfold EO;rw [hm2,if_neg (by omega)];omega
  have kr:(lo++List.replicate j x).length=c+j:=by rw [List.length_append,List.length_replicate,hc]
  have sS:(hi++List.replicate j (0:Int)).length=hi.length+j:=by rw [List.length_append,List.length_replicate]
  have JK:lo++List.replicate (j+1)x=(lo++List.replicate j x)++ [x]:=by rw [List.replicate_succ', ← List.append_assoc]
  have JL:hi++List.replicate (j+1)(0:Int)=(hi++List.replicate j 0)++ [0]:=by rw [List.replicate_succ', ← List.append_assoc]
  have qK:=jG (c:=c)(k:=j)
  have Cl:=yH (c:=c)(k:=j)
  generalize lo++List.replicate j x=Qh at kr JK
  generalize hi++List.replicate j (0:Int)=hi1 at sS JL
  generalize ff c j=gs at qK Cl
  generalize mh A o left c j=A1 at s4 Gj
  generalize mj B o right c j=B1 at iR A9
  repeat' (first|fail|((first|((with_reducible (first|apply oA|apply oB));exact rfl;intro K hK)|(refine hK _ ?_;clear hK K)|((with_reducible (first|apply oG|apply oH));iterate 3 exact rfl)|((with_reducible apply oI);(iterate 2 exact rfl);intro K hK)|(with_reducible (first|apply wI|apply wJ|apply wK)));try simp only [go_sem,simprocAttr,hb,aq,sR,s4,iR,kr,sS,qK])|(show dF _ (.seq (.region 8 _ _)_)_ _;(refine iG hX 10000 4 48 200 rfl rfl rfl (by first|exact .inl rfl|exact .inr rfl)(by decide)(by decide) ?_;simp only [LA.app,ASt.put,ASt.kill,subT,rmk,putM,rml,kl,AV.sub,AV.subs,AObj.sub,List.set_cons_zero,List.set_cons_succ,go_sem,simprocAttr,hb,aq,sR,s4,iR,kr,sS,qK]);(refine iG hX 10000 5 55 201 rfl rfl rfl (by first|exact .inl rfl|exact .inr rfl)(by decide)(by decide) ?_;simp only [LA.app,ASt.put,ASt.kill,subT,rmk,putM,rml,kl,AV.sub,AV.subs,AObj.sub,List.set_cons_zero,List.set_cons_succ,go_sem,simprocAttr,hb,aq,sR,s4,iR,kr,sS,qK]))|(show dF _ (.region 9 _ _)_ _;(refine kN hX 10 65 202 (by simp only [go_sem,simprocAttr,hb,aq,sR,s4,iR,kr,sS,qK])rfl (by first|exact .inl rfl|exact .inr rfl)(by decide) ?_;simp only [go_sem,simprocAttr,hb,aq,sR,s4,iR,kr,sS,qK]))|(with_reducible (first|apply oC|apply oJ|exact oK|apply wA|apply wB|apply wC hX hC|apply wD hX hC|apply wE hX hC af|apply wF hX hC af|apply wG|apply wH|apply And.intro))|((with_reducible refine oD ?_ ?_);first|fail|kernel_rfl)|((with_reducible (first|apply oE|apply oF));(iterate 3 exact rfl);all_goals (intro h;first|(exact absurd h (by decide))|((try simp only [go_sem,simprocAttr,hb,aq,sR,s4,iR,kr,sS,qK] at h);(try with_reducible intro K hK);simp only [go_sem,simprocAttr,hb,aq,sR,s4,iR,kr,sS,qK])))|((first|((with_reducible apply wL);exact rfl)|((with_reducible apply wM);exact rfl));all_goals (try ((with_reducible intro h);first|(exact absurd h (by decide))|(try simp only [go_sem,simprocAttr,hb,aq,sR,s4,iR,kr,sS,qK] at h))))|omega|((first|fail);try simp only [go_sem,simprocAttr,hb,aq,sR,s4,iR,kr,sS,qK])|(intro h))
  refine⟨j+1,by omega, ?_,by omega⟩
  rw [Gj,A9,hm2,JK,JL,Cl,Gk]
  refine Le.of ?_ ?_<;>simp [go_sem,simprocAttr,hb,aq,sR,s4,iR,kr,sS,qK,rI]
 ·have aq:decide ((j:Int)+1<(o.length:Int))=false:=decide_eq_false (by omega)
  have hm2:min (j+1)(o.length - 1)=j:=by omega
  have Gk:EO left c o.length (j+1)=EO left c o.length j:=by unfold EO;rw [hm2,sZ]
  rw [if_neg hj2] at A9
  generalize mh A o left c j=A1 at s4 Gj
  generalize mj B o right c j=B1 at iR A9
  repeat' (first|fail|((first|((with_reducible (first|apply oA|apply oB));exact rfl;intro K hK)|(refine hK _ ?_;clear hK K)|((with_reducible (first|apply oG|apply oH));iterate 3 exact rfl)|((with_reducible apply oI);(iterate 2 exact rfl);intro K hK)|(with_reducible (first|apply wI|apply wJ|apply wK)));try simp only [go_sem,simprocAttr,hb,aq,sR,s4,iR])|fail|(with_reducible (first|apply oC|apply oJ|exact oK|apply wA|apply wB|apply wC hX hC|apply wD hX hC|apply wE hX hC af|apply wF hX hC af|apply wG|apply wH|apply And.intro))|((with_reducible refine oD ?_ ?_);first|fail|kernel_rfl)|((with_reducible (first|apply oE|apply oF));(iterate 3 exact rfl);all_goals (intro h;first|(exact absurd h (by decide))|((try simp only [go_sem,simprocAttr,hb,aq,sR,s4,iR] at h);(try with_reducible intro K hK);simp only [go_sem,simprocAttr,hb,aq,sR,s4,iR])))|((first|((with_reducible apply wL);exact rfl)|((with_reducible apply wM);exact rfl));all_goals (try ((with_reducible intro h);first|(exact absurd h (by decide))|(try simp only [go_sem,simprocAttr,hb,aq,sR,s4,iR] at h))))|omega|((first|fail);try simp only [go_sem,simprocAttr,hb,aq,sR,s4,iR])|(intro h))
  refine⟨j+1,by omega, ?_,by omega⟩
  rw [Gj,A9,hm2,Gk,hlf]
  refine Le.of ?_ ?_<;>simp [go_sem,simprocAttr,hb,aq,sR,s4,iR,rI]
end Go.Ab
end
section
namespace Go.Ab
open Go.Proofs
attribute [local congr] ACall.congr
set_option maxRecDepth 10000
set_option maxHeartbeats 8000000
def k9 (A fs:List Int)(x:Int)(j:Nat):List Int:=jF A fs (fun _=>x)j
theorem o5 {A fs:List Int} {x:Int} {j:Nat} :(k9 A fs x j).length=A.length:=fX
theorem iY (l items:List Int)(a b:Nat)(h0:0<(l.take a++items++l.drop b).length)(hr:l.length≤400000)(hi:items.length≤100000):Spec Tryz.prog 54 (Args [.d (.sl 1 [[.sl 1 (List.take a (l.map rI))], [.sl 1 (items.map rI)], [.sl 1 (List.drop b (l.map rI))]])]) [](.d (sI (l.take a++items++l.drop b))) []:=by
 have hf: [l.take a,items,l.drop b].flatten=l.take a++items++l.drop b:=by simp
 have:=dR [l.take a,items,l.drop b](by simp)(by rw [hf];exact h0)(by rw [hf];simp;omega)
 rw [hf] at this
 simpa only [vL,List.map_cons,List.map_nil,sI,List.map_take,List.map_drop] using this
theorem vB (x:Int)(o W G A B lo hi:List Int)(a b:Nat)(hab:a<b)(Qi:b<G.length)(Qj:b≤W.length)(hG:G.length≤100000)(hW:W.length≤100000)(hf:∀f∈(G.take b).drop (a+1),0≤f∧f<hi.length)
  (ho:o.length≤100000)(hO:∀i∈o,0≤i∧i<A.length)(hB:B.length=A.length)(hlo:lo.length≤100000)(hhi:hi.length≤100000):
  Spec Tryz.prog 56 (Args [.ptr 10000 0,eN x, .d (sI o),eN a,eN b])(GN (sI W)(sI G)A B lo hi)(.tup [])
   (GO (sI (if o= [] then W else W.take a++o++W.drop b))(sI (G.take (a+1)++ff lo.length (o.length - 1)++G.drop b))(mh A o (G.getD a 0)lo.length o.length)(mj B o (G.getD b 0)lo.length o.length)(lo++List.replicate (o.length - 1)x)(k9 hi ((G.take b).drop (a+1))x ((G.take b).drop (a+1)).length++List.replicate (o.length - 1)0)):=by
 have uG:List.drop (a+1)(List.take b (List.map rI G))=((G.take b).drop (a+1)).map rI:=by rw [List.map_drop,List.map_take]
 have hfl:((G.take b).drop (a+1)).length≤100000:=by simp;omega
 generalize (G.take b).drop (a+1)=fs at uG hf hfl ⊢
 have s5:List.take G.length (List.map rI G)=List.map rI G:=List.take_of_length_le (by simp)
 have ot:List.take W.length (List.map rI W)=List.map rI W:=List.take_of_length_le (by simp)
 have hmn:min ((a:Int)+1)(b:Int)=((a+1:Nat):Int):=by omega
 have Dj:=uk x (G.getD a 0)(G.getD b 0)o (sI W)(sI G)A B lo (k9 hi fs x fs.length)ho hO hB hlo (by rw [o5];exact hhi)
 have My:=iY G (ff lo.length (o.length - 1))(a+1)b (by simp;omega)(by omega)(by rw [jG];omega)
 have Nv:=fun (h:o≠ [])=>iY W o a b (by have:=List.length_pos_iff.2 h;simp;omega)(by omega)(by omega)
 generalize hg:ff lo.length (o.length - 1)=gs at Dj My
 unfold GN GO at Dj ⊢
 (refine Spec.ej (C:=T.cfg [] [])(rs:= []) [(10005,300),(10006,301)](T.au _ _)Tryz.func56 rfl rfl Tryz.ntmps56 Tryz.results56 (by simp [AObj.isNest])(by simp [AObj.isNest])(by first|(simp [look];done)|(simp [asN];done)|(intro l hl;simp only [asN];repeat (rw [if_neg (fun e=>by subst e;simp [look] at hl)])))(by first|(simp [look];done)|(simp [asN];done)|(intro l hl;simp only [asN];repeat (rw [if_neg (fun e=>by subst e;simp [look] at hl)])))(by kernel_rfl) ?_;intro X hX hP hC aI aJ vals hA;refine⟨_,by simp,hA, ?_⟩;have af:X.P.follows .mixedOrders=true:=(by rw [hP];exact T.mixed);clear aI aJ)
 repeat' (first|fail|((first|((with_reducible (first|apply oA|apply oB));exact rfl;intro K hK)|(refine hK _ ?_;clear hK K)|((with_reducible (first|apply oG|apply oH));iterate 3 exact rfl)|((with_reducible apply oI);(iterate 2 exact rfl);intro K hK)|(with_reducible (first|apply wI|apply wJ|apply wK)));try simp only [go_sem,simprocAttr,hmn,uG])|fail|(with_reducible (first|apply oC|apply oJ|exact oK|apply wA|apply wB|apply wC hX hC|apply wD hX hC|apply wE hX hC af|apply wF hX hC af|apply wG|apply wH|apply And.intro))|((with_reducible refine oD ?_ ?_);first|fail|kernel_rfl)|((with_reducible (first|apply oE|apply oF));(iterate 3 exact rfl);all_goals (intro h;first|(exact absurd h (by decide))|((try simp only [go_sem,simprocAttr,hmn,uG] at h);(try with_reducible intro K hK);simp only [go_sem,simprocAttr,hmn,uG])))|((first|((with_reducible apply wL);exact rfl)|((with_reducible apply wM);exact rfl));all_goals (try ((with_reducible intro h);first|(exact absurd h (by decide))|(try simp only [go_sem,simprocAttr,hmn,uG] at h))))|omega|((first|fail);try simp only [go_sem,simprocAttr,hmn,uG])|(intro h))
 refine an (fun j:Nat=>j≤fs.length)(fun j=>⟨[(0, .ptr 10000 0),(1,eN x),(2, .d (sI o)),(3,eN a),(4,eN b),(24, .d (sI fs)),(25,eN fs.length),(26,eN j)], [(10000, .box [.d (sI W), .d (sI G), .ref 10001, .ref 10002, .ref 10003, .ref 10004]),(10001, .own 3 1 (A.map rI)),(10002, .own 3 1 (B.map rI)),(10003, .tip 3 1 (lo.map rI)),(10004, .own 3 1 ((k9 hi fs x j).map rI))]⟩)(fun j=>fs.length - j)0 (by omega) ?_ ?_
 ·refine Le.of ?_ ?_<;>simp [go_sem,simprocAttr,k9,jF]
 rintro j hj
 rcases Nat.lt_or_ge j fs.length with hjl|Ka
 ·have hb:decide ((j:Int)<(fs.length:Int))=true:=decide_eq_true (by omega)
  have hin:=hf _ (bt (d:=0)hjl)
  have sS:=o5 (A:=hi)(fs:=fs)(x:=x)(j:=j)
  have Kg:k9 hi fs x (j+1)=(k9 hi fs x j).set (fs.getD j 0).toNat x:=rfl
  generalize sR:fs.getD j 0=v at hin Kg
  obtain⟨i,rfl⟩:∃i:Nat,v=i:=⟨v.toNat,by omega⟩
  rw [Int.toNat_natCast] at Kg
  generalize k9 hi fs x j=H1 at sS Kg
  repeat' (first|fail|((first|((with_reducible (first|apply oA|apply oB));exact rfl;intro K hK)|(refine hK _ ?_;clear hK K)|((with_reducible (first|apply oG|apply oH));iterate 3 exact rfl)|((with_reducible apply oI);(iterate 2 exact rfl);intro K hK)|(with_reducible (first|apply wI|apply wJ|apply wK)));try simp only [go_sem,simprocAttr,hb,sR,sS])|fail|(with_reducible (first|apply oC|apply oJ|exact oK|apply wA|apply wB|apply wC hX hC|apply wD hX hC|apply wE hX hC af|apply wF hX hC af|apply wG|apply wH|apply And.intro))|((with_reducible refine oD ?_ ?_);first|fail|kernel_rfl)|((with_reducible (first|apply oE|apply oF));(iterate 3 exact rfl);all_goals (intro h;first|(exact absurd h (by decide))|((try simp only [go_sem,simprocAttr,hb,sR,sS] at h);(try with_reducible intro K hK);simp only [go_sem,simprocAttr,hb,sR,sS])))|((first|((with_reducible apply wL);exact rfl)|((with_reducible apply wM);exact rfl));all_goals (try ((with_reducible intro h);first|(exact absurd h (by decide))|(try simp only [go_sem,simprocAttr,hb,sR,sS] at h))))|omega|((first|fail);try simp only [go_sem,simprocAttr,hb,sR,sS])|(intro h))
  refine⟨j+1,by omega, ?_,by omega⟩
  rw [Kg]
  refine Le.of ?_ ?_<;>simp [go_sem,simprocAttr,hb,sR,sS,rI]
 have hb:decide ((j:Int)<(fs.length:Int))=false:=decide_eq_false (by omega)
 obtain rfl:j=fs.length:=by omega
 have qj:((a:Int)+1).toNat=a+1:=by omega
 by_cases hne:o= []
 ·have aq:decide ((o.length:Int)=0)=true:=decide_eq_true (by rw [hne];rfl)
  repeat' (first|fail|((first|((with_reducible (first|apply oA|apply oB));exact rfl;intro K hK)|(refine hK _ ?_;clear hK K)|((with_reducible (first|apply oG|apply oH));iterate 3 exact rfl)|((with_reducible apply oI);(iterate 2 exact rfl);intro K hK)|(with_reducible (first|apply wI|apply wJ|apply wK)));try simp only [go_sem,simprocAttr,hb,aq,if_pos hne,qj,s5,ot])|fail|(with_reducible (first|apply oC|apply oJ|exact oK|apply wA|apply wB|apply wC hX hC|apply wD hX hC|apply wE hX hC af|apply wF hX hC af|apply wG|apply wH|apply And.intro))|((with_reducible refine oD ?_ ?_);first|fail|kernel_rfl)|((with_reducible (first|apply oE|apply oF));(iterate 3 exact rfl);all_goals (intro h;first|(exact absurd h (by decide))|((try simp only [go_sem,simprocAttr,hb,aq,if_pos hne,qj,s5,ot] at h);(try with_reducible intro K hK);simp only [go_sem,simprocAttr,hb,aq,if_pos hne,qj,s5,ot])))|((first|((with_reducible apply wL);exact rfl)|((with_reducible apply wM);exact rfl));all_goals (try ((with_reducible intro h);first|(exact absurd h (by decide))|(try simp only [go_sem,simprocAttr,hb,aq,if_pos hne,qj,s5,ot] at h))))|omega|((first|first|(refine aA hX hC hP [(10000,10000),(10001,10001),(10002,10002),(10003,10003),(10004,10004),(10005,300),(10006,301)](Dj)rfl rfl rfl ?_ ?_ ?_ ?_ ?_ ?_ ?_ ?_ ?_ ?_ ?_ ?_ ?_ ?_;(focus (simp only [go_sem,simprocAttr,hb,aq,if_pos hne,qj,s5,ot];done));(iterate 12 (focus (simp [go_sem,simprocAttr,hb,aq,if_pos hne,qj,s5,ot];done)));simp only [go_sem,simprocAttr,hb,aq,if_pos hne,qj,s5,ot,List.map_cons,List.map_nil])|(refine bH hX hC hP (My)rfl rfl rfl ?_ ?_ rfl ?_;iterate 2 (focus (simp only [go_sem,simprocAttr,hb,aq,if_pos hne,qj,s5,ot];done)))|(refine bH hX hC hP (Nv hne)rfl rfl rfl ?_ ?_ rfl ?_;iterate 2 (focus (simp only [go_sem,simprocAttr,hb,aq,if_pos hne,qj,s5,ot];done))));try simp only [go_sem,simprocAttr,hb,aq,if_pos hne,qj,s5,ot])|(intro h))
  all_goals (first|rfl|(simp only [go_sem,simprocAttr,hb,aq,if_pos hne,qj,s5,ot];done))
 ·have aq:decide ((o.length:Int)=0)=false:=decide_eq_false (by have:=List.length_pos_iff.2 hne;omega)
  repeat' (first|fail|((first|((with_reducible (first|apply oA|apply oB));exact rfl;intro K hK)|(refine hK _ ?_;clear hK K)|((with_reducible (first|apply oG|apply oH));iterate 3 exact rfl)|((with_reducible apply oI);(iterate 2 exact rfl);intro K hK)|(with_reducible (first|apply wI|apply wJ|apply wK)));try simp only [go_sem,simprocAttr,hb,aq,if_neg hne,qj,s5,ot])|fail|(with_reducible (first|apply oC|apply oJ|exact oK|apply wA|apply wB|apply wC hX hC|apply wD hX hC|apply wE hX hC af|apply wF hX hC af|apply wG|apply wH|apply And.intro))|((with_reducible refine oD ?_ ?_);first|fail|kernel_rfl)|((with_reducible (first|apply oE|apply oF));(iterate 3 exact rfl);all_goals (intro h;first|(exact absurd h (by decide))|((try simp only [go_sem,simprocAttr,hb,aq,if_neg hne,qj,s5,ot] at h);(try with_reducible intro K hK);simp only [go_sem,simprocAttr,hb,aq,if_neg hne,qj,s5,ot])))|((first|((with_reducible apply wL);exact rfl)|((with_reducible apply wM);exact rfl));all_goals (try ((with_reducible intro h);first|(exact absurd h (by decide))|(try simp only [go_sem,simprocAttr,hb,aq,if_neg hne,qj,s5,ot] at h))))|omega|((first|first|(refine aA hX hC hP [(10000,10000),(10001,10001),(10002,10002),(10003,10003),(10004,10004),(10005,300),(10006,301)](Dj)rfl rfl rfl ?_ ?_ ?_ ?_ ?_ ?_ ?_ ?_ ?_ ?_ ?_ ?_ ?_ ?_;(focus (simp only [go_sem,simprocAttr,hb,aq,if_neg hne,qj,s5,ot];done));(iterate 12 (focus (simp [go_sem,simprocAttr,hb,aq,if_neg hne,qj,s5,ot];done)));simp only [go_sem,simprocAttr,hb,aq,if_neg hne,qj,s5,ot,List.map_cons,List.map_nil])|(refine bH hX hC hP (My)rfl rfl rfl ?_ ?_ rfl ?_;iterate 2 (focus (simp only [go_sem,simprocAttr,hb,aq,if_neg hne,qj,s5,ot];done)))|(refine bH hX hC hP (Nv hne)rfl rfl rfl ?_ ?_ rfl ?_;iterate 2 (focus (simp only [go_sem,simprocAttr,hb,aq,if_neg hne,qj,s5,ot];done))));try simp only [go_sem,simprocAttr,hb,aq,if_neg hne,qj,s5,ot])|(intro h))
  all_goals (first|rfl|(simp only [go_sem,simprocAttr,hb,aq,if_neg hne,qj,s5,ot];done))
end Go.Ab
end
section
namespace Go.Ab
open Go.Proofs
set_option maxRecDepth 10000
set_option linter.unusedSectionVars false
def arr (f:Int→Int)(m:Nat):List Int:=(List.range m).map fun i:Nat=>f (i:Int)
theorem c9 {f:Int→Int} {m:Nat} :(arr f m).length=m:=by simp [arr]
theorem o6 {f:Int→Int} {m i:Nat} (h:i<m):(arr f m).getD i 0=f (i:Int):=by
 simp [arr,List.getD_eq_getElem?_getD,List.getElem?_range h]
theorem Dk {l m:List Int} (hl:l.length=m.length)(h:∀i,i<l.length→l.getD i 0=m.getD i 0):l=m:=by
 refine List.ext_getElem? fun i=> ?_
 by_cases hi:i<l.length
 ·have:=h i hi
  rw [List.getD_eq_getElem?_getD,List.getD_eq_getElem?_getD,List.getElem?_eq_getElem hi,List.getElem?_eq_getElem (by omega)] at this
  rw [List.getElem?_eq_getElem hi,List.getElem?_eq_getElem (by omega)]
  simpa using this
 ·rw [List.getElem?_eq_none (by omega),List.getElem?_eq_none (by omega)]
theorem oc {u v:List Int} {e:Int} :(u++e::v).getD u.length 0=e:=by
 rw [List.getD_eq_getElem?_getD,List.getElem?_append_right (Nat.le_refl _)];simp
section
variable {g:Gr} {p:Pl} (h:cC g p)
include h
theorem iO {k:Nat} (hk:k<g.n.toNat) {e:Int} (he:e∈bL p (az p k)):(0≤e∧e<g.es.length)∧ql g e=az p k:=by
 have hx:=aN h.2.1 hk
 exact cD.1 ((bS h.2.1 hx.1 hx.2).mem_iff.1 he)
theorem Dl {k:Nat} (hk:k<g.n.toNat):(bL p (az p k)).Nodup:=by
 have hx:=aN h.2.1 hk
 exact (bS h.2.1 hx.1 hx.2).nodup_iff.2 cV
theorem zQ {k:Nat} (hk:k<g.n.toNat) {e:Int} (he:0≤e∧e<g.es.length)(ht:ql g e=az p k):∃u v,bL p (az p k)=u++e::v:=by
 have hx:=aN h.2.1 hk
 exact List.append_of_mem ((bS h.2.1 hx.1 hx.2).mem_iff.2 (cD.2⟨he,ht⟩))
theorem um {k:Nat} (hk:k<g.n.toNat) {f F F':Int→Int} {v:Nat→Int} (hin:∀u w e,bL p (az p k)=u++e::w→F' e=v u.length)(hout:∀e:Int,ql g e≠az p k→F' e=F e):
  jF (arr F g.es.length)(bL p (az p k))v (bL p (az p k)).length=arr F' g.es.length:=by
 refine Dk (by rw [fX,c9,c9])fun i hi=> ?_
 rw [fX,c9] at hi
 rw [o6 hi]
 by_cases ht:ql g (i:Int)=az p k
 ·obtain⟨u,w,Dm⟩:=zQ h hk (e:=(i:Int))(by omega)ht
  have e1:(bL p (az p k)).getD u.length 0=(i:Int):=by rw [Dm];exact oc
  have:=xG (A:=arr F g.es.length)(o:=bL p (az p k))(f:=v)(i:=u.length)(by rw [e1,c9];simpa using hi)(j:=(bL p (az p k)).length)(by rw [Dm];simp)fun q hq e2=>by
   rw [e1,Int.toNat_natCast] at e2
   have h2:=iO h hk (bt (d:=0)hq)
   have h3:(bL p (az p k)).getD q 0=(i:Int):=by omega
   have bY:=Dl h hk
   have:(bL p (az p k))[q]'hq=(bL p (az p k))[u.length]'(by rw [Dm];simp):=by
    rw [List.getD_eq_getElem?_getD,List.getElem?_eq_getElem hq] at h3
    rw [List.getD_eq_getElem?_getD,List.getElem?_eq_getElem (by rw [Dm];simp)] at e1
    simp only [Option.getD_some] at h3 e1
    rw [h3,e1]
   exact (List.getElem_inj bY).1 this
  rw [e1,Int.toNat_natCast] at this
  rw [this,hin u w (i:Int)Dm]
 ·rw [uj fun q hq e2=> ?_,o6 hi,hout _ ht]
  have h2:=iO h hk (bt (d:=0)hq)
  exact ht (by rw [← h2.2];congr 1;omega)
theorem JM {k:Nat} (hk:k<g.n.toNat):mh (arr (LK g p k)g.es.length)(bL p (az p k))(if k=0 then 0 else LK g p k (eA g p (az p k)))(cK p k)(bL p (az p k)).length=arr (LK g p (k+1))g.es.length:=by
 refine um (f:=fun _=>0)h hk (fun u w e Dm=> ?_)fun e he=>by rw [LK,if_neg he]
 obtain⟨a,b⟩:=mQ h hk Dm
 rw [LK,if_pos a,b]
theorem JN {r:Int} {k:Nat} (hk:k<g.n.toNat):mj (arr (RK g p r k)g.es.length)(bL p (az p k))(if k=0 then r else RK g p r k (mg g p (az p k)))(cK p k)(bL p (az p k)).length=arr (RK g p r (k+1))g.es.length:=by
 refine um (f:=fun _=>0)h hk (fun u w e Dm=> ?_)fun e he=>by rw [RK,if_neg he]
 obtain⟨a,b⟩:=mQ h hk Dm
 rw [RK,if_pos a,b]
theorem xH (hI:kB g=true):∀ {k:Nat},k<g.n.toNat→∀t∈(fK g p k).row,0≤t.1
 |0,_,t,ht=>by cases ht
 |k+1,hk,t,ht=>by
  have hm:=aF h.1
  have ih:=xH hI (k:=k)(by omega)
  obtain⟨hi,_,_⟩:=dI hm h.2.1 (k:=k)(by omega)fun j hj=>h.2.2 j (by omega)
  obtain⟨A,X,C,hr,_,_,_,hs⟩:=iu hm hi.aY (h.2.2 k (by omega))
  have hO:bL p (az p k)≠ []:=fun h1=>by
   have:=(ez h hI (aN h.2.1 (show k<g.n.toNat by omega))).1 h1
   have:=dL h.2.1 (show k<g.n.toNat by omega)(by omega)this
   omega
  have ht:t∈(aB g (fK g p k)(az p k)(bL p (az p k))).2.row:=ht
  rw [hs] at ht
  simp only [List.mem_append] at ht
  rcases ht with (ht|ht)|ht
  ·exact ih t (by rw [hr];simp [ht])
  ·unfold aL at ht
   rw [if_neg hO] at ht
   obtain⟨i,hi2,rfl⟩:=List.mem_map.1 ht
   exact (iO h (show k<g.n.toNat by omega)hi2).1.1
  ·exact ih t (by rw [hr];simp [ht])
theorem yI (hI:kB g=true) {k:Nat} (hk:k<g.n.toNat):iX (fe g p k)=fe g p k:=by
 have hm:=aF h.1
 obtain⟨hi,_,_⟩:=dI hm h.2.1 (k:=k)(by omega)fun j hj=>h.2.2 j (by omega)
 obtain⟨A,X,C,hr,_,_,_,hs⟩:=iu hm hi.aY (h.2.2 k hk)
 have e:fe g p k=X:=by unfold fe;rw [hs]
 rw [e]
 refine List.filter_eq_self.2 fun t ht=>decide_eq_true (xH h hI hk t ?_)
 rw [hr];simp [ht]
theorem Dn (hI:kB g=true) {k:Nat} (hk:k<g.n.toNat):cH g p (az p k)=(fe g p k).map (·.1):=by
 unfold cH
 rw [nR h.2.1 (Nat.le_refl _)hk,yI h hI hk]
end
section
variable (g:Gr)(p:Pl)
def fB:Nat→List Int
 |0=>bL p (az p 0)
 |j+1=>if bL p (az p (j+1))= [] then fB j else (fB j).take (dx (fB j)(eA g p (az p (j+1)))).toNat++bL p (az p (j+1))++(fB j).drop ((dx (fB j)(eA g p (az p (j+1)))).toNat+(cH g p (az p (j+1))).length)
def ld:Nat→List Int
 |0=> [0]++ff 1 ((bL p (az p 0)).length - 1)++ [-1]
 |j+1=>(ld j).take ((dx (fB g p j)(eA g p (az p (j+1)))).toNat+1)++ff (cK p (j+1))((bL p (az p (j+1))).length - 1)++(ld j).drop ((dx (fB g p j)(eA g p (az p (j+1)))).toNat+(cH g p (az p (j+1))).length)
def sV (k:Nat):List Int:=((cH g p (az p k)).dropLast).map (RK g p (-1)k)
def xS:Nat→List Int
 |0=> [az p (g.n.toNat - 1)]
 |k+1=>k9 (xS k)(sV g p k)(az p k)(sV g p k).length++List.replicate ((bL p (az p k)).length - 1)0
end
section
variable {g:Gr} {p:Pl}
theorem qo:∀ {k:Nat},(xS g p k).length=cK p k
 |0=>rfl
 |k+1=>by rw [xS,List.length_append,o5,List.length_replicate,qo,cK]
variable (h:cC g p)
include h
theorem Dp {A I C:List Int} (bY:(A++I++C).Nodup)(hI:I≠ []):dx (A++I++C)(I.headD 0)=(A.length:Int):=by
 obtain⟨a,u,rfl⟩:=iD hI
 obtain⟨k,h1,h2,h3⟩:=dw (l:=A++a::u++C)(x:=a)(by simp)
 have e:A++a::u++C=A++a::(u++C):=by simp
 have h4:(A++a::u++C).getD A.length 0=a:=by rw [e];exact oc
 show dx _ a=_
 rw [h1]
 have hA:A.length<(A++a::u++C).length:=by simp
 rw [List.getD_eq_getElem?_getD,List.getElem?_eq_getElem h2] at h3
 rw [List.getD_eq_getElem?_getD,List.getElem?_eq_getElem hA] at h4
 simp only [Option.getD_some] at h3 h4
 have:=(List.getElem_inj bY (h₀:=h2)(h₁:=hA)).1 (h3.trans h4.symm)
 omega
theorem Dq {k:Nat} (hk:k≤g.n.toNat):(WK g p k).Nodup:=by
 have hm:=aF h.1
 obtain⟨hi,_,_⟩:=dI hm h.2.1 (k:=k)(by omega)fun j hj=>h.2.2 j (by omega)
 exact Dh hi
theorem Dr {r:Int} {k:Nat} (hk:k<g.n.toNat)(hO:bL p (az p k)≠ []) {j:Nat} (h1:k+1≤j)(h2:j≤g.n.toNat):(bL p (az p k)).map (RK g p r j)=ff (cK p k)((bL p (az p k)).length - 1)++ [if k=0 then r else RK g p r k (mg g p (az p k))]:=by
 obtain⟨v,b,hv⟩:=cO hO
 have e1:((bL p (az p k)).length - 1)=v.length:=by rw [hv];simp
 rw [e1]
 conv=>lhs;rw [hv]
 rw [List.map_append,List.map_cons,List.map_nil,sO h hk hv h1 h2]
 congr 1
 refine List.ext_getElem? fun i=> ?_
 by_cases hi:i<v.length
 ·rw [List.getElem?_map,List.getElem?_eq_getElem hi,ff,List.getElem?_map,List.getElem?_range hi,Option.map_some,Option.map_some]
  have hs:v=v.take i++v[i]::v.drop (i+1):=by simp
  obtain⟨c,w,Mz⟩:∃c w,v.drop (i+1)++ [b]=c::w:=by
   cases hd:v.drop (i+1)with
   |nil=>exact⟨b, [],rfl⟩
   |cons c w=>exact⟨c,w++ [b],rfl⟩
  have h3:bL p (az p k)=v.take i++v[i]::c::w:=by
   rw [hv]
   conv=>lhs;rw [hs]
   rw [List.append_assoc,List.cons_append,Mz]
  rw [iN h hk h3 h1 h2,List.length_take,Nat.min_eq_left (by omega)]
  congr 1
 ·rw [List.getElem?_eq_none (by simpa using hi),List.getElem?_eq_none (by rw [jG];omega)]
theorem vC (hI:kB g=true):∀ {j:Nat},j+1<g.n.toNat→fB g p j=WK g p (j+1)∧ld g p j=0::(WK g p (j+1)).map (RK g p (-1)(j+1))∧WK g p (j+1)≠ []
 |0,hj=>by
  have hO:bL p (az p 0)≠ []:=fun h1=>by
   have:=(ez h hI (aN h.2.1 (show 0<g.n.toNat by omega))).1 h1
   have:=dL h.2.1 (show 0<g.n.toNat by omega)(by omega)this
   omega
  refine⟨(sP h (by omega)).symm, ?_,by rw [sP h (by omega)];exact hO⟩
  rw [sP h (by omega),Dr h (by omega)hO (Nat.le_refl _)(by omega),if_pos rfl]
  rfl
 |j+1,hj=>by
  obtain⟨i1,i2,i3⟩:=vC hI (j:=j)(by omega)
  obtain⟨A,C,e1,hne,e2⟩:=lN h (k:=j+1)(by omega)(by omega)
  have hO:bL p (az p (j+1))≠ []:=fun h1=>by
   have:=(ez h hI (aN h.2.1 (show j+1<g.n.toNat by omega))).1 h1
   have:=dL h.2.1 (show j+1<g.n.toNat by omega)(by omega)this
   omega
  have bY:=Dq h (k:=j+1)(by omega)
  have GL:dx (WK g p (j+1))(eA g p (az p (j+1)))=(A.length:Int):=by
   rw [e1] at bY ⊢
   exact Dp h bY hne
  have zP:∀a∈WK g p (j+1),RK g p (-1)(j+1+1)a=RK g p (-1)(j+1)a:=fun a ha=>by
   obtain⟨i,hi,e⟩:=qn h (by omega)ha
   rw [gB h (by omega)e (j:=j+1+1)(by omega)(by omega),gB h (by omega)e (j:=j+1)(by omega)(by omega)]
  refine⟨?_, ?_,by rw [e2];simp [hO]⟩
  ·rw [fB,if_neg hO,i1,GL,Int.toNat_natCast,e2]
   congr 1
   ·congr 1
    rw [e1,List.append_assoc,List.take_left]
   ·rw [e1, ← List.length_append,List.drop_left]
  ·rw [ld,i1,i2,GL,Int.toNat_natCast,List.take_succ_cons,e2]
   have e3:(WK g p (j+1)).map (RK g p (-1)(j+1))=A.map (RK g p (-1)(j+1))++((cH g p (az p (j+1))).map (RK g p (-1)(j+1))++C.map (RK g p (-1)(j+1))):=by rw [e1];simp
   have hA:A.map (RK g p (-1)(j+1+1))=A.map (RK g p (-1)(j+1)):=List.map_congr_left fun a ha=>zP a (by rw [e1];simp [ha])
   have hC:C.map (RK g p (-1)(j+1+1))=C.map (RK g p (-1)(j+1)):=List.map_congr_left fun a ha=>zP a (by rw [e1];simp [ha])
   rw [List.map_append,List.map_append,hA,hC,Dr h (by omega)hO (Nat.le_refl _)(by omega),if_neg (by omega)]
   rw [e3,List.take_append_of_le_length (by simp),List.take_of_length_le (by simp)]
   obtain⟨u,a,hu⟩:=cO hne
   have hl:(cH g p (az p (j+1))).length=u.length+1:=by rw [hu];simp
   rw [hl,show A.length+(u.length+1)=(A.length+u.length)+1 by omega,List.drop_succ_cons]
   have e4:(A.map (RK g p (-1)(j+1))++((cH g p (az p (j+1))).map (RK g p (-1)(j+1))++C.map (RK g p (-1)(j+1)))).drop (A.length+u.length)=RK g p (-1)(j+1)(mg g p (az p (j+1)))::C.map (RK g p (-1)(j+1)):=by
    rw [k7 h hu,hu]
    have:A.map (RK g p (-1)(j+1))++((u++ [a]).map (RK g p (-1)(j+1))++C.map (RK g p (-1)(j+1)))=(A++u).map (RK g p (-1)(j+1))++(RK g p (-1)(j+1)a::C.map (RK g p (-1)(j+1))):=by simp
    rw [this,show A.length+u.length=((A++u).map (RK g p (-1)(j+1))).length by simp,List.drop_left]
   rw [e4]
   simp
theorem fC {A B:List Int} (h:B≠ []):(A++B).dropLast=A++B.dropLast:=by
 obtain⟨u,a,rfl⟩:=cO h
 rw [← List.append_assoc,List.dropLast_concat,List.dropLast_concat]
theorem zR (hI:kB g=true):∀ {k:Nat},1≤k→k<g.n.toNat→∀a∈(WK g p k).dropLast,1≤RK g p (-1)k a∧RK g p (-1)k a<cK p k
 |0,h1,_,_,_=>by omega
 |k+1,_,hk,a,ha=>by
  have hO:bL p (az p k)≠ []:=fun h1=>by
   have:=(ez h hI (aN h.2.1 (show k<g.n.toNat by omega))).1 h1
   have:=dL h.2.1 (show k<g.n.toNat by omega)(by omega)this
   omega
  have hc:cK p (k+1)=cK p k+((bL p (az p k)).length - 1):=rfl
  have Hp:0<cK p k:=o3
  have hnew:∀b∈(bL p (az p k)).dropLast,1≤RK g p (-1)(k+1)b∧RK g p (-1)(k+1)b<cK p (k+1):=fun b hb=>by
   obtain⟨v,c,hv⟩:=cO hO
   rw [hv,List.dropLast_concat] at hb
   obtain⟨u,w,Dm⟩:=List.append_of_mem hb
   obtain⟨c',w',Mz⟩:∃c' w',w++ [c]=c'::w':=by
    cases w with
    |nil=>exact⟨c, [],rfl⟩
    |cons d w=>exact⟨d,w++ [c],rfl⟩
   have h3:bL p (az p k)=u++b::c'::w':=by rw [hv,Dm, ← Mz];simp
   rw [iN h (show k<g.n.toNat by omega)h3 (Nat.le_refl _)(by omega)]
   have:(bL p (az p k)).length=u.length+(w'.length+2):=by rw [h3];simp
   omega
  by_cases h0:k=0
  ·subst h0
   rw [sP h (by omega)] at ha
   exact hnew a ha
  ·obtain⟨A,C,e1,hne,e2⟩:=lN h h0 (show k<g.n.toNat by omega)
   have ih:=zR hI (k:=k)(by omega)(by omega)
   have zP:∀a∈WK g p k,RK g p (-1)(k+1)a=RK g p (-1)k a:=fun a ha=>by
    obtain⟨i,hi,e⟩:=qn h (by omega)ha
    rw [gB h (by omega)e (j:=k+1)(by omega)(by omega),gB h (by omega)e (j:=k)(by omega)(by omega)]
   have old:∀b∈(WK g p k).dropLast,1≤RK g p (-1)(k+1)b∧RK g p (-1)(k+1)b<cK p (k+1):=fun b hb=>by
    rw [zP b ((List.dropLast_sublist _).subset hb)]
    have:=ih b hb
    omega
   rw [e1] at old zP
   rw [e2] at ha
   by_cases hC:C= []
   ·subst hC
    rw [List.append_nil] at ha old
    rw [fC h hO] at ha
    rw [fC h hne] at old
    rcases List.mem_append.1 ha with ha|ha
    ·exact old a (by simp [ha])
    ·exact hnew a ha
   ·rw [fC h hC] at ha old
    rcases List.mem_append.1 ha with ha|ha
    ·rcases List.mem_append.1 ha with ha|ha
     ·exact old a (by simp [ha])
     ·obtain⟨v,b,hv⟩:=cO hO
      rw [hv,List.mem_append,List.mem_singleton] at ha
      rcases ha with ha|rfl
      ·exact hnew a (by rw [hv,List.dropLast_concat];exact ha)
      ·obtain⟨u,c,hu⟩:=cO hne
       rw [sO h (show k<g.n.toNat by omega)hv (Nat.le_refl _)(by omega),if_neg h0,k7 h hu, ← zP c (by rw [hu];simp)]
       exact old c (by rw [hu];simp)
    ·exact old a (by simp [ha])
theorem EP (hI:kB g=true) {k:Nat} (hk:k<g.n.toNat):∀f∈sV g p k,0≤f∧f<(xS g p k).length:=by
 intro f hf
 rw [qo]
 obtain⟨a,ha,rfl⟩:=List.mem_map.1 hf
 have Pc:cH g p (az p k)≠ []:=fun h0=>by rw [h0] at ha;simp at ha
 have wg:=zM h hk Pc
 obtain⟨A,C,e1,hne,_⟩:=lN h wg hk
 have:=zR h hI (k:=k)(by omega)hk a (by
  rw [e1]
  by_cases hC:C= []
  ·subst hC;rw [List.append_nil,fC h hne];simp [ha]
  ·rw [fC h hC];simp [(List.dropLast_sublist _).subset ha])
 omega
theorem Ds (hI:kB g=true) {j:Nat} (hj:j+1<g.n.toNat):∃a:Nat,dx (fB g p j)(eA g p (az p (j+1)))=a∧0<(cH g p (az p (j+1))).length∧a+(cH g p (az p (j+1))).length≤(fB g p j).length∧
  (ld g p j).length=(fB g p j).length+1∧(ld g p j).getD a 0=LK g p (j+1)(eA g p (az p (j+1)))∧(ld g p j).getD (a+(cH g p (az p (j+1))).length)0=RK g p (-1)(j+1)(mg g p (az p (j+1)))∧
  ((ld g p j).take (a+(cH g p (az p (j+1))).length)).drop (a+1)=sV g p (j+1):=by
 obtain⟨i1,i2,i3⟩:=vC h hI hj
 obtain⟨A,C,e1,hne,e2⟩:=lN h (k:=j+1)(by omega)hj
 have bY:=Dq h (k:=j+1)(by omega)
 have GL:dx (WK g p (j+1))(eA g p (az p (j+1)))=(A.length:Int):=by
  rw [e1] at bY ⊢
  exact Dp h bY hne
 have hlk:=(yG (r:= -1)h hI (k:=j+1)(by omega)hj i3).1
 obtain⟨u,c,hu⟩:=cO hne
 obtain⟨c0,u0,DU⟩:=iD hne
 have hl:(cH g p (az p (j+1))).length=u.length+1:=by rw [hu];simp
 rw [i1,i2]
 refine⟨A.length,GL,by omega,by rw [e1];simp,by simp, ?_, ?_, ?_⟩
 ·rw [e1,bT,bT] at hlk
  have h1:=hlk.1.2
  rw [DU] at h1
  rw [o4 h DU,h1.1,e1]
  rcases List.eq_nil_or_concat A with hA|⟨A',t,hA⟩
  ·subst hA;rfl
  ·rw [List.concat_eq_append] at hA
   subst hA
   rw [cI]
   have:(0::(A'++ [t]++cH g p (az p (j+1))++C).map (RK g p (-1)(j+1)))=(0::A'.map (RK g p (-1)(j+1)))++RK g p (-1)(j+1)t::((cH g p (az p (j+1))++C).map (RK g p (-1)(j+1))):=by simp
   rw [this]
   have h2:(A'++ [t]).length=(0::A'.map (RK g p (-1)(j+1))).length:=by simp
   rw [h2];exact oc
 ·rw [k7 h hu,e1,hl]
  have:(0::(A++cH g p (az p (j+1))++C).map (RK g p (-1)(j+1)))=(0::(A++u).map (RK g p (-1)(j+1)))++RK g p (-1)(j+1)c::(C.map (RK g p (-1)(j+1))):=by rw [hu];simp
  rw [this]
  have h2:A.length+(u.length+1)=(0::(A++u).map (RK g p (-1)(j+1))).length:=by simp;omega
  rw [h2];exact oc
 ·rw [e1,hl]
  have:(0::(A++cH g p (az p (j+1))++C).map (RK g p (-1)(j+1)))=(0::A.map (RK g p (-1)(j+1)))++(u.map (RK g p (-1)(j+1))++(RK g p (-1)(j+1)c::(C.map (RK g p (-1)(j+1))))):=by rw [hu];simp
  rw [this,List.take_append,List.drop_append]
  have h2:(0::A.map (RK g p (-1)(j+1))).length=A.length+1:=by simp
  rw [h2,List.take_of_length_le (by rw [h2];omega),List.drop_of_length_le (by rw [h2];omega),h2]
  rw [show A.length+(u.length+1) - (A.length+1)=u.length by omega,Nat.sub_self,List.drop_zero,List.nil_append]
  rw [List.take_append_of_le_length (by simp),List.take_of_length_le (by simp)]
  unfold sV
  rw [hu,List.dropLast_concat]
end
end Go.Ab
end
section
namespace Go.Ab
open Go.Proofs
attribute [local congr] ACall.congr
set_option maxRecDepth 10000
set_option maxHeartbeats 8000000
def swapT (l:List It)(k:Nat):List It:=(List.range l.length).map fun p=>if p<k∨l.length - 1<p+k then l.getD (l.length - 1 - p)(0,0,0)else l.getD p (0,0,0)
def Nw (rs:List Int)(l:List It):Int:=match l.find? (fun t=>decide (t.2.2∈rs))with
 |some t=>t.2.2
 |none=>rs.headD (-1)
end Go.Ab
end
section
namespace Go.Ab
open Go.Proofs
attribute [local congr] ACall.congr
set_option maxRecDepth 10000
set_option maxHeartbeats 8000000
def Qk (b:Bool)(g:Gr)(p:Pl):List Int × List Int × Int:=
 if (bP b g p).2.1=0∧kB g=true then (C1 g p false g.n.toNat,C1 g p true g.n.toNat,0)else ([], [],1)
end Go.Ab
end
section
namespace Go.Ab
open Go.Proofs
attribute [local congr] ACall.congr
set_option maxRecDepth 10000
set_option maxHeartbeats 8000000
theorem sW {b:Bool} {g:Gr} {p:Pl} (hr:b=true↔(cr g).1=0∧bF g p)(h:cC g p):bP b g p=((ee g p g.n.toNat,kY g p),(0,0)):=by
 obtain rfl:b=true:=hr.2⟨h.1,h.2.1⟩
 unfold bP
 rw [if_neg (by simp),eS.2 h.2.2]
 rfl
theorem Pd (g:Gr)(p:Pl):∃b:Bool,(b=true↔(cr g).1=0∧bF g p):=by
 by_cases h:(cr g).1=0∧bF g p
 ·exact⟨true,by simp [h]⟩
 ·exact⟨false,by simp [h]⟩
end Go.Ab
end
