/- A part of the proof. -/
import Derived.Test.YtchjjbfhlchpfaaGreatL1P15
set_option linter.unusedSimpArgs false
set_option linter.unusedVariables false
section
namespace Go.Ab
open Go.Proofs
attribute [local congr] ACall.congr
set_option maxRecDepth 10000
set_option maxHeartbeats 8000000
theorem Ef {g:Gr} (hm:aL g=true) {f:Fr} (hi:dJ g f) (rev:Bool):tV (cU g f) (fP rev f.row)=cR g f rev:=by
 unfold tV cR
 have:(fun t:It=>decide (t.2.2∈cU g f))=fun t:It=>aq g f t.2.2:=by
  funext t
  cases h:aq g f t.2.2 with
  |true=>exact decide_eq_true ((gD hm hi).2 h)
  |false=>exact decide_eq_false fun h2=>by rw [(gD hm hi).1 h2] at h;cases h
 rw [this]
 rfl
theorem yE (row:List It):Spec Tryz.prog 62 (Args [.ref 10000]) [(10000, .own 100 3 (row.map rT))] (.tup []) [(10000, .own 100 3 ((fP false row).map rT))]:=by
 (refine Spec.intro (C:=T.cfg [] []) (rs:= []) (T.ai _ _) Tryz.func62 rfl rfl Tryz.ntmps62 Tryz.results62 (by simp [AObj.isNest]) (by simp [AObj.isNest]) (by kernel_rfl) ?_;intro X hX hP hC aH aI vals hA;refine ⟨_,by simp,hA, ?_⟩;have af:X.P.follows .mixedOrders=true:=(by rw [hP];exact T.mixed);clear aH aI)
 repeat' (first|((first|((with_reducible (first|apply oA|apply oB));exact rfl;intro K hK)|(refine hK _ ?_;clear hK K)|((with_reducible (first|apply oG|apply oH));iterate 3 exact rfl)|((with_reducible apply oI);(iterate 2 exact rfl);intro K hK)|(with_reducible (first|apply wI|apply wJ|apply wK)));try simp only [go_sem,simprocAttr,fP])|(with_reducible (first|apply oC|apply oJ|exact oK|apply wA|apply wB|apply wC hX hC|apply wD hX hC|apply wE hX hC af|apply wF hX hC af|apply wG|apply wH|apply And.intro))|((with_reducible refine oD ?_ ?_);kernel_rfl)|((with_reducible (first|apply oE|apply oF));(iterate 3 exact rfl);all_goals (intro h;first|(exact absurd h (by decide))|((try simp only [go_sem,simprocAttr,fP] at h);(try with_reducible intro K hK);simp only [go_sem,simprocAttr,fP])))|((first|((with_reducible apply wL);exact rfl)|((with_reducible apply wM);exact rfl));all_goals (try ((with_reducible intro h);first|(exact absurd h (by decide))|(try simp only [go_sem,simprocAttr,fP] at h))))|omega|(intro h))
theorem yF (row:List It) (hl:row.length≤1000000):Spec Tryz.prog 63 (Args [.ref 10000]) [(10000, .own 100 3 (row.map rT))] (.tup []) [(10000, .own 100 3 ((fP true row).map rT))]:=sO row hl
theorem tW (g:Gr) (p:Pl) (h:bK g p) (rev:Bool) (F:Nat) (HV:∀row:List It,row.length≤1000000→Spec Tryz.prog F (Args [.ref 10000]) [(10000, .own 100 3 (row.map rT))] (.tup []) [(10000, .own 100 3 ((fP rev row).map rT))]):
 Spec Tryz.prog 61 (Args [eG g, .d (.sl 1 (vI p.outs)), .fn F [] []]) [] (.d (sI (cz g p rev g.n.toNat))) []:=by
 have hm:=az h.1
 have hn:=aR hm
 (refine Spec.intro (C:=T.cfg [] []) (rs:= [.t 6]) (T.ai _ _) Tryz.func61 rfl rfl Tryz.ntmps61 Tryz.results61 (by simp [AObj.isNest]) (by simp [AObj.isNest]) (by kernel_rfl) ?_;intro X hX hP hC aH aI vals hA;refine ⟨_,by simp,hA, ?_⟩;have af:X.P.follows .mixedOrders=true:=(by rw [hP];exact T.mixed);clear aH aI)
 repeat' (first|((first|((with_reducible (first|apply oA|apply oB));exact rfl;intro K hK)|(refine hK _ ?_;clear hK K)|((with_reducible (first|apply oG|apply oH));iterate 3 exact rfl)|((with_reducible apply oI);(iterate 2 exact rfl);intro K hK)|(with_reducible (first|apply wI|apply wJ|apply wK)));try simp only [go_sem,simprocAttr])|(show dH _ (.seq (.region 3 _ _) _) _ _;(refine nc 15 0 3 rfl rfl rfl ?_;simp only [LA.app,ASt.put,ASt.kill,putM,rml,List.set_cons_zero,List.set_cons_succ,go_sem,simprocAttr]);(refine v8 hX 15 2 200 (.tip 3 1 []) rfl rfl rfl (by simp only [go_sem,simprocAttr]) (by decide) (by simp [go_sem,simprocAttr]) ⟨3,1,by decide, .inr rfl⟩ ?_;simp only [LA.app,ASt.put,ASt.kill,subT,rmk,putM,rml,kl,AV.sub,AV.subs,AObj.sub,List.set_cons_zero,List.set_cons_succ,go_sem,simprocAttr]))|(with_reducible (first|apply oC|apply oJ|exact oK|apply wA|apply wB|apply wC hX hC|apply wD hX hC|apply wE hX hC af|apply wF hX hC af|apply wG|apply wH|apply And.intro))|((with_reducible refine oD ?_ ?_);kernel_rfl)|((with_reducible (first|apply oE|apply oF));(iterate 3 exact rfl);all_goals (intro h;first|(exact absurd h (by decide))|((try simp only [go_sem,simprocAttr] at h);(try with_reducible intro K hK);simp only [go_sem,simprocAttr])))|((first|((with_reducible apply wL);exact rfl)|((with_reducible apply wM);exact rfl));all_goals (try ((with_reducible intro h);first|(exact absurd h (by decide))|(try simp only [go_sem,simprocAttr] at h))))|omega|((first|(refine mh hX hC hP [(10000,15)] (oq g (by omega) h.1 hm) rfl rfl rfl ?_ ?_ ?_ ?_ ?_ ?_ ?_ ?_ ?_ ?_ ?_ ?_ ?_ ?_;(focus (simp only [go_sem,simprocAttr];done));(iterate 12 (focus (simp [go_sem,simprocAttr];done)));simp only [go_sem,simprocAttr,List.map_cons,List.map_nil]));try simp only [go_sem,simprocAttr])|(intro h))
 have D9:List.replicate g.n.toNat [D.sc (.int .i64 0)]=(cz g p rev 0).map rI:=by rw [cz,List.map_replicate];rfl
 rw [D9]
 refine aj (fun k:Nat=>k≤g.n.toNat) (fun k=>⟨[(1, .d (.sl 1 (vI p.outs))),(2, .fn F [] []),(7, .ptr 15 0),(9, .ref 20),(22,eN g.n),(23,eN k)], [(15, .box [.d (sT (aO g p rev k).row), .d (vw g), .ref 200]),(200, .tip 3 1 ((aO g p rev k).pl.map rI)),(20, .own 3 1 ((cz g p rev k).map rI))]⟩) (fun k=>g.n.toNat - k) 0 (by omega) ?_ ?_
 ·refine Le.of ?_ ?_<;>simp [go_sem,simprocAttr,aO]
 rintro k hk
 obtain ⟨hi,fA,_,hrl⟩:=eA h rev hk
 have hmul:k*(g.es.length+1)≤64*129:=Nat.mul_le_mul (by omega) (by omega)
 rcases Nat.lt_or_ge k g.n.toNat with cn|Eu
 rotate_left
 ·have hb:decide ((k:Int)<g.n)=false:=decide_eq_false (by omega)
  obtain rfl:k=g.n.toNat:=by omega
  repeat' (first|((first|((with_reducible (first|apply oA|apply oB));exact rfl;intro K hK)|(refine hK _ ?_;clear hK K)|((with_reducible (first|apply oG|apply oH));iterate 3 exact rfl)|((with_reducible apply oI);(iterate 2 exact rfl);intro K hK)|(with_reducible (first|apply wI|apply wJ|apply wK)));try simp only [go_sem,simprocAttr,hb])|(with_reducible (first|apply oC|apply oJ|exact oK|apply wA|apply wB|apply wC hX hC|apply wD hX hC|apply wE hX hC af|apply wF hX hC af|apply wG|apply wH|apply And.intro))|((with_reducible refine oD ?_ ?_);kernel_rfl)|((with_reducible (first|apply oE|apply oF));(iterate 3 exact rfl);all_goals (intro h;first|(exact absurd h (by decide))|((try simp only [go_sem,simprocAttr,hb] at h);(try with_reducible intro K hK);simp only [go_sem,simprocAttr,hb])))|((first|((with_reducible apply wL);exact rfl)|((with_reducible apply wM);exact rfl));all_goals (try ((with_reducible intro h);first|(exact absurd h (by decide))|(try simp only [go_sem,simprocAttr,hb] at h))))|omega|(intro h))
 have hb:decide ((k:Int)<g.n)=true:=decide_eq_true (by omega)
 obtain ⟨hR,hne⟩:=j7 h rev cn
 have F4:=aB hR
 have wP:(cU g (aO g p rev k)).length≤64:=by have:=rz (g:=g) (f:=aO g p rev k) (k:=g.n.toNat);unfold cU;omega
 have hpe:=Ef hm hi.todJ rev
 have hlo:(fP rev (aO g p rev k).row).length=(aO g p rev k).row.length:=by unfold fP;split<;>simp
 have Iz:=AW (cU g (aO g p rev k)) (fP rev (aO g p rev k).row) hne (by omega) (by omega)
 rw [hpe] at Iz
 clear hpe
 have Mz:=AU [vw g,sI (aO g p rev k).pl] (aO g p rev k).row (by omega)
 have KQ:=HV (aO g p rev k).row (by omega)
 have KR:=wV g hm (aO g p rev k) (by omega) (by omega)
 have FR:=bD h.2.1 F4.1 F4.2.1
 have pO:=nH h.2.1 F4.1 F4.2.1
 have c7:aO g p rev (k+1)=(au g (aO g p rev k) (cR g (aO g p rev k) rev) (cQ p (cR g (aO g p rev k) rev))).2:=rfl
 have KS:cz g p rev (k+1)=(cz g p rev k).set (cR g (aO g p rev k) rev).toNat (k:Int):=rfl
 have oX:=gl (g:=g) (p:=p) (rev:=rev) (k:=k)
 generalize cR g (aO g p rev k) rev=x0 at*
 obtain ⟨x,rfl⟩:∃x:Nat,x0=x:=⟨x0.toNat,by omega⟩
 have hxl:x<p.outs.length:=by have:=h.2.1.1;omega
 have hv:=lF hxl
 have hla:cQ p (x:Int)=p.outs.getD x []:=by unfold cQ;rw [Int.toNat_natCast]
 rw [hla] at FR pO c7
 rw [Int.toNat_natCast] at KS
 have sK:=o9 g hm (aO g p rev k) hi (x:Int) (p.outs.getD x []) (by omega) (by omega) (by omega)
 have hpk:cx g (aO g p rev k) (x:Int) (p.outs.getD x [])=au g (aO g p rev k) (x:Int) (p.outs.getD x []):=by
  unfold cx
  rw [if_neg (by rw [hR];simp),if_neg]
  rintro (h|⟨i,h1,h2⟩)
  ·exact h FR.length_eq
  ·exact h2 (FR.mem_iff.2 h1)
 rw [hpk] at sK
 generalize p.outs.getD x []=o at hv sK c7
 generalize cU g (aO g p rev k)=L at Iz KR wP
 generalize fP rev (aO g p rev k).row=LR at Iz KQ hlo
 generalize MA:aO g p rev (k+1)=f' at c7
 generalize aO g p rev k=f at*
 generalize au g f (x:Int) o=su at sK c7
 repeat' (first|((first|((with_reducible (first|apply oA|apply oB));exact rfl;intro K hK)|(refine hK _ ?_;clear hK K)|((with_reducible (first|apply oG|apply oH));iterate 3 exact rfl)|((with_reducible apply oI);(iterate 2 exact rfl);intro K hK)|(with_reducible (first|apply wI|apply wJ|apply wK)));try simp only [go_sem,simprocAttr,hb,hv,oX,eH,jz,dB])|(show dH _ (.region 11 _ _) _ _;(refine y4 hX 15 2 201 200 rfl rfl rfl (by first|exact .inl rfl|exact .inr rfl) (by decide) (by decide) ?_;simp only [LA.app,ASt.put,ASt.kill,subT,rmk,putM,rml,kl,AV.sub,AV.subs,AObj.sub,List.set_cons_zero,List.set_cons_succ,go_sem,simprocAttr,hb,hv,oX,eH,jz,dB]))|(with_reducible (first|apply oC|apply oJ|exact oK|apply wA|apply wB|apply wC hX hC|apply wD hX hC|apply wE hX hC af|apply wF hX hC af|apply wG|apply wH|apply And.intro))|((with_reducible refine oD ?_ ?_);kernel_rfl)|((with_reducible (first|apply oE|apply oF));(iterate 3 exact rfl);all_goals (intro h;first|(exact absurd h (by decide))|((try simp only [go_sem,simprocAttr,hb,hv,oX,eH,jz,dB] at h);(try with_reducible intro K hK);simp only [go_sem,simprocAttr,hb,hv,oX,eH,jz,dB])))|((first|((with_reducible apply wL);exact rfl)|((with_reducible apply wM);exact rfl));all_goals (try ((with_reducible intro h);first|(exact absurd h (by decide))|(try simp only [go_sem,simprocAttr,hb,hv,oX,eH,jz,dB] at h))))|omega|((first|(refine jS hX hC hP 29 (Mz) rfl rfl rfl ?_ ?_ (by first|exact ⟨_,_,_,rfl,tu⟩|exact ⟨_,_,_,rfl,tv⟩|exact ⟨_,_,_,rfl,tA⟩) rfl (by decide) ?_;(iterate 2 (focus (simp only [go_sem,simprocAttr,hb,hv,oX,eH,jz,dB];done)));simp only [go_sem,simprocAttr,hb,hv,oX,eH,jz,dB])|(refine aA hX hC hP [(10000,29)] (KQ) rfl rfl rfl ?_ ?_ ?_ ?_ ?_ ?_ ?_ ?_ ?_ ?_ ?_ ?_ ?_ ?_;(focus (simp only [go_sem,simprocAttr,hb,hv,oX,eH,jz,dB];done));(iterate 12 (focus (simp [go_sem,simprocAttr,hb,hv,oX,eH,jz,dB];done)));simp only [go_sem,simprocAttr,hb,hv,oX,eH,jz,dB,List.map_cons,List.map_nil])|(refine kJ hX hC hP 34 (KR) rfl rfl rfl ?_ ?_ (by first|exact ⟨_,_,_,rfl,tu⟩|exact ⟨_,_,_,rfl,tv⟩|exact ⟨_,_,_,rfl,tA⟩) rfl (by decide) ?_;(iterate 2 (focus (simp only [go_sem,simprocAttr,hb,hv,oX,eH,jz,dB];done)));simp only [go_sem,simprocAttr,hb,hv,oX,eH,jz,dB])|(refine ah hX hC hP (Iz) rfl rfl rfl ?_ ?_ ?_ ?_;iterate 3 (focus (simp only [go_sem,simprocAttr,hb,hv,oX,eH,jz,dB];done)))|(refine aA hX hC hP [(10000,15),(10001,200),(10002,201)] (sK) rfl rfl rfl ?_ ?_ ?_ ?_ ?_ ?_ ?_ ?_ ?_ ?_ ?_ ?_ ?_ ?_;(focus (simp only [go_sem,simprocAttr,hb,hv,oX,eH,jz,dB];done));(iterate 12 (focus (simp [go_sem,simprocAttr,hb,hv,oX,eH,jz,dB];done)));simp only [go_sem,simprocAttr,hb,hv,oX,eH,jz,dB,List.map_cons,List.map_nil]));try simp only [go_sem,simprocAttr,hb,hv,oX,eH,jz,dB])|(intro h))
 refine ⟨k+1,by omega, ?_,by omega⟩
 rw [KS,MA,c7]
 refine Le.of ?_ ?_<;>simp [go_sem,simprocAttr,hb,hv,oX,eH,jz,dB,rI]
def Eg (b:Bool) (g:Gr) (p:Pl):List Int × List Int × Int:=
 if (bU b g p).2.1=0∧pe g=true then (cz g p false g.n.toNat,cz g p true g.n.toNat,0) else ([], [],1)
theorem sg (g:Gr) (hl:g.es.length≤1000) (p:Pl) (hp:rS p) (b:Bool) (hr:b=true↔(cA g).1=0∧bF g p):
 Spec Tryz.prog 24 (Args [eG g,ePl p]) [] (.tup [.d (sI (Eg b g p).1), .d (sI (Eg b g p).2.1),eN (Eg b g p).2.2]) []:=by
 have hO:=sM g hl p hp b hr
 have hI:=yu g hl
 by_cases h0:(bU b g p).2.1=0
 rotate_left
 ·have hK:Eg b g p=([], [],1):=if_neg fun h=>h0 h.1
  have hb0:decide ((bU b g p).2.1=0)=false:=decide_eq_false h0
  rw [hK]
  (refine Spec.intro (C:=T.cfg [] []) (rs:= [.t 4, .t 5, .t 6]) (T.ai _ _) Tryz.func24 rfl rfl Tryz.ntmps24 Tryz.results24 (by simp [AObj.isNest]) (by simp [AObj.isNest]) (by kernel_rfl) ?_;intro X hX hP hC aH aI vals hA;refine ⟨_,by simp,hA, ?_⟩;have af:X.P.follows .mixedOrders=true:=(by rw [hP];exact T.mixed);clear aH aI)
  repeat' (first|((first|((with_reducible (first|apply oA|apply oB));exact rfl;intro K hK)|(refine hK _ ?_;clear hK K)|((with_reducible (first|apply oG|apply oH));iterate 3 exact rfl)|((with_reducible apply oI);(iterate 2 exact rfl);intro K hK)|(with_reducible (first|apply wI|apply wJ|apply wK)));try simp only [go_sem,simprocAttr,hb0])|(with_reducible (first|apply oC|apply oJ|exact oK|apply wA|apply wB|apply wC hX hC|apply wD hX hC|apply wE hX hC af|apply wF hX hC af|apply wG|apply wH|apply And.intro))|((with_reducible refine oD ?_ ?_);kernel_rfl)|((with_reducible (first|apply oE|apply oF));(iterate 3 exact rfl);all_goals (intro h;first|(exact absurd h (by decide))|((try simp only [go_sem,simprocAttr,hb0] at h);(try with_reducible intro K hK);simp only [go_sem,simprocAttr,hb0])))|((first|((with_reducible apply wL);exact rfl)|((with_reducible apply wM);exact rfl));all_goals (try ((with_reducible intro h);first|(exact absurd h (by decide))|(try simp only [go_sem,simprocAttr,hb0] at h))))|omega|((first|refine aa hX hC hP (hO) rfl rfl rfl (by simp only [go_sem,simprocAttr,hb0]) rfl ?_);try simp only [go_sem,simprocAttr,hb0])|(intro h))
 obtain ⟨hrun,hR⟩:=tK hr h0
 rw [hR] at hO
 simp only at hO
 cases IA:pe g with
 |false=>
  have hK:Eg b g p=([], [],1):=if_neg fun h=>by rw [IA] at h;cases h.2
  rw [hK]
  rw [IA] at hI
  (refine Spec.intro (C:=T.cfg [] []) (rs:= [.t 4, .t 5, .t 6]) (T.ai _ _) Tryz.func24 rfl rfl Tryz.ntmps24 Tryz.results24 (by simp [AObj.isNest]) (by simp [AObj.isNest]) (by kernel_rfl) ?_;intro X hX hP hC aH aI vals hA;refine ⟨_,by simp,hA, ?_⟩;have af:X.P.follows .mixedOrders=true:=(by rw [hP];exact T.mixed);clear aH aI)
  repeat' (first|((first|((with_reducible (first|apply oA|apply oB));exact rfl;intro K hK)|(refine hK _ ?_;clear hK K)|((with_reducible (first|apply oG|apply oH));iterate 3 exact rfl)|((with_reducible apply oI);(iterate 2 exact rfl);intro K hK)|(with_reducible (first|apply wI|apply wJ|apply wK)));try simp only [go_sem,simprocAttr])|(with_reducible (first|apply oC|apply oJ|exact oK|apply wA|apply wB|apply wC hX hC|apply wD hX hC|apply wE hX hC af|apply wF hX hC af|apply wG|apply wH|apply And.intro))|((with_reducible refine oD ?_ ?_);kernel_rfl)|((with_reducible (first|apply oE|apply oF));(iterate 3 exact rfl);all_goals (intro h;first|(exact absurd h (by decide))|((try simp only [go_sem,simprocAttr] at h);(try with_reducible intro K hK);simp only [go_sem,simprocAttr])))|((first|((with_reducible apply wL);exact rfl)|((with_reducible apply wM);exact rfl));all_goals (try ((with_reducible intro h);first|(exact absurd h (by decide))|(try simp only [go_sem,simprocAttr] at h))))|omega|((first|refine aa hX hC hP (hO) rfl rfl rfl (by simp only [go_sem,simprocAttr]) rfl ?_|refine aa hX hC hP (hI) rfl rfl rfl (by simp only [go_sem,simprocAttr]) rfl ?_);try simp only [go_sem,simprocAttr])|(intro h))
 |true=>
  have hK:Eg b g p=(cz g p false g.n.toNat,cz g p true g.n.toNat,0):=if_pos ⟨h0,IA⟩
  rw [hK]
  rw [IA] at hI
  have KT:=tW g p hrun false 62 fun row _=>yE row
  have KU:=tW g p hrun true 63 fun row hl=>yF row hl
  generalize cz g p false g.n.toNat=R0 at KT
  generalize cz g p true g.n.toNat=R1 at KU
  (refine Spec.intro (C:=T.cfg [] []) (rs:= [.t 4, .t 5, .t 6]) (T.ai _ _) Tryz.func24 rfl rfl Tryz.ntmps24 Tryz.results24 (by simp [AObj.isNest]) (by simp [AObj.isNest]) (by kernel_rfl) ?_;intro X hX hP hC aH aI vals hA;refine ⟨_,by simp,hA, ?_⟩;have af:X.P.follows .mixedOrders=true:=(by rw [hP];exact T.mixed);clear aH aI)
  repeat' (first|((first|((with_reducible (first|apply oA|apply oB));exact rfl;intro K hK)|(refine hK _ ?_;clear hK K)|((with_reducible (first|apply oG|apply oH));iterate 3 exact rfl)|((with_reducible apply oI);(iterate 2 exact rfl);intro K hK)|(with_reducible (first|apply wI|apply wJ|apply wK)));try simp only [go_sem,simprocAttr])|(with_reducible (first|apply oC|apply oJ|exact oK|apply wA|apply wB|apply wC hX hC|apply wD hX hC|apply wE hX hC af|apply wF hX hC af|apply wG|apply wH|apply And.intro))|((with_reducible refine oD ?_ ?_);kernel_rfl)|((with_reducible (first|apply oE|apply oF));(iterate 3 exact rfl);all_goals (intro h;first|(exact absurd h (by decide))|((try simp only [go_sem,simprocAttr] at h);(try with_reducible intro K hK);simp only [go_sem,simprocAttr])))|((first|((with_reducible apply wL);exact rfl)|((with_reducible apply wM);exact rfl));all_goals (try ((with_reducible intro h);first|(exact absurd h (by decide))|(try simp only [go_sem,simprocAttr] at h))))|omega|((first|refine aa hX hC hP (hO) rfl rfl rfl (by simp only [go_sem,simprocAttr]) rfl ?_|refine aa hX hC hP (hI) rfl rfl rfl (by simp only [go_sem,simprocAttr]) rfl ?_|refine aa hX hC hP (KT) rfl rfl rfl (by simp only [go_sem,simprocAttr]) rfl ?_|refine aa hX hC hP (KU) rfl rfl rfl (by simp only [go_sem,simprocAttr]) rfl ?_);try simp only [go_sem,simprocAttr])|(intro h))
end Go.Ab
end
section
namespace Go.Ab
open Go.Proofs
attribute [local congr] ACall.congr
set_option maxRecDepth 10000
set_option maxHeartbeats 8000000
theorem MB (g:Gr) (p:Pl):∃b:Bool,(b=true↔(cA g).1=0∧bF g p):=by
 by_cases h:(cA g).1=0∧bF g p
 ·exact ⟨true,by simp [h]⟩
 ·exact ⟨false,by simp [h]⟩
end Go.Ab
end
section
namespace Go.Ab
open Go.Proofs
attribute [local congr] ACall.congr
set_option maxRecDepth 60000
set_option maxHeartbeats 8000000
structure Fc where
 L:List Int
 R:List Int
 lo:List Int
 hi:List Int
def J7 (g:Gr) (p:Pl) (f:Int):Int:=if f= -1 then (cK p g.n.toNat:Int) else f
def MC (g:Gr) (p:Pl):Fc:=⟨arr (LK g p g.n.toNat) g.es.length,(arr (RK g p (-1) g.n.toNat) g.es.length).map (J7 g p),nP p g.n.toNat++ [aK p 0],J6 g p g.n.toNat++ [aK p (g.n.toNat - 1)]⟩
def MD:Fc:=⟨[], [], [], []⟩
def Nq (b:Bool) (g:Gr) (p:Pl):Fc × Int:=if ((bU b g p).2.1=0∧pe g=true)∧0<g.es.length then (MC g p,0) else (MD,1)
def Nr (f:Fc):AV:= .agg [.d (sI f.L), .d (sI f.R), .d (sI f.lo), .d (sI f.hi)]
def ME (l:List Int) (f:Int→Int) (j:Nat):List Int:=(l.take j).map f++l.drop j
end Go.Ab
end
section
namespace Go.Ab
open Go.Proofs
set_option maxRecDepth 10000
set_option linter.unusedSectionVars false
section
variable (g:Gr) (p:Pl)
def cN:Nat:=cK p g.n.toNat
def Lf (e:Int):Int:=LK g p g.n.toNat e
def Rf (e:Int):Int:=RK g p (cN g p) g.n.toNat e
def MF:List Int:=nP p g.n.toNat++ [aK p 0]
def MG:List Int:=J6 g p g.n.toNat++ [aK p (g.n.toNat - 1)]
def J8 (f:Int):Int:=(MF g p).getD f.toNat 0
def Ns (f:Int):Int:=(MG g p).getD f.toNat 0
end
section
variable {g:Gr} {p:Pl}
variable (h:bK g p) (hI:pe g=true)
include h hI
theorem HW {a:Int} (ha:(bg g p).Ky a):∃k u b v,k<g.n.toNat∧sw g a=aK p k∧cQ p (aK p k)=u++a::b::v:=by
 obtain ⟨x,u,b,v,e⟩:=ha
 by_cases hx:jb g x
 ·obtain ⟨k,hk,rfl⟩:=fG h.2.1 hx.1 hx.2
  rw [dL hx] at e
  exact ⟨k,u,b,v,hk,(rZ h hk e).1,e⟩
 ·rw [jF hx] at e;cases u<;>cases e
theorem HX {a:Int} (ha:(bg g p).Ky a):∃f:Nat,1≤f∧f<cN g p∧∀r,RK g p r g.n.toNat a=f:=by
 obtain ⟨k,u,b,v,hk,_,e⟩:=HW h hI ha
 have hl:(cQ p (aK p k)).length=u.length+(v.length+2):=by rw [e];simp
 have Di:cK p (k+1)=cK p k+((cQ p (aK p k)).length - 1):=rfl
 obtain ⟨d,hd⟩:=Nat.exists_eq_add_of_le (show k+1≤g.n.toNat by omega)
 have hmo:=p4 (p:=p) (k:=k+1) (d:=d)
 rw [← hd] at hmo
 have hp:0<cK p k:=yx
 have Gz:cN g p=cK p g.n.toNat:=rfl
 exact ⟨cK p k+u.length,by omega,by omega,fun r=>by rw [lI h hk e (by omega) (Nat.le_refl _)];omega⟩
theorem iI:(bg g p).er (Lf g p) (Rf g p) 0 (cN g p) (J8 g p):=by
 have F:=yz h hI (r:=cN g p) (.inr (Int.le_refl _))
 exact {F with
  new:=fun {x u a b v} e=>by
   obtain ⟨h1,h2,h3⟩:=F.new e
   obtain ⟨f,_,h5,h6⟩:=HX h hI (a:=a) ⟨x,u,b,v,e⟩
   have h7:Rf g p a=f:=h6 _
   have h8:RK g p (cN g p) g.n.toNat a=f:=h6 _
   refine ⟨?_,h2,h3⟩
   rw [h8] at h1
   show (nP p g.n.toNat++ [aK p 0]).getD (Rf g p a).toNat 0=x
   rw [h7, ← h1,Int.toNat_natCast,kU (by rw [kY];exact h5)]}
end
end Go.Ab
end
section
namespace Go.Ab
open Go.Proofs
set_option maxRecDepth 10000
theorem Eh {g:Gr} {p:Pl} (h:bK g p) (x:Int):(bg g (bT p)).ins x=((bg g p).ins x).reverse:=by
 by_cases hx:jb g x
 ·obtain ⟨k,hk,rfl⟩:=fG h.2.1 hx.1 hx.2
  rw [eZ hx,eZ hx,pZ h hk]
  have h2:=pZ (nL h) hk
  have e1:aK (bT p) k=aK p k:=rfl
  rw [e1] at h2
  rw [h2]
  have g1:lN g p (fK g p k) (aK p k)=(fu (kq g p k)).map (·.1):=rfl
  have g2:lN g (bT p) (fK g (bT p) k) (aK p k)=(fu (kq g (bT p) k)).map (·.1):=rfl
  rw [g1,g2,CM h hk]
  unfold fu
  rw [List.filter_reverse,List.map_reverse]
 ·rw [iT hx,iT hx];rfl
theorem xu {g:Gr} {p:Pl} (x:Int):(bg g (bT p)).outs x=((bg g p).outs x).reverse:=by
 by_cases hx:jb g x
 ·rw [dL hx,dL hx,j8]
 ·rw [jF hx,jF hx];rfl
theorem pn {P Q:PS} {L R:Int→Int} {f0 f1:Int} {low:Int→Int} (h1:∀x,P.outs x=Q.outs x) (h2:∀x,P.ins x=Q.ins x) (h3:P.src=Q.src) (F:P.er L R f0 f1 low):Q.er L R f0 f1 low:=
 {ne:=F.ne
  gQ:=fun {x u a b v} e=>F.gQ ((h1 x).trans e)
  mj:=fun {x u a b v} e=>F.mj ((h2 x).trans e)
  fst:=fun {x a u b v} e1 e2=>F.fst ((h2 x).trans e1) ((h1 x).trans e2)
  Cb:=fun {x a u b v} e1 e2=>F.Cb ((h2 x).trans e1) ((h1 x).trans e2)
  s0:=fun {b v} e=>F.s0 ((h1 _).trans (h3 ▸ e))
  s1:=fun {b v} e=>F.s1 ((h1 _).trans (h3 ▸ e))
  new:=fun {x u a b v} e=>F.new ((h1 x).trans e)
  new1:=fun {x u a b v u' a' b' v'} e1 e2 e3=>F.new1 ((h1 x).trans e1) ((h1 x).trans e2) e3}
theorem AX {g:Gr} {p:Pl} (h:bK g p) (hI:pe g=true):(bg g p).er (Rf g (bT p)) (Lf g (bT p)) (cN g (bT p)) 0 (J8 g (bT p)):=by
 have F:=iI (nL h) hI
 have ok:=pg h hI
 have F1:(bg g p).wh.er (Lf g (bT p)) (Rf g (bT p)) 0 (cN g (bT p)) (J8 g (bT p)):=pn xu (Eh h) rfl F
 exact pn (P:=(bg g p).wh.wh) (fun x=>List.reverse_reverse _) (fun x=>List.reverse_reverse _) rfl (F1.wh ok.wh)
end Go.Ab
end
section
namespace Go.Ab
open Go.Proofs
set_option maxRecDepth 10000
def AY (q:Nat→Bool):Nat→Nat
 |0=>0
 |n+1=>AY q n ||| (if q n then 2 ^ n else 0)
theorem ke {q:Nat→Bool} {y:Nat} :∀ {n:Nat},(AY q n).testBit y=(decide (y<n)&&q y)
 |0=>by simp [AY]
 |n+1=>by
  rw [AY,Nat.testBit_or,ke]
  by_cases h:y=n
  ·subst h
   cases hq:q y<;>simp [Nat.testBit_two_pow_self]
  ·have h2:(if q n then 2 ^ n else 0).testBit y=false:=by
    split
    ·rw [Nat.testBit_two_pow];exact decide_eq_false fun e=>h e.symm
    ·simp
   rw [h2,Bool.or_false]
   congr 1
   rw [decide_eq_decide];omega
theorem Ei {q:Nat→Bool} {n:Nat} :AY q n<2 ^ n:=by
 refine Nat.lt_pow_two_of_testBit _ fun i hi=> ?_
 rw [ke,decide_eq_false (by omega)];rfl
inductive vj (g:Gr) (both:Bool) (c:Nat→Bool) (x:Nat):Nat→Prop
 |refl:vj g both c x x
 |fwd {i:Nat} :i<g.es.length→c i=true→vj g both c x (tl g i).toNat→vj g both c x (hd g i).toNat
 |HY {i:Nat} :i<g.es.length→c i=true→both=true→vj g both c x (hd g i).toNat→vj g both c x (tl g i).toNat
theorem vj.trans {g:Gr} {both:Bool} {c:Nat→Bool} {x y z:Nat} (h1:vj g both c x y) (h2:vj g both c y z):vj g both c x z:=by
 induction h2 with
 |refl=>exact h1
 |fwd a b _ ih=>exact .fwd a b ih
 |HY a b d _ ih=>exact .HY a b d ih
open Classical in
noncomputable def HZ (g:Gr) (both:Bool) (c:Nat→Bool) (x:Nat):Nat:=AY (fun y=>decide (vj g both c x y)) g.n.toNat
noncomputable def Dl (g:Gr) (both:Bool) (c:Nat→Bool):List Nat:=(List.range g.n.toNat).map (HZ g both c)
theorem p5 {g:Gr} {both:Bool} {c:Nat→Bool} :(Dl g both c).length=g.n.toNat:=by simp [Dl]
theorem yG {g:Gr} {both:Bool} {c:Nat→Bool} {x:Nat} (h:x<g.n.toNat):(Dl g both c).getD x 0=HZ g both c x:=by
 simp [Dl,List.getD_eq_getElem?_getD,List.getElem?_range h]
open Classical in
theorem zI {g:Gr} {both:Bool} {c:Nat→Bool} {x y:Nat} :(HZ g both c x).testBit y=true↔y<g.n.toNat∧vj g both c x y:=by
 unfold HZ
 rw [ke]
 simp
def bH (g:Gr) (both:Bool) (c:Nat→Bool) (a:List Nat):Nat→List Nat × Bool
 |0=>(a,false)
 |k+1=>
  let s:=bH g both c a k
  if c k=true then
   let t:=s.1.getD (tl g k).toNat 0 ||| s.1.getD (hd g k).toNat 0
   let h:=if both=true then t else s.1.getD (hd g k).toNat 0
   ((s.1.set (tl g k).toNat t).set (hd g k).toNat h,s.2||(decide (t≠s.1.getD (tl g k).toNat 0)||decide (h≠s.1.getD (hd g k).toNat 0)))
  else s
theorem oO {g:Gr} {both:Bool} {c:Nat→Bool} {a:List Nat} :∀ {k:Nat},(bH g both c a k).1.length=a.length
 |0=>rfl
 |k+1=>by
  simp only [bH]
  split
  ·simp [oO]
  ·exact oO
theorem lJ {l:List Nat} {i j:Nat} {a:Nat} (hi:i<l.length):(l.set i a).getD j 0=if j=i then a else l.getD j 0:=by
 rw [List.getD_eq_getElem?_getD,List.getElem?_set]
 by_cases h:i=j
 ·subst h;rw [if_pos rfl,if_pos hi,if_pos rfl];rfl
 ·rw [if_neg h,if_neg (Ne.symm h), ← List.getD_eq_getElem?_getD]
structure Bi (g:Gr) (both:Bool) (c:Nat→Bool) (a:List Nat):Prop where
 len:a.length=g.n.toNat
 own:∀x,x<g.n.toNat→(a.getD x 0).testBit x=true
 snd:∀x y,x<g.n.toNat→(a.getD x 0).testBit y=true→y<g.n.toNat∧vj g both c x y
theorem Bi.lt {g:Gr} {both:Bool} {c:Nat→Bool} {a:List Nat} (h:Bi g both c a) (hn:g.n.toNat≤64) (x:Nat):a.getD x 0<18446744073709551616:=by
 by_cases hx:x<g.n.toNat
 ·have:a.getD x 0<2 ^ 64:=Nat.lt_pow_two_of_testBit _ fun i hi=>by
   cases hb:(a.getD x 0).testBit i with
   |false=>rfl
   |true=>have:=(h.snd x i hx hb).1;omega
  simpa using this
 ·rw [List.getD_eq_getElem?_getD,List.getElem?_eq_none (by rw [h.len];omega)];simp
theorem grow_step {g:Gr} (hm:aL g=true) {both:Bool} {c:Nat→Bool} {a:List Nat} (h:Bi g both c a) {i:Nat} (hi:i<g.es.length) (hc:c i=true):
 Bi g both c ((a.set (tl g i).toNat (a.getD (tl g i).toNat 0 ||| a.getD (hd g i).toNat 0)).set (hd g i).toNat (if both=true then a.getD (tl g i).toNat 0 ||| a.getD (hd g i).toNat 0 else a.getD (hd g i).toNat 0))∧
 ∀x y,(a.getD x 0).testBit y=true→(((a.set (tl g i).toNat (a.getD (tl g i).toNat 0 ||| a.getD (hd g i).toNat 0)).set (hd g i).toNat (if both=true then a.getD (tl g i).toNat 0 ||| a.getD (hd g i).toNat 0 else a.getD (hd g i).toNat 0)).getD x 0).testBit y=true:=by
 obtain ⟨ht,hh⟩:=ee hm hi
 have ht:0≤tl g i∧tl g i<g.n:=ht
 have hh:0≤hd g i∧hd g i<g.n:=hh
 have hl:=h.len
 have qd:∀x,((a.set (tl g i).toNat (a.getD (tl g i).toNat 0 ||| a.getD (hd g i).toNat 0)).set (hd g i).toNat (if both=true then a.getD (tl g i).toNat 0 ||| a.getD (hd g i).toNat 0 else a.getD (hd g i).toNat 0)).getD x 0=
  if x=(hd g i).toNat then (if both=true then a.getD (tl g i).toNat 0 ||| a.getD (hd g i).toNat 0 else a.getD (hd g i).toNat 0) else if x=(tl g i).toNat then a.getD (tl g i).toNat 0 ||| a.getD (hd g i).toNat 0 else a.getD x 0:=fun x=>by
  rw [lJ (by rw [List.length_set];omega),lJ (by omega)]
 have mono:∀x y,(a.getD x 0).testBit y=true→(((a.set (tl g i).toNat (a.getD (tl g i).toNat 0 ||| a.getD (hd g i).toNat 0)).set (hd g i).toNat (if both=true then a.getD (tl g i).toNat 0 ||| a.getD (hd g i).toNat 0 else a.getD (hd g i).toNat 0)).getD x 0).testBit y=true:=fun x y hb=>by
  rw [qd]
  split
  ·rename_i e;subst e
   split
   ·rw [Nat.testBit_or,hb,Bool.or_true]
   ·exact hb
  ·split
   ·rename_i e;subst e
    rw [Nat.testBit_or,hb,Bool.true_or]
   ·exact hb
 refine ⟨⟨by simp [hl],fun x hx=>mono x x (h.own x hx),fun x y hx hb=> ?_⟩,mono⟩
 have e1:vj g both c (tl g i).toNat (hd g i).toNat:= .fwd hi hc .refl
 rw [qd] at hb
 split at hb
 ·rename_i e;subst e
  split at hb
  ·rename_i MH
   rw [Nat.testBit_or,Bool.or_eq_true] at hb
   rcases hb with hb|hb
   ·obtain ⟨g1,g2⟩:=h.snd _ _ (by omega) hb
    exact ⟨g1,(vj.HY hi hc MH .refl).trans g2⟩
   ·exact h.snd _ _ hx hb
  ·exact h.snd _ _ hx hb
 ·split at hb
  ·rename_i e;subst e
   rw [Nat.testBit_or,Bool.or_eq_true] at hb
   rcases hb with hb|hb
   ·exact h.snd _ _ hx hb
   ·obtain ⟨g1,g2⟩:=h.snd _ _ (by omega) hb
    exact ⟨g1,e1.trans g2⟩
  ·exact h.snd _ _ hx hb
theorem iw {g:Gr} (hm:aL g=true) {both:Bool} {c:Nat→Bool} {a:List Nat} (h:Bi g both c a):∀ {k:Nat},k≤g.es.length→Bi g both c (bH g both c a k).1∧∀x y,(a.getD x 0).testBit y=true→((bH g both c a k).1.getD x 0).testBit y=true
 |0,_=>⟨h,fun x y hb=>hb⟩
 |k+1,hk=>by
  obtain ⟨i1,i2⟩:=iw hm h (k:=k) (by omega)
  simp only [bH]
  by_cases hc:c k=true
  ·rw [if_pos hc]
   obtain ⟨j1,j2⟩:=grow_step hm i1 (i:=k) (by omega) hc
   exact ⟨j1,fun x y hb=>j2 x y (i2 x y hb)⟩
  ·rw [if_neg hc];exact ⟨i1,i2⟩
def si (a:List Nat):Nat:=a.foldr (· + ·) 0
theorem zJ:∀ {a b:List Nat},a.length=b.length→(∀x,a.getD x 0≤b.getD x 0)→a≠b→si a<si b
 | [], [],_,_,hne=>absurd rfl hne
 |x::a,y::b,hl,h,hne=>by
  have h0:=h 0
  have hr:∀i,a.getD i 0≤b.getD i 0:=fun i=>by simpa using h (i+1)
  simp only [List.getD_cons_zero] at h0
  show x+si a<y+si b
  by_cases hab:a=b
  ·subst hab
   have:x≠y:=fun e=>hne (by rw [e])
   omega
  ·have:=zJ (a:=a) (b:=b) (by simpa using hl) hr hab
   omega
theorem xw {m:Nat} :∀ {a:List Nat},(∀x,a.getD x 0<m)→si a≤a.length*m
 | [],_=>by simp [si]
 |x::a,h=>by
  have h0:=h 0
  have:=xw (a:=a) fun i=>by simpa using h (i+1)
  simp only [List.getD_cons_zero] at h0
  show x+si a≤(a.length+1)*m
  rw [Nat.add_mul];omega
theorem mK {a b:Nat} (h:∀y,a.testBit y=true→b.testBit y=true):a≤b:=by
 have:a ||| b=b:=Nat.eq_of_testBit_eq fun y=>by
  rw [Nat.testBit_or]
  cases ha:a.testBit y with
  |false=>simp
  |true=>rw [h y ha];rfl
 rw [← this];exact Nat.left_le_or
theorem iJ {g:Gr} {both:Bool} {c:Nat→Bool} {a:List Nat} :∀ {k:Nat},(bH g both c a k).2=false→(bH g both c a k).1=a∧∀i,i<k→c i=true→(a.getD (tl g i).toNat 0 ||| a.getD (hd g i).toNat 0=a.getD (tl g i).toNat 0)∧(both=true→a.getD (tl g i).toNat 0=a.getD (hd g i).toNat 0)
 |0,_=>⟨rfl,fun i hi=>by omega⟩
 |k+1,h=>by
  simp only [bH] at h ⊢
  by_cases hc:c k=true
  ·rw [if_pos hc] at h ⊢
   simp only [Bool.or_eq_false_iff,decide_eq_false_iff_not,Decidable.not_not] at h
   obtain ⟨h1,h2,h3⟩:=h
   obtain ⟨i1,i2⟩:=iJ h1
   rw [i1] at h2 h3
   simp only [i1]
   have bY:∀ {l:List Nat} {i v:Nat},v=l.getD i 0→l.set i v=l:=fun {l i v} e=>by
    refine List.ext_getElem? fun j=> ?_
    rw [List.getElem?_set]
    split
    ·rename_i hj;subst hj
     split
     ·rename_i hl;rw [e,List.getD_eq_getElem?_getD,List.getElem?_eq_getElem hl];rfl
     ·rename_i hl;rw [List.getElem?_eq_none (by omega)]
    ·rfl
   refine ⟨by rw [bY h2,bY h3],fun i hi IB=> ?_⟩
   by_cases hik:i=k
   ·subst hik
    refine ⟨h2,fun hb=> ?_⟩
    rw [if_pos hb] at h3
    rw [← h2,h3]
   ·exact i2 i (by omega) IB
  ·rw [if_neg hc] at h ⊢
   obtain ⟨i1,i2⟩:=iJ h
   refine ⟨i1,fun i hi IB=> ?_⟩
   by_cases hik:i=k
   ·subst hik;exact absurd IB hc
   ·exact i2 i (by omega) IB
theorem yH {g:Gr} (hm:aL g=true) {both:Bool} {c:Nat→Bool} {a:List Nat} (h:Bi g both c a) (hne:(bH g both c a g.es.length).2=true):si a<si (bH g both c a g.es.length).1:=by
 obtain ⟨_,i2⟩:=iw hm h (Nat.le_refl g.es.length)
 refine zJ oO.symm (fun x=>mK (i2 x)) fun e=> ?_
 have key:∀k,k≤g.es.length→(bH g both c a k).2=false:=by
  intro k
  induction k with
  |zero=>intro _;rfl
  |succ k ih=>
   intro hk
   have ih:=ih (by omega)
   have KW:=(iJ ih).1
   simp only [bH]
   by_cases hc:c k=true
   ·rw [if_pos hc]
    simp only [Bool.or_eq_false_iff,decide_eq_false_iff_not,Decidable.not_not,ih,KW,true_and]
    obtain ⟨j1,j2⟩:=iw hm h (k:=k) (by omega)
    have later:∀d,k+1+d≤g.es.length→∀x y,((bH g both c a (k+1)).1.getD x 0).testBit y=true→((bH g both c a (k+1+d)).1.getD x 0).testBit y=true:=by
     intro d
     induction d with
     |zero=>intro _ x y hb;exact hb
     |succ d MI=>
      intro hd x y hb
      have hb:=MI (by omega) x y hb
      show ((bH g both c a (k+1+d+1)).1.getD x 0).testBit y=true
      simp only [bH] at hb ⊢
      split
      ·rename_i Di
       exact (grow_step hm (iw hm h (k:=k+1+d) (by omega)).1 (i:=k+1+d) (by omega) Di).2 x y hb
      ·exact hb
    have pF:=later (g.es.length - (k+1)) (by omega)
    rw [show k+1+(g.es.length - (k+1))=g.es.length by omega, ← e] at pF
    have xA:(bH g both c a (k+1)).1=(a.set (tl g k).toNat (a.getD (tl g k).toNat 0 ||| a.getD (hd g k).toNat 0)).set (hd g k).toNat (if both=true then a.getD (tl g k).toNat 0 ||| a.getD (hd g k).toNat 0 else a.getD (hd g k).toNat 0):=by
     simp only [bH];rw [if_pos hc,KW]
    obtain ⟨ht,hh⟩:=ee hm (k:=k) (by omega)
    have ht:0≤tl g k∧tl g k<g.n:=ht
    have hh:0≤hd g k∧hd g k<g.n:=hh
    have hl:=h.len
    have qd:∀x,(bH g both c a (k+1)).1.getD x 0=if x=(hd g k).toNat then (if both=true then a.getD (tl g k).toNat 0 ||| a.getD (hd g k).toNat 0 else a.getD (hd g k).toNat 0) else if x=(tl g k).toNat then a.getD (tl g k).toNat 0 ||| a.getD (hd g k).toNat 0 else a.getD x 0:=fun x=>by
     rw [xA,lJ (by rw [List.length_set];omega),lJ (by omega)]
    have g1:(if both=true then a.getD (tl g k).toNat 0 ||| a.getD (hd g k).toNat 0 else a.getD (hd g k).toNat 0)=a.getD (hd g k).toNat 0:=by
     have:=mK (pF (hd g k).toNat)
     rw [qd,if_pos rfl] at this
     split at this
     ·rename_i hb
      rw [if_pos hb]
      exact Nat.le_antisymm this Nat.right_le_or
     ·rename_i hb;rw [if_neg hb]
    refine ⟨?_,g1⟩
    by_cases heq:(tl g k).toNat=(hd g k).toNat
    ·rw [heq,Nat.or_self]
    ·have:=mK (pF (tl g k).toNat)
     rw [qd,if_neg heq,if_pos rfl] at this
     exact Nat.le_antisymm this Nat.left_le_or
   ·rw [if_neg hc];exact ih
 rw [key _ (Nat.le_refl _)] at hne
 cases hne
theorem AZ {g:Gr} (hm:aL g=true) {both:Bool} {c:Nat→Bool} {a:List Nat} (h:Bi g both c a) (hne:(bH g both c a g.es.length).2=false):a=Dl g both c:=by
 obtain ⟨_,dI⟩:=iJ hne
 have comp:∀x y,x<g.n.toNat→vj g both c x y→∀w,w<g.n.toNat→vj g both c w x→True:=fun _ _ _ _ _ _ _=>trivial
 have key:∀ {x y:Nat},vj g both c x y→∀z,(a.getD y 0).testBit z=true→(a.getD x 0).testBit z=true:=by
  intro x y hR
  induction hR with
  |refl=>exact fun z hz=>hz
  | @fwd i hi hc _ ih=>
    intro z hz
    refine ih z ?_
    rw [← (dI i hi hc).1,Nat.testBit_or,hz,Bool.or_true]
  | @HY i hi hc hb _ ih=>
    intro z hz
    refine ih z ?_
    rw [← (dI i hi hc).2 hb];exact hz
 refine List.ext_getElem? fun x=> ?_
 by_cases hx:x<g.n.toNat
 ·have e:a.getD x 0=(Dl g both c).getD x 0:=by
   rw [yG hx]
   refine Nat.eq_of_testBit_eq fun y=> ?_
   rw [Bool.eq_iff_iff,zI]
   refine ⟨h.snd x y hx,fun ⟨h1,h2⟩=>key h2 y (h.own y h1)⟩
  rw [List.getD_eq_getElem?_getD,List.getD_eq_getElem?_getD,List.getElem?_eq_getElem (by rw [h.len];exact hx),List.getElem?_eq_getElem (by rw [p5];exact hx)] at e
  rw [List.getElem?_eq_getElem (by rw [h.len];exact hx),List.getElem?_eq_getElem (by rw [p5];exact hx)]
  simpa using e
 ·rw [List.getElem?_eq_none (by rw [h.len];omega),List.getElem?_eq_none (by rw [p5];omega)]
end Go.Ab
end
section
namespace Go.Ab
open Go.Proofs
attribute [local congr] ACall.congr
set_option maxRecDepth 20000
set_option maxHeartbeats 8000000
def rU (n:Nat):List D:= [.sc (.int .u64 (n:Int))]
def eU (n:Nat):AV:= .d (.sc (.int .u64 (n:Int)))
def sU (l:List Nat):D:= .sl 1 (l.map rU)
theorem getD_rU (ps:List Nat) (i:Nat):(ps.map rU).getD i [.sc (.int .u64 0)]= [.sc (.int .u64 ((ps.getD i 0:Nat):Int))]:=by
 rw [List.getD_eq_getElem?_getD,List.getElem?_map,List.getD_eq_getElem?_getD]
 cases ps[i]? <;>rfl
theorem fH (l:List Nat) (k:Nat) (v:Nat):(l.map rU).set k [.sc (.int .u64 (v:Int))]=(l.set k v).map rU:=by
 rw [List.map_set];rfl
attribute [go_sem] eU sU getD_rU InU
theorem Ej {s x:Nat} :decide ((((s >>> x &&& 1:Nat)):Int)=1)=s.testBit x:=by
 rw [Bool.eq_iff_iff,decide_eq_true_eq,Nat.testBit,Nat.and_comm]
 have:1 &&& s >>> x=0∨1 &&& s >>> x=1:=by
  rw [Nat.and_comm,Nat.and_one_is_mod];omega
 rcases this with h|h<;>rw [h]<;>simp
theorem A0 (s:Nat) (hs:s<18446744073709551616) (x:Int):Spec Tryz.prog 26 (Args [eU s,eN x]) [] (eB (decide (0≤x)&&decide (x<64)&&s.testBit x.toNat)) []:=by
 by_cases h0:0≤x
 rotate_left
 ·have hb0:decide (0≤x)=false:=decide_eq_false h0
  (refine Spec.intro (C:=T.cfg [] []) (rs:= [.t 4]) (T.ai _ _) Tryz.func26 rfl rfl Tryz.ntmps26 Tryz.results26 (by simp [AObj.isNest]) (by simp [AObj.isNest]) (by kernel_rfl) ?_;intro X hX hP hC aH aI vals hA;refine ⟨_,by simp,hA, ?_⟩;have af:X.P.follows .mixedOrders=true:=(by rw [hP];exact T.mixed);clear aH aI)
  repeat' (first|((first|((with_reducible (first|apply oA|apply oB));exact rfl;intro K hK)|(refine hK _ ?_;clear hK K)|((with_reducible (first|apply oG|apply oH));iterate 3 exact rfl)|((with_reducible apply oI);(iterate 2 exact rfl);intro K hK)|(with_reducible (first|apply wI|apply wJ|apply wK)));try simp only [go_sem,simprocAttr,hb0])|(with_reducible (first|apply oC|apply oJ|exact oK|apply wA|apply wB|apply wC hX hC|apply wD hX hC|apply wE hX hC af|apply wF hX hC af|apply wG|apply wH|apply And.intro))|((with_reducible refine oD ?_ ?_);kernel_rfl)|((with_reducible (first|apply oE|apply oF));(iterate 3 exact rfl);all_goals (intro h;first|(exact absurd h (by decide))|((try simp only [go_sem,simprocAttr,hb0] at h);(try with_reducible intro K hK);simp only [go_sem,simprocAttr,hb0])))|((first|((with_reducible apply wL);exact rfl)|((with_reducible apply wM);exact rfl));all_goals (try ((with_reducible intro h);first|(exact absurd h (by decide))|(try simp only [go_sem,simprocAttr,hb0] at h))))|omega|(intro h))
 have hb0:decide (0≤x)=true:=decide_eq_true h0
 by_cases h1:x<64
 rotate_left
 ·have ak:decide (x<64)=false:=decide_eq_false h1
  (refine Spec.intro (C:=T.cfg [] []) (rs:= [.t 4]) (T.ai _ _) Tryz.func26 rfl rfl Tryz.ntmps26 Tryz.results26 (by simp [AObj.isNest]) (by simp [AObj.isNest]) (by kernel_rfl) ?_;intro X hX hP hC aH aI vals hA;refine ⟨_,by simp,hA, ?_⟩;have af:X.P.follows .mixedOrders=true:=(by rw [hP];exact T.mixed);clear aH aI)
  repeat' (first|((first|((with_reducible (first|apply oA|apply oB));exact rfl;intro K hK)|(refine hK _ ?_;clear hK K)|((with_reducible (first|apply oG|apply oH));iterate 3 exact rfl)|((with_reducible apply oI);(iterate 2 exact rfl);intro K hK)|(with_reducible (first|apply wI|apply wJ|apply wK)));try simp only [go_sem,simprocAttr,hb0,ak])|(with_reducible (first|apply oC|apply oJ|exact oK|apply wA|apply wB|apply wC hX hC|apply wD hX hC|apply wE hX hC af|apply wF hX hC af|apply wG|apply wH|apply And.intro))|((with_reducible refine oD ?_ ?_);kernel_rfl)|((with_reducible (first|apply oE|apply oF));(iterate 3 exact rfl);all_goals (intro h;first|(exact absurd h (by decide))|((try simp only [go_sem,simprocAttr,hb0,ak] at h);(try with_reducible intro K hK);simp only [go_sem,simprocAttr,hb0,ak])))|((first|((with_reducible apply wL);exact rfl)|((with_reducible apply wM);exact rfl));all_goals (try ((with_reducible intro h);first|(exact absurd h (by decide))|(try simp only [go_sem,simprocAttr,hb0,ak] at h))))|omega|(intro h))
 have ak:decide (x<64)=true:=decide_eq_true h1
 obtain ⟨i,rfl⟩:∃i:Nat,x=i:=⟨x.toNat,by omega⟩
 have hlt:s >>> i<18446744073709551616:=Nat.lt_of_le_of_lt (Nat.shiftRight_le s i) hs
 have ha:=Ej (s:=s) (x:=i)
 generalize hq:s >>> i=q at hlt ha
 (refine Spec.intro (C:=T.cfg [] []) (rs:= [.t 4]) (T.ai _ _) Tryz.func26 rfl rfl Tryz.ntmps26 Tryz.results26 (by simp [AObj.isNest]) (by simp [AObj.isNest]) (by kernel_rfl) ?_;intro X hX hP hC aH aI vals hA;refine ⟨_,by simp,hA, ?_⟩;have af:X.P.follows .mixedOrders=true:=(by rw [hP];exact T.mixed);clear aH aI)
 repeat' (first|((first|((with_reducible (first|apply oA|apply oB));exact rfl;intro K hK)|(refine hK _ ?_;clear hK K)|((with_reducible (first|apply oG|apply oH));iterate 3 exact rfl)|((with_reducible apply oI);(iterate 2 exact rfl);intro K hK)|(with_reducible (first|apply wI|apply wJ|apply wK)));try simp only [go_sem,simprocAttr,hb0,ak,hq,ha])|(with_reducible (first|apply oC|apply oJ|exact oK|apply wA|apply wB|apply wC hX hC|apply wD hX hC|apply wE hX hC af|apply wF hX hC af|apply wG|apply wH|apply And.intro))|((with_reducible refine oD ?_ ?_);kernel_rfl)|((with_reducible (first|apply oE|apply oF));(iterate 3 exact rfl);all_goals (intro h;first|(exact absurd h (by decide))|((try simp only [go_sem,simprocAttr,hb0,ak,hq,ha] at h);(try with_reducible intro K hK);simp only [go_sem,simprocAttr,hb0,ak,hq,ha])))|((first|((with_reducible apply wL);exact rfl)|((with_reducible apply wM);exact rfl));all_goals (try ((with_reducible intro h);first|(exact absurd h (by decide))|(try simp only [go_sem,simprocAttr,hb0,ak,hq,ha] at h))))|omega|(intro h))
theorem C8 (x:Nat) (hx:x<64):Spec Tryz.prog 114 (Args [.d (.sl 1 [[.sc (.int .i64 (x:Int))]])]) [] (eU (2 ^ x)) []:=by
 have hsh:1 <<< x % 18446744073709551616=2 ^ x:=by
  rw [Nat.shiftLeft_eq,Nat.one_mul,Nat.mod_eq_of_lt]
  exact Nat.lt_of_lt_of_le (Nat.pow_lt_pow_right (by decide) hx) (by decide)
 have hlt:2 ^ x<18446744073709551616:=Nat.lt_of_lt_of_le (Nat.pow_lt_pow_right (by decide) hx) (by decide)
 have ak:decide (0≤(x:Int))=true:=decide_eq_true (by omega)
 have an:decide ((x:Int)<64)=true:=decide_eq_true (by omega)
 (refine Spec.intro (C:=T.cfg [] []) (rs:= [.t 2]) (T.ai _ _) Tryz.func114 rfl rfl Tryz.ntmps114 Tryz.results114 (by simp [AObj.isNest]) (by simp [AObj.isNest]) (by kernel_rfl) ?_;intro X hX hP hC aH aI vals hA;refine ⟨_,by simp,hA, ?_⟩;have af:X.P.follows .mixedOrders=true:=(by rw [hP];exact T.mixed);clear aH aI)
 repeat' (first|((first|((with_reducible (first|apply oA|apply oB));exact rfl;intro K hK)|(refine hK _ ?_;clear hK K)|((with_reducible (first|apply oG|apply oH));iterate 3 exact rfl)|((with_reducible apply oI);(iterate 2 exact rfl);intro K hK)|(with_reducible (first|apply wI|apply wJ|apply wK)));try simp only [go_sem,simprocAttr])|(with_reducible (first|apply oC|apply oJ|exact oK|apply wA|apply wB|apply wC hX hC|apply wD hX hC|apply wE hX hC af|apply wF hX hC af|apply wG|apply wH|apply And.intro))|((with_reducible refine oD ?_ ?_);kernel_rfl)|((with_reducible (first|apply oE|apply oF));(iterate 3 exact rfl);all_goals (intro h;first|(exact absurd h (by decide))|((try simp only [go_sem,simprocAttr] at h);(try with_reducible intro K hK);simp only [go_sem,simprocAttr])))|((first|((with_reducible apply wL);exact rfl)|((with_reducible apply wM);exact rfl));all_goals (try ((with_reducible intro h);first|(exact absurd h (by decide))|(try simp only [go_sem,simprocAttr] at h))))|omega|(intro h))
 refine aj (fun k:Nat=>k≤1) (fun k=>⟨[(2,eU (if k=0 then 0 else 2 ^ x)),(5, .d (.sl 1 [[.sc (.int .i64 (x:Int))]])),(6,eN 1),(7,eN k)], []⟩) (fun k=>1 - k) 0 (by omega) ?_ ?_
 ·refine Le.of ?_ ?_<;>simp [go_sem,simprocAttr]
 rintro k hk
 match k,hk with
 |0,_=>
  repeat' (first|((first|((with_reducible (first|apply oA|apply oB));exact rfl;intro K hK)|(refine hK _ ?_;clear hK K)|((with_reducible (first|apply oG|apply oH));iterate 3 exact rfl)|((with_reducible apply oI);(iterate 2 exact rfl);intro K hK)|(with_reducible (first|apply wI|apply wJ|apply wK)));try simp only [go_sem,simprocAttr,hsh,ak,an,Nat.zero_or])|(with_reducible (first|apply oC|apply oJ|exact oK|apply wA|apply wB|apply wC hX hC|apply wD hX hC|apply wE hX hC af|apply wF hX hC af|apply wG|apply wH|apply And.intro))|((with_reducible refine oD ?_ ?_);kernel_rfl)|((with_reducible (first|apply oE|apply oF));(iterate 3 exact rfl);all_goals (intro h;first|(exact absurd h (by decide))|((try simp only [go_sem,simprocAttr,hsh,ak,an,Nat.zero_or] at h);(try with_reducible intro K hK);simp only [go_sem,simprocAttr,hsh,ak,an,Nat.zero_or])))|((first|((with_reducible apply wL);exact rfl)|((with_reducible apply wM);exact rfl));all_goals (try ((with_reducible intro h);first|(exact absurd h (by decide))|(try simp only [go_sem,simprocAttr,hsh,ak,an,Nat.zero_or] at h))))|omega|(intro h))
  all_goals (refine ⟨1,by omega, ?_,by omega⟩)
  all_goals (refine Le.of ?_ ?_<;>simp [go_sem,simprocAttr,hsh,ak,an,Nat.zero_or])
 |1,_=>
  repeat' (first|((first|((with_reducible (first|apply oA|apply oB));exact rfl;intro K hK)|(refine hK _ ?_;clear hK K)|((with_reducible (first|apply oG|apply oH));iterate 3 exact rfl)|((with_reducible apply oI);(iterate 2 exact rfl);intro K hK)|(with_reducible (first|apply wI|apply wJ|apply wK)));try simp only [go_sem,simprocAttr])|(with_reducible (first|apply oC|apply oJ|exact oK|apply wA|apply wB|apply wC hX hC|apply wD hX hC|apply wE hX hC af|apply wF hX hC af|apply wG|apply wH|apply And.intro))|((with_reducible refine oD ?_ ?_);kernel_rfl)|((with_reducible (first|apply oE|apply oF));(iterate 3 exact rfl);all_goals (intro h;first|(exact absurd h (by decide))|((try simp only [go_sem,simprocAttr] at h);(try with_reducible intro K hK);simp only [go_sem,simprocAttr])))|((first|((with_reducible apply wL);exact rfl)|((with_reducible apply wM);exact rfl));all_goals (try ((with_reducible intro h);first|(exact absurd h (by decide))|(try simp only [go_sem,simprocAttr] at h))))|omega|(intro h))
end Go.Ab
end
section
namespace Go.Ab
open Go.Proofs
attribute [local congr] ACall.congr
set_option maxRecDepth 20000
set_option maxHeartbeats 8000000
def oP (k:Nat):List Nat:=(List.range k).map fun x=>2 ^ x
theorem A1 {k:Nat} :oP (k+1)=oP k++ [2 ^ k]:=by simp [oP,List.range_succ]
theorem sj {k:Nat} :(oP k).length=k:=by simp [oP]
def iU (g:Gr):List Nat:=if aL g=true then oP g.n.toNat else []
theorem yI (g:Gr) (hl:g.es.length≤9223372036854775807):Spec Tryz.prog 64 (Args [eG g]) [] (.ref 10000) [(10000, .own 49 1 ((iU g).map rU))]:=by
 have hM:=fE g hl
 cases hm:aL g with
 |false=>
  rw [hm] at hM
  have he:iU g= []:=by unfold iU;rw [hm];rfl
  rw [he]
  (refine Spec.dO (C:=T.cfg [200,17] []) (rs:= [.t 2]) [(10000,200)] (T.ai _ _) Tryz.func64 rfl rfl Tryz.ntmps64 Tryz.results64 (by simp [AObj.isNest]) (by simp [AObj.isNest]) (by first|(simp [look];done)|(simp [asN];done)|(intro l hl;simp only [asN];repeat (rw [if_neg (fun e=>by subst e;simp [look] at hl)]))) (by first|(simp [look];done)|(simp [asN];done)|(intro l hl;simp only [asN];repeat (rw [if_neg (fun e=>by subst e;simp [look] at hl)]))) (by kernel_rfl) ?_;intro X hX hP hC aH aI vals hA;refine ⟨_,by simp,hA, ?_⟩;have af:X.P.follows .mixedOrders=true:=(by rw [hP];exact T.mixed);clear aH aI)
  repeat' (first|(show dH _ .ret _ _;(try simp only [go_sem,simprocAttr]);refine gm hX 2 200 (.own 49 1 []) ?_ ?_ (by decide) ⟨49,1,by decide, .inl rfl⟩ ?_;(iterate 2 (focus (simp only [go_sem,simprocAttr];done)));simp only [go_sem,simprocAttr])|((first|((with_reducible (first|apply oA|apply oB));exact rfl;intro K hK)|(refine hK _ ?_;clear hK K)|((with_reducible (first|apply oG|apply oH));iterate 3 exact rfl)|((with_reducible apply oI);(iterate 2 exact rfl);intro K hK)|(with_reducible (first|apply wI|apply wJ|apply wK)));try simp only [go_sem,simprocAttr])|(with_reducible (first|apply oC|apply oJ|exact oK|apply wA|apply wB|apply wC hX hC|apply wD hX hC|apply wE hX hC af|apply wF hX hC af|apply wG|apply wH|apply And.intro))|((with_reducible refine oD ?_ ?_);kernel_rfl)|((with_reducible (first|apply oE|apply oF));(iterate 3 exact rfl);all_goals (intro h;first|(exact absurd h (by decide))|((try simp only [go_sem,simprocAttr] at h);(try with_reducible intro K hK);simp only [go_sem,simprocAttr])))|((first|((with_reducible apply wL);exact rfl)|((with_reducible apply wM);exact rfl));all_goals (try ((with_reducible intro h);first|(exact absurd h (by decide))|(try simp only [go_sem,simprocAttr] at h))))|omega|((first|refine aa hX hC hP (hM) rfl rfl rfl (by simp only [go_sem,simprocAttr]) rfl ?_);try simp only [go_sem,simprocAttr])|(intro h))
 |true=>
  rw [hm] at hM
  have hn:=aR hm
  have he:iU g=oP g.n.toNat:=by unfold iU;rw [if_pos hm]
  rw [he]
  (refine Spec.dO (C:=T.cfg [200,17] []) (rs:= [.t 2]) [(10000,200)] (T.ai _ _) Tryz.func64 rfl rfl Tryz.ntmps64 Tryz.results64 (by simp [AObj.isNest]) (by simp [AObj.isNest]) (by first|(simp [look];done)|(simp [asN];done)|(intro l hl;simp only [asN];repeat (rw [if_neg (fun e=>by subst e;simp [look] at hl)]))) (by first|(simp [look];done)|(simp [asN];done)|(intro l hl;simp only [asN];repeat (rw [if_neg (fun e=>by subst e;simp [look] at hl)]))) (by kernel_rfl) ?_;intro X hX hP hC aH aI vals hA;refine ⟨_,by simp,hA, ?_⟩;have af:X.P.follows .mixedOrders=true:=(by rw [hP];exact T.mixed);clear aH aI)
  repeat' (first|((first|((with_reducible (first|apply oA|apply oB));exact rfl;intro K hK)|(refine hK _ ?_;clear hK K)|((with_reducible (first|apply oG|apply oH));iterate 3 exact rfl)|((with_reducible apply oI);(iterate 2 exact rfl);intro K hK)|(with_reducible (first|apply wI|apply wJ|apply wK)));try simp only [go_sem,simprocAttr])|(show dH _ (.seq (.region 3 _ _) _) _ _;(refine gm hX 2 200 (.own 49 1 []) ?_ ?_ (by decide) ⟨49,1,by decide, .inl rfl⟩ ?_;(iterate 2 (focus (simp only [go_sem,simprocAttr];done)));simp only [go_sem,simprocAttr]))|(with_reducible (first|apply oC|apply oJ|exact oK|apply wA|apply wB|apply wC hX hC|apply wD hX hC|apply wE hX hC af|apply wF hX hC af|apply wG|apply wH|apply And.intro))|((with_reducible refine oD ?_ ?_);kernel_rfl)|((with_reducible (first|apply oE|apply oF));(iterate 3 exact rfl);all_goals (intro h;first|(exact absurd h (by decide))|((try simp only [go_sem,simprocAttr] at h);(try with_reducible intro K hK);simp only [go_sem,simprocAttr])))|((first|((with_reducible apply wL);exact rfl)|((with_reducible apply wM);exact rfl));all_goals (try ((with_reducible intro h);first|(exact absurd h (by decide))|(try simp only [go_sem,simprocAttr] at h))))|omega|((first|refine aa hX hC hP (hM) rfl rfl rfl (by simp only [go_sem,simprocAttr]) rfl ?_);try simp only [go_sem,simprocAttr])|(intro h))
  refine aj (fun k:Nat=>k≤g.n.toNat) (fun k=>⟨[(2, .ref 200),(8,eN g.n),(9,eN k)], [(200, .own 49 1 ((oP k).map rU))]⟩) (fun k=>g.n.toNat - k) 0 (by omega) ?_ ?_
  ·refine Le.of ?_ ?_<;>simp [go_sem,simprocAttr,oP]
  rintro k hk
  rcases Nat.lt_or_ge k g.n.toNat with hlt|hge
  ·have hb:decide ((k:Int)<g.n)=true:=decide_eq_true (by omega)
   have pO:=sj (k:=k)
   have c7:=A1 (k:=k)
   have MJ:=C8 k (by omega)
   generalize oP k=O1 at pO c7
   repeat' (first|((first|((with_reducible (first|apply oA|apply oB));exact rfl;intro K hK)|(refine hK _ ?_;clear hK K)|((with_reducible (first|apply oG|apply oH));iterate 3 exact rfl)|((with_reducible apply oI);(iterate 2 exact rfl);intro K hK)|(with_reducible (first|apply wI|apply wJ|apply wK)));try simp only [go_sem,simprocAttr,hb,pO])|(show dH _ (.region 7 _ _) _ _;(refine mg hX 2 17 200 (by simp only [go_sem,simprocAttr,hb,pO]) rfl (by first|exact .inl rfl|exact .inr rfl) (by decide) ?_;simp only [go_sem,simprocAttr,hb,pO]))|(with_reducible (first|apply oC|apply oJ|exact oK|apply wA|apply wB|apply wC hX hC|apply wD hX hC|apply wE hX hC af|apply wF hX hC af|apply wG|apply wH|apply And.intro))|((with_reducible refine oD ?_ ?_);kernel_rfl)|((with_reducible (first|apply oE|apply oF));(iterate 3 exact rfl);all_goals (intro h;first|(exact absurd h (by decide))|((try simp only [go_sem,simprocAttr,hb,pO] at h);(try with_reducible intro K hK);simp only [go_sem,simprocAttr,hb,pO])))|((first|((with_reducible apply wL);exact rfl)|((with_reducible apply wM);exact rfl));all_goals (try ((with_reducible intro h);first|(exact absurd h (by decide))|(try simp only [go_sem,simprocAttr,hb,pO] at h))))|omega|((first|(refine bQ hX hC hP (MJ) rfl rfl rfl ?_ ?_ rfl ?_;iterate 2 (focus (simp only [go_sem,simprocAttr,hb,pO];done))));try simp only [go_sem,simprocAttr,hb,pO])|(intro h))
   refine ⟨k+1,by omega, ?_,by omega⟩
   rw [c7]
   refine Le.of ?_ ?_<;>simp [go_sem,simprocAttr,hb,pO,rU]
  ·have hb:decide ((k:Int)<g.n)=false:=decide_eq_false (by omega)
   obtain rfl:k=g.n.toNat:=by omega
   repeat' (first|((first|((with_reducible (first|apply oA|apply oB));exact rfl;intro K hK)|(refine hK _ ?_;clear hK K)|((with_reducible (first|apply oG|apply oH));iterate 3 exact rfl)|((with_reducible apply oI);(iterate 2 exact rfl);intro K hK)|(with_reducible (first|apply wI|apply wJ|apply wK)));try simp only [go_sem,simprocAttr,hb])|(with_reducible (first|apply oC|apply oJ|exact oK|apply wA|apply wB|apply wC hX hC|apply wD hX hC|apply wE hX hC af|apply wF hX hC af|apply wG|apply wH|apply And.intro))|((with_reducible refine oD ?_ ?_);kernel_rfl)|((with_reducible (first|apply oE|apply oF));(iterate 3 exact rfl);all_goals (intro h;first|(exact absurd h (by decide))|((try simp only [go_sem,simprocAttr,hb] at h);(try with_reducible intro K hK);simp only [go_sem,simprocAttr,hb])))|((first|((with_reducible apply wL);exact rfl)|((with_reducible apply wM);exact rfl));all_goals (try ((with_reducible intro h);first|(exact absurd h (by decide))|(try simp only [go_sem,simprocAttr,hb] at h))))|omega|(intro h))
theorem KX {a b:Nat} :(!decide ((a:Int)=(b:Int)))=decide (a≠b):=by
 by_cases h:a=b
 ·simp [h]
 ·simp [h];omega
theorem Ek {g:Gr} (hn:g.n.toNat≤64) (both:Bool) (c:Nat→Bool):∃M:Nat,∀b:List Nat,Bi g both c b→si b≤M:=
 ⟨_,fun b hb=>by have:=xw (a:=b) fun x=>hb.lt hn x;rw [hb.len] at this;exact this⟩
theorem yJ (g:Gr) (hm:aL g=true) (both:Bool) (c:Nat→Bool) (F:Nat) (hF:∀i,i<g.es.length→Spec Tryz.prog F (Args [eN i]) [] (eB (c i)) []) (a0:List Nat) (h0:Bi g both c a0):
 Spec Tryz.prog 65 (Args [eG g, .ref 10000,eB both, .fn F [] []]) [(10000, .own 49 1 (a0.map rU))] (.tup []) [(10000, .own 49 1 ((Dl g both c).map rU))]:=by
 have hn:=aR hm
 obtain ⟨M,hM⟩:=Ek (g:=g) (by omega) both c
 (refine Spec.intro (C:=T.cfg [] []) (rs:= []) (T.ai _ _) Tryz.func65 rfl rfl Tryz.ntmps65 Tryz.results65 (by simp [AObj.isNest]) (by simp [AObj.isNest]) (by kernel_rfl) ?_;intro X hX hP hC aH aI vals hA;refine ⟨_,by simp,hA, ?_⟩;have af:X.P.follows .mixedOrders=true:=(by rw [hP];exact T.mixed);clear aH aI)
 repeat' (first|((first|((with_reducible (first|apply oA|apply oB));exact rfl;intro K hK)|(refine hK _ ?_;clear hK K)|((with_reducible (first|apply oG|apply oH));iterate 3 exact rfl)|((with_reducible apply oI);(iterate 2 exact rfl);intro K hK)|(with_reducible (first|apply wI|apply wJ|apply wK)));try simp only [go_sem,simprocAttr])|(with_reducible (first|apply oC|apply oJ|exact oK|apply wA|apply wB|apply wC hX hC|apply wD hX hC|apply wE hX hC af|apply wF hX hC af|apply wG|apply wH|apply And.intro))|((with_reducible refine oD ?_ ?_);kernel_rfl)|((with_reducible (first|apply oE|apply oF));(iterate 3 exact rfl);all_goals (intro h;first|(exact absurd h (by decide))|((try simp only [go_sem,simprocAttr] at h);(try with_reducible intro K hK);simp only [go_sem,simprocAttr])))|((first|((with_reducible apply wL);exact rfl)|((with_reducible apply wM);exact rfl));all_goals (try ((with_reducible intro h);first|(exact absurd h (by decide))|(try simp only [go_sem,simprocAttr] at h))))|omega|(intro h))
 refine aj (fun s:List Nat × Bool=>Bi g both c s.1∧(s.2=false→s.1=Dl g both c)) (fun s=>⟨[(1, .ref 10000),(2,eB both),(3, .fn F [] []),(4, .ptr 4 0),(8,eB s.2)], [(10000, .own 49 1 (s.1.map rU)),(4, .box [eN g.n, .d (sE g.es)])]⟩) (fun s=>2*(M - si s.1)+(if s.2=true then 1 else 0)) (a0,true) ⟨h0,by simp⟩ ?_ ?_
 ·refine Le.of ?_ ?_<;>simp [go_sem,simprocAttr]
 rintro ⟨a,more⟩ ⟨hG,pF⟩
 simp only at hG pF ⊢
 cases more with
 |false=>
  have:=pF rfl
  subst this
  repeat' (first|((first|((with_reducible (first|apply oA|apply oB));exact rfl;intro K hK)|(refine hK _ ?_;clear hK K)|((with_reducible (first|apply oG|apply oH));iterate 3 exact rfl)|((with_reducible apply oI);(iterate 2 exact rfl);intro K hK)|(with_reducible (first|apply wI|apply wJ|apply wK)));try simp only [go_sem,simprocAttr])|(with_reducible (first|apply oC|apply oJ|exact oK|apply wA|apply wB|apply wC hX hC|apply wD hX hC|apply wE hX hC af|apply wF hX hC af|apply wG|apply wH|apply And.intro))|((with_reducible refine oD ?_ ?_);kernel_rfl)|((with_reducible (first|apply oE|apply oF));(iterate 3 exact rfl);all_goals (intro h;first|(exact absurd h (by decide))|((try simp only [go_sem,simprocAttr] at h);(try with_reducible intro K hK);simp only [go_sem,simprocAttr])))|((first|((with_reducible apply wL);exact rfl)|((with_reducible apply wM);exact rfl));all_goals (try ((with_reducible intro h);first|(exact absurd h (by decide))|(try simp only [go_sem,simprocAttr] at h))))|omega|(intro h))
 |true=>
 repeat' (first|((first|((with_reducible (first|apply oA|apply oB));exact rfl;intro K hK)|(refine hK _ ?_;clear hK K)|((with_reducible (first|apply oG|apply oH));iterate 3 exact rfl)|((with_reducible apply oI);(iterate 2 exact rfl);intro K hK)|(with_reducible (first|apply wI|apply wJ|apply wK)));try simp only [go_sem,simprocAttr])|(with_reducible (first|apply oC|apply oJ|exact oK|apply wA|apply wB|apply wC hX hC|apply wD hX hC|apply wE hX hC af|apply wF hX hC af|apply wG|apply wH|apply And.intro))|((with_reducible refine oD ?_ ?_);kernel_rfl)|((with_reducible (first|apply oE|apply oF));(iterate 3 exact rfl);all_goals (intro h;first|(exact absurd h (by decide))|((try simp only [go_sem,simprocAttr] at h);(try with_reducible intro K hK);simp only [go_sem,simprocAttr])))|((first|((with_reducible apply wL);exact rfl)|((with_reducible apply wM);exact rfl));all_goals (try ((with_reducible intro h);first|(exact absurd h (by decide))|(try simp only [go_sem,simprocAttr] at h))))|omega|(intro h))
 refine aj (fun k:Nat=>k≤g.es.length) (fun k=>⟨[(1, .ref 10000),(2,eB both),(3, .fn F [] []),(4, .ptr 4 0),(8,eB (bH g both c a k).2),(15, .d (sE g.es)),(16,eN g.es.length),(17,eN k)], [(10000, .own 49 1 ((bH g both c a k).1.map rU)),(4, .box [eN g.n, .d (sE g.es)])]⟩) (fun k=>g.es.length - k) 0 (by omega) ?_ ?_
 ·refine Le.of ?_ ?_<;>simp [go_sem,simprocAttr,bH]
 rintro k hk
 rcases Nat.lt_or_ge k g.es.length with hlt|hge
 rotate_left
 ·have hb:decide ((k:Int)<(g.es.length:Int))=false:=decide_eq_false (by omega)
  obtain rfl:k=g.es.length:=by omega
  obtain ⟨i1,_⟩:=iw hm hG (Nat.le_refl g.es.length)
  have H6:=yH hm hG
  have EM:=iJ (g:=g) (both:=both) (c:=c) (a:=a) (k:=g.es.length)
  have hdone:=AZ hm hG
  have BE:=hM _ i1
  generalize bH g both c a g.es.length=R at*
  repeat' (first|((first|((with_reducible (first|apply oA|apply oB));exact rfl;intro K hK)|(refine hK _ ?_;clear hK K)|((with_reducible (first|apply oG|apply oH));iterate 3 exact rfl)|((with_reducible apply oI);(iterate 2 exact rfl);intro K hK)|(with_reducible (first|apply wI|apply wJ|apply wK)));try simp only [go_sem,simprocAttr,hb])|(with_reducible (first|apply oC|apply oJ|exact oK|apply wA|apply wB|apply wC hX hC|apply wD hX hC|apply wE hX hC af|apply wF hX hC af|apply wG|apply wH|apply And.intro))|((with_reducible refine oD ?_ ?_);kernel_rfl)|((with_reducible (first|apply oE|apply oF));(iterate 3 exact rfl);all_goals (intro h;first|(exact absurd h (by decide))|((try simp only [go_sem,simprocAttr,hb] at h);(try with_reducible intro K hK);simp only [go_sem,simprocAttr,hb])))|((first|((with_reducible apply wL);exact rfl)|((with_reducible apply wM);exact rfl));all_goals (try ((with_reducible intro h);first|(exact absurd h (by decide))|(try simp only [go_sem,simprocAttr,hb] at h))))|omega|(intro h))
  refine ⟨(R.1,R.2),⟨i1,fun hf=> ?_⟩, ?_, ?_⟩
  ·rw [(EM hf).1];exact hdone hf
  ·refine Le.of ?_ ?_<;>simp [go_sem,simprocAttr,hb]
  ·cases KY:R.2 with
   |true=>have:=H6 KY;simp;omega
   |false=>rw [(EM KY).1];simp
 have hb:decide ((k:Int)<(g.es.length:Int))=true:=decide_eq_true (by omega)
 obtain ⟨IC,_⟩:=iw hm hG (k:=k) (by omega)
 obtain ⟨ht,hh⟩:=ee hm hlt
 have Gf:=hF k hlt
 have xF:=IC.len
 have El:=IC.lt (by omega)
 obtain ⟨x,hx⟩:∃x:Nat,(g.es.getD k (0,0)).1=x:=⟨(g.es.getD k (0,0)).1.toNat,by omega⟩
 obtain ⟨y,hy⟩:∃y:Nat,(g.es.getD k (0,0)).2=y:=⟨(g.es.getD k (0,0)).2.toNat,by omega⟩
 have Bb:(tl g k).toNat=x:=by show ((g.es.getD k (0,0)).1).toNat=x;rw [hx];rfl
 have JU:(hd g k).toNat=y:=by show ((g.es.getD k (0,0)).2).toNat=y;rw [hy];rfl
 have c7:bH g both c a (k+1)=if c k=true then ((((bH g both c a k).1.set x ((bH g both c a k).1.getD x 0 ||| (bH g both c a k).1.getD y 0)).set y (if both=true then (bH g both c a k).1.getD x 0 ||| (bH g both c a k).1.getD y 0 else (bH g both c a k).1.getD y 0)),(bH g both c a k).2||(decide ((bH g both c a k).1.getD x 0 ||| (bH g both c a k).1.getD y 0≠(bH g both c a k).1.getD x 0)||decide ((if both=true then (bH g both c a k).1.getD x 0 ||| (bH g both c a k).1.getD y 0 else (bH g both c a k).1.getD y 0)≠(bH g both c a k).1.getD y 0))) else bH g both c a k:=by
  simp only [bH,Bb,JU]
 generalize bH g both c a k=R at IC xF El c7
 obtain ⟨A,m1⟩:=R
 simp only at IC xF El c7 ⊢
 have J5:=El x
 have MK:=El y
 cases hc:c k with
 |false=>
  rw [hc] at Gf c7
  repeat' (first|((first|((with_reducible (first|apply oA|apply oB));exact rfl;intro K hK)|(refine hK _ ?_;clear hK K)|((with_reducible (first|apply oG|apply oH));iterate 3 exact rfl)|((with_reducible apply oI);(iterate 2 exact rfl);intro K hK)|(with_reducible (first|apply wI|apply wJ|apply wK)));try simp only [go_sem,simprocAttr,hb,hx,hy])|(with_reducible (first|apply oC|apply oJ|exact oK|apply wA|apply wB|apply wC hX hC|apply wD hX hC|apply wE hX hC af|apply wF hX hC af|apply wG|apply wH|apply And.intro))|((with_reducible refine oD ?_ ?_);kernel_rfl)|((with_reducible (first|apply oE|apply oF));(iterate 3 exact rfl);all_goals (intro h;first|(exact absurd h (by decide))|((try simp only [go_sem,simprocAttr,hb,hx,hy] at h);(try with_reducible intro K hK);simp only [go_sem,simprocAttr,hb,hx,hy])))|((first|((with_reducible apply wL);exact rfl)|((with_reducible apply wM);exact rfl));all_goals (try ((with_reducible intro h);first|(exact absurd h (by decide))|(try simp only [go_sem,simprocAttr,hb,hx,hy] at h))))|omega|((first|refine aa hX hC hP (Gf) rfl rfl rfl (by simp only [go_sem,simprocAttr,hb,hx,hy]) rfl ?_);try simp only [go_sem,simprocAttr,hb,hx,hy])|(intro h))
  refine ⟨k+1,by omega, ?_,by omega⟩
  rw [c7]
  refine Le.of ?_ ?_<;>simp [go_sem,simprocAttr,hb,hx,hy]
 |true=>
  rw [hc] at Gf c7
  rw [if_pos rfl] at c7
  have n1:=KX (a:=A.getD x 0 ||| A.getD y 0) (b:=A.getD x 0)
  have n2:=KX (a:=if both=true then A.getD x 0 ||| A.getD y 0 else A.getD y 0) (b:=A.getD y 0)
  have J9:A.getD x 0 ||| A.getD y 0<18446744073709551616:=Nat.or_lt_two_pow (n:=64) J5 MK
  have Fw:(A.set x (A.getD x 0 ||| A.getD y 0)).length=A.length:=List.length_set ..
  generalize um:A.getD x 0 ||| A.getD y 0=t at n1 n2 c7 J9 Fw
  generalize KZ:decide (t≠A.getD x 0)=d1 at n1 c7
  cases both with
  |true=>
   rw [if_pos rfl] at n2 c7
   generalize Ka:decide (t≠A.getD y 0)=d2 at n2 c7
   clear KZ Ka
   cases m1<;>cases d1<;>cases d2<;>simp only [Bool.or_false,Bool.or_true,Bool.false_or,Bool.true_or] at c7
   all_goals (repeat' (first|((first|((with_reducible (first|apply oA|apply oB));exact rfl;intro K hK)|(refine hK _ ?_;clear hK K)|((with_reducible (first|apply oG|apply oH));iterate 3 exact rfl)|((with_reducible apply oI);(iterate 2 exact rfl);intro K hK)|(with_reducible (first|apply wI|apply wJ|apply wK)));try simp only [go_sem,simprocAttr,hb,hx,hy,um,n1,n2,xF,fH,List.length_set])|(with_reducible (first|apply oC|apply oJ|exact oK|apply wA|apply wB|apply wC hX hC|apply wD hX hC|apply wE hX hC af|apply wF hX hC af|apply wG|apply wH|apply And.intro))|((with_reducible refine oD ?_ ?_);kernel_rfl)|((with_reducible (first|apply oE|apply oF));(iterate 3 exact rfl);all_goals (intro h;first|(exact absurd h (by decide))|((try simp only [go_sem,simprocAttr,hb,hx,hy,um,n1,n2,xF,fH,List.length_set] at h);(try with_reducible intro K hK);simp only [go_sem,simprocAttr,hb,hx,hy,um,n1,n2,xF,fH,List.length_set])))|((first|((with_reducible apply wL);exact rfl)|((with_reducible apply wM);exact rfl));all_goals (try ((with_reducible intro h);first|(exact absurd h (by decide))|(try simp only [go_sem,simprocAttr,hb,hx,hy,um,n1,n2,xF,fH,List.length_set] at h))))|omega|((first|refine aa hX hC hP (Gf) rfl rfl rfl (by simp only [go_sem,simprocAttr,hb,hx,hy,um,n1,n2,xF,fH,List.length_set]) rfl ?_);try simp only [go_sem,simprocAttr,hb,hx,hy,um,n1,n2,xF,fH,List.length_set])|(intro h)))
   all_goals (refine ⟨k+1,by omega, ?_,by omega⟩)
   all_goals (rw [c7])
   all_goals (refine Le.of ?_ ?_<;>simp [go_sem,simprocAttr,hb,hx,hy,um,n1,n2,xF,fH,List.length_set])
  |false=>
   rw [if_neg (by simp)] at n2 c7
   have Ka:decide (A.getD y 0≠A.getD y 0)=false:=decide_eq_false fun h=>h rfl
   rw [Ka] at n2 c7
   clear KZ
   cases m1<;>cases d1<;>simp only [Bool.or_false,Bool.or_true,Bool.false_or,Bool.true_or] at c7
   all_goals (repeat' (first|((first|((with_reducible (first|apply oA|apply oB));exact rfl;intro K hK)|(refine hK _ ?_;clear hK K)|((with_reducible (first|apply oG|apply oH));iterate 3 exact rfl)|((with_reducible apply oI);(iterate 2 exact rfl);intro K hK)|(with_reducible (first|apply wI|apply wJ|apply wK)));try simp only [go_sem,simprocAttr,hb,hx,hy,um,n1,n2,xF,fH,List.length_set])|(with_reducible (first|apply oC|apply oJ|exact oK|apply wA|apply wB|apply wC hX hC|apply wD hX hC|apply wE hX hC af|apply wF hX hC af|apply wG|apply wH|apply And.intro))|((with_reducible refine oD ?_ ?_);kernel_rfl)|((with_reducible (first|apply oE|apply oF));(iterate 3 exact rfl);all_goals (intro h;first|(exact absurd h (by decide))|((try simp only [go_sem,simprocAttr,hb,hx,hy,um,n1,n2,xF,fH,List.length_set] at h);(try with_reducible intro K hK);simp only [go_sem,simprocAttr,hb,hx,hy,um,n1,n2,xF,fH,List.length_set])))|((first|((with_reducible apply wL);exact rfl)|((with_reducible apply wM);exact rfl));all_goals (try ((with_reducible intro h);first|(exact absurd h (by decide))|(try simp only [go_sem,simprocAttr,hb,hx,hy,um,n1,n2,xF,fH,List.length_set] at h))))|omega|((first|refine aa hX hC hP (Gf) rfl rfl rfl (by simp only [go_sem,simprocAttr,hb,hx,hy,um,n1,n2,xF,fH,List.length_set]) rfl ?_);try simp only [go_sem,simprocAttr,hb,hx,hy,um,n1,n2,xF,fH,List.length_set])|(intro h)))
   all_goals (refine ⟨k+1,by omega, ?_,by omega⟩)
   all_goals (rw [c7])
   all_goals (refine Le.of ?_ ?_<;>simp [go_sem,simprocAttr,hb,hx,hy,um,n1,n2,xF,fH,List.length_set])
theorem tA {l:List Nat} :∀r∈l.map rU,∀x∈r,∃v,x=D.sc v:=by
 intro r hr x hx
 obtain ⟨y,_,rfl⟩:=List.mem_map.1 hr
 simp only [rU,List.mem_singleton] at hx
 exact ⟨_,hx⟩
theorem yK (i:Nat):Spec Tryz.prog 66 (Args [eN i]) [] (eB true) []:=by
 (refine Spec.intro (C:=T.cfg [] []) (rs:= [.t 2]) (T.ai _ _) Tryz.func66 rfl rfl Tryz.ntmps66 Tryz.results66 (by simp [AObj.isNest]) (by simp [AObj.isNest]) (by kernel_rfl) ?_;intro X hX hP hC aH aI vals hA;refine ⟨_,by simp,hA, ?_⟩;have af:X.P.follows .mixedOrders=true:=(by rw [hP];exact T.mixed);clear aH aI)
 repeat' (first|((first|((with_reducible (first|apply oA|apply oB));exact rfl;intro K hK)|(refine hK _ ?_;clear hK K)|((with_reducible (first|apply oG|apply oH));iterate 3 exact rfl)|((with_reducible apply oI);(iterate 2 exact rfl);intro K hK)|(with_reducible (first|apply wI|apply wJ|apply wK)));try simp only [go_sem,simprocAttr])|(with_reducible (first|apply oC|apply oJ|exact oK|apply wA|apply wB|apply wC hX hC|apply wD hX hC|apply wE hX hC af|apply wF hX hC af|apply wG|apply wH|apply And.intro))|((with_reducible refine oD ?_ ?_);kernel_rfl)|((with_reducible (first|apply oE|apply oF));(iterate 3 exact rfl);all_goals (intro h;first|(exact absurd h (by decide))|((try simp only [go_sem,simprocAttr] at h);(try with_reducible intro K hK);simp only [go_sem,simprocAttr])))|((first|((with_reducible apply wL);exact rfl)|((with_reducible apply wM);exact rfl));all_goals (try ((with_reducible intro h);first|(exact absurd h (by decide))|(try simp only [go_sem,simprocAttr] at h))))|omega|((first|refine aa hX hC hP (Gf) rfl rfl rfl (by simp only [go_sem,simprocAttr]) rfl ?_);try simp only [go_sem,simprocAttr])|(intro h))
theorem A2 {g:Gr} (hm:aL g=true) {both:Bool} {c:Nat→Bool} :Bi g both c (iU g):=by
 have he:iU g=oP g.n.toNat:=by unfold iU;rw [if_pos hm]
 have yc:∀x,x<g.n.toNat→(oP g.n.toNat).getD x 0=2 ^ x:=fun x hx=>by simp [oP,List.getD_eq_getElem?_getD,List.getElem?_range hx]
 rw [he]
 refine ⟨sj,fun x hx=>by rw [yc x hx,Nat.testBit_two_pow_self],fun x y hx hb=> ?_⟩
 rw [yc x hx,Nat.testBit_two_pow] at hb
 have:x=y:=of_decide_eq_true hb
 subst this
 exact ⟨hx, .refl⟩
noncomputable def A4 (g:Gr):List Nat:=if aL g=true then Dl g false (fun _=>true) else []
theorem A5 (g:Gr) (hl:g.es.length≤9223372036854775807):Spec Tryz.prog 25 (Args [eG g]) [] (.d (sU (A4 g))) []:=by
 have hE:=yI g hl
 cases hm:aL g with
 |false=>
  have he:iU g= []:=by unfold iU;rw [hm];rfl
  have hf:A4 g= []:=by unfold A4;rw [hm];rfl
  rw [he] at hE
  rw [hf]
  (refine Spec.intro (C:=T.cfg [] []) (rs:= [.t 2]) (T.ai _ _) Tryz.func25 rfl rfl Tryz.ntmps25 Tryz.results25 (by simp [AObj.isNest]) (by simp [AObj.isNest]) (by kernel_rfl) ?_;intro X hX hP hC aH aI vals hA;refine ⟨_,by simp,hA, ?_⟩;have af:X.P.follows .mixedOrders=true:=(by rw [hP];exact T.mixed);clear aH aI)
  repeat' (first|((first|((with_reducible (first|apply oA|apply oB));exact rfl;intro K hK)|(refine hK _ ?_;clear hK K)|((with_reducible (first|apply oG|apply oH));iterate 3 exact rfl)|((with_reducible apply oI);(iterate 2 exact rfl);intro K hK)|(with_reducible (first|apply wI|apply wJ|apply wK)));try simp only [go_sem,simprocAttr])|(with_reducible (first|apply oC|apply oJ|exact oK|apply wA|apply wB|apply wC hX hC|apply wD hX hC|apply wE hX hC af|apply wF hX hC af|apply wG|apply wH|apply And.intro))|((with_reducible refine oD ?_ ?_);kernel_rfl)|((with_reducible (first|apply oE|apply oF));(iterate 3 exact rfl);all_goals (intro h;first|(exact absurd h (by decide))|((try simp only [go_sem,simprocAttr] at h);(try with_reducible intro K hK);simp only [go_sem,simprocAttr])))|((first|((with_reducible apply wL);exact rfl)|((with_reducible apply wM);exact rfl));all_goals (try ((with_reducible intro h);first|(exact absurd h (by decide))|(try simp only [go_sem,simprocAttr] at h))))|omega|((first|(refine jS hX hC hP 5 (hE) rfl rfl rfl ?_ ?_ (by first|exact ⟨_,_,_,rfl,tu⟩|exact ⟨_,_,_,rfl,tv⟩|exact ⟨_,_,_,rfl,tA⟩) rfl (by decide) ?_;(iterate 2 (focus (simp only [go_sem,simprocAttr];done)));simp only [go_sem,simprocAttr]));try simp only [go_sem,simprocAttr])|(intro h))
 |true=>
  have hn:=aR hm
  have he:(iU g).length=g.n.toNat:=by unfold iU;rw [if_pos hm];exact sj
  have hf:A4 g=Dl g false (fun _=>true):=by unfold A4;rw [if_pos hm]
  have hG:=yJ g hm false (fun _=>true) 66 (fun i _=>yK i) (iU g) (A2 hm)
  have hb:decide ((g.n.toNat:Int)=0)=false:=decide_eq_false (by omega)
  rw [hf]
  generalize iU g=U at hE he hG
  (refine Spec.intro (C:=T.cfg [] []) (rs:= [.t 2]) (T.ai _ _) Tryz.func25 rfl rfl Tryz.ntmps25 Tryz.results25 (by simp [AObj.isNest]) (by simp [AObj.isNest]) (by kernel_rfl) ?_;intro X hX hP hC aH aI vals hA;refine ⟨_,by simp,hA, ?_⟩;have af:X.P.follows .mixedOrders=true:=(by rw [hP];exact T.mixed);clear aH aI)
  repeat' (first|((first|((with_reducible (first|apply oA|apply oB));exact rfl;intro K hK)|(refine hK _ ?_;clear hK K)|((with_reducible (first|apply oG|apply oH));iterate 3 exact rfl)|((with_reducible apply oI);(iterate 2 exact rfl);intro K hK)|(with_reducible (first|apply wI|apply wJ|apply wK)));try simp only [go_sem,simprocAttr,he,hb])|(with_reducible (first|apply oC|apply oJ|exact oK|apply wA|apply wB|apply wC hX hC|apply wD hX hC|apply wE hX hC af|apply wF hX hC af|apply wG|apply wH|apply And.intro))|((with_reducible refine oD ?_ ?_);kernel_rfl)|((with_reducible (first|apply oE|apply oF));(iterate 3 exact rfl);all_goals (intro h;first|(exact absurd h (by decide))|((try simp only [go_sem,simprocAttr,he,hb] at h);(try with_reducible intro K hK);simp only [go_sem,simprocAttr,he,hb])))|((first|((with_reducible apply wL);exact rfl)|((with_reducible apply wM);exact rfl));all_goals (try ((with_reducible intro h);first|(exact absurd h (by decide))|(try simp only [go_sem,simprocAttr,he,hb] at h))))|omega|((first|(refine jS hX hC hP 5 (hE) rfl rfl rfl ?_ ?_ (by first|exact ⟨_,_,_,rfl,tu⟩|exact ⟨_,_,_,rfl,tv⟩|exact ⟨_,_,_,rfl,tA⟩) rfl (by decide) ?_;(iterate 2 (focus (simp only [go_sem,simprocAttr,he,hb];done)));simp only [go_sem,simprocAttr,he,hb])|(refine aA hX hC hP [(10000,5)] (hG) rfl rfl rfl ?_ ?_ ?_ ?_ ?_ ?_ ?_ ?_ ?_ ?_ ?_ ?_ ?_ ?_;(focus (simp only [go_sem,simprocAttr,he,hb];done));(iterate 12 (focus (simp [go_sem,simprocAttr,he,hb];done)));simp only [go_sem,simprocAttr,he,hb,List.map_cons,List.map_nil]));try simp only [go_sem,simprocAttr,he,hb])|(intro h))
end Go.Ab
end
section
namespace Go.Ab
open Go.Proofs
set_option maxRecDepth 10000
set_option linter.unusedSectionVars false
theorem FT {G:Gr} {P:PS} {A B:Int→Int} (hm:aL G=true) (hl:G.es.length=P.m) (ht:∀i:Nat,i<P.m→tl G i=A i) (hh:∀i:Nat,i<P.m→hd G i=B i) {x:Nat} {y:Int} :
 P.Lp A B x y↔0≤y∧vj G false (fun _=>true) x y.toNat:=by
 constructor
 ·intro hp
  induction hp with
  |refl=>exact ⟨by omega,by simp only [Int.toNat_natCast];exact .refl⟩
  | @step e _ he ih=>
    have h1:=he.1;have h2:=he.2
    have hi:e.toNat<G.es.length:=by omega
    have e1:=ht e.toNat (by omega)
    have e2:=hh e.toNat (by omega)
    rw [show ((e.toNat:Nat):Int)=e by omega] at e1 e2
    have:=cD hm hi
    rw [← e2]
    refine ⟨this.1, .fwd hi rfl ?_⟩
    rw [e1];exact ih.2
 ·rintro ⟨h0,hr⟩
  have key:∀z,vj G false (fun _=>true) x z→P.Lp A B x (z:Int):=by
   intro z hz
   induction hz with
   |refl=>exact .refl
   | @fwd i hi _ _ ih=>
     have h1:=cr hm hi
     have h2:=cD hm hi
     rw [show (((tl G i).toNat:Nat):Int)=tl G i by omega,ht i (by omega)] at ih
     rw [show (((hd G i).toNat:Nat):Int)=hd G i by omega,hh i (by omega)]
     exact .step (e:=(i:Int)) ih ⟨by omega,by omega⟩
   |HY _ _ h _ _=>cases h
  have:=key _ hr
  rwa [show ((y.toNat:Nat):Int)=y by omega] at this
theorem sk {P:PS} {x y:Int} :P.jl x y↔P.Lp P.tl P.hd x y:=by
 constructor<;>intro hp
 ·induction hp with
  |refl=>exact .refl
  |step _ he ih=>exact .step ih he
 ·induction hp with
  |refl=>exact .refl
  |step _ he ih=>exact .step ih he
def Em (s:Nat) (x:Int):Bool:=decide (0≤x)&&decide (x<64)&&s.testBit x.toNat
theorem En {G:Gr} {P:PS} {A B:Int→Int} (hm:aL G=true) (hl:G.es.length=P.m) (ht:∀i:Nat,i<P.m→tl G i=A i) (hh:∀i:Nat,i<P.m→hd G i=B i) {x y:Int} (hx:0≤x∧x<G.n) (hy:0≤y∧y<G.n):
 Em ((A4 G).getD x.toNat 0) y=true↔P.Lp A B x y:=by
 have hn:=aR hm
 have h1:=FT hm hl ht hh (x:=x.toNat) (y:=y)
 rw [show ((x.toNat:Nat):Int)=x by omega] at h1
 rw [h1]
 unfold Em A4
 rw [if_pos hm,yG (by omega)]
 simp only [Bool.and_eq_true,decide_eq_true_eq,zI]
 constructor
 ·exact fun h=>⟨hy.1,h.2.2⟩
 ·exact fun h=>⟨⟨hy.1,by omega⟩,by omega,h.2⟩
theorem zK {G:Gr} (hm:aL G=true):(A4 G).length=G.n.toNat:=by
 unfold A4;rw [if_pos hm];exact p5
theorem FU {G:Gr} (hm:aL G=true) {x:Nat} :(A4 G).getD x 0<18446744073709551616:=by
 have hn:=aR hm
 by_cases hx:x<G.n.toNat
 ·unfold A4
  rw [if_pos hm,yG hx]
  have:HZ G false (fun _=>true) x<2 ^ G.n.toNat:=Ei
  exact Nat.lt_of_lt_of_le this (Nat.pow_le_pow_right (by decide) (show G.n.toNat≤64 by omega))
 ·rw [List.getD_eq_getElem?_getD,List.getElem?_eq_none (by rw [zK hm];omega)];decide
section
variable {P:PS} (h:P.Ok) {L R:Int→Int} {f0 f1:Int} {low:Int→Int} (F:P.er L R f0 f1 low)
def ML (P:PS) (R:Int→Int) (f:Int):Nat→Nat
 |0=>0
 |j+1=>if R (P.sh j)=f then j+1 else ML P R f j
include h F
end
section
variable (g:Gr) (p:Pl)
def Nt:Gr:=⟨(cN g p:Int)+1,(List.range g.es.length).map fun i:Nat=>(Lf g p i,Rf g p i)⟩
end
section
variable {g:Gr} {p:Pl}
variable (h:bK g p) (hI:pe g=true)
include h hI
end
end Go.Ab
end
section
namespace Go.Ab
open Go.Proofs
set_option maxRecDepth 10000
set_option linter.unusedSectionVars false
def pK (g:Gr) (p:Pl) (rev:Bool) (v:Int):Int:=(cz g p rev g.n.toNat).getD v.toNat 0
theorem zL {P Q:PS} {A B:Int→Int} {x y:Int} (hm:P.m=Q.m) (hp:P.Lp A B x y):Q.Lp A B x y:=by
 induction hp with
 |refl=>exact .refl
 | @step e _ he ih=>exact .step ih ⟨he.1,by have:=he.2;rw [hm] at this;exact this⟩
theorem Eo {P Q:PS} {A B:Int→Int} {x y:Int} (hm:P.m=Q.m) (hp:P.Lp A B x y):Q.Lp B A y x:=by
 induction hp with
 |refl=>exact .refl
 | @step e _ he ih=>exact PS.Lp.trans (PS.Lp.step (L:=B) (R:=A) (e:=e) .refl ⟨he.1,by have:=he.2;rw [hm] at this;exact this⟩) ih
section
variable {g:Gr} {p:Pl} (h:bK g p)
include h
theorem nQ (rev:Bool) {v:Int} (hv:jb g v):∃i:Nat,i<g.n.toNat∧(eX g p rev).getD i 0=v∧pK g p rev v=i:=by
 have hm:v∈eX g p rev:=(AN h rev).mem_iff.2 (dm.2 (by have:=hv.1;have:=hv.2;omega))
 obtain ⟨i,hi,e⟩:=List.mem_iff_getElem.1 hm
 have hl:(eX g p rev).length=g.n.toNat:=xe
 have e2:(eX g p rev).getD i 0=v:=by rw [List.getD_eq_getElem?_getD,List.getElem?_eq_getElem hi];exact e
 refine ⟨i,by omega,e2, ?_⟩
 have:=zn h rev (k:=g.n.toNat) (Nat.le_refl _) i (by omega)
 rw [e2] at this
 exact this
theorem zM (rev:Bool) {a b:Int} (ha:jb g a) (hb:jb g b) (e:pK g p rev a=pK g p rev b):a=b:=by
 obtain ⟨i,h1,h2,h3⟩:=nQ h rev ha
 obtain ⟨j,g1,g2,g3⟩:=nQ h rev hb
 have:i=j:=by omega
 rw [← h2, ← g2,this]
variable (hI:pe g=true)
include hI
theorem H7 {v:Int} (hv:jb g v):v∈((bg g p).st (bg g p).m).D:=by
 have ok:=pg h hI
 by_cases hs:v=aK p 0
 ·have:=x4 ok (j:=0) (x:=v) (d:=(bg g p).m) (by omega) (by
   show v∈ [aK p 0]
   rw [hs];simp)
  rwa [Nat.zero_add] at this
 ·have hn:bf g v≠0:=fun h0=>hs (gX h.1 hv (bn h.2.1 (by have:=aR (az h.1);omega)) h0 (dZ h))
  have hl:=gE h hv
  obtain ⟨a,u,hu⟩:=gn (l:=eY g p v) (fun h0=>by rw [h0] at hl;exact hn hl.symm)
  obtain ⟨h1,h2⟩:=(ok.cL v a).1 (by rw [eZ hv,hu];simp)
  have:=qN ok (iI h hI) h1
  rwa [h2] at this
theorem nR {a b:Int} (ha:jb g a) (hb:jb g b) (hlt:pK g p false a<pK g p false b):(bg g p).Iq a b:=by
 have ok:=pg h hI
 have hn:=aR (az h.1)
 obtain ⟨ia,a1,a2,a3⟩:=nQ h false ha
 obtain ⟨ib,b1,b2,b3⟩:=nQ h false hb
 have fA:∀k,k≤g.n.toNat→(aO g p false k).pl=(eX g p false).take k:=fun k hk=>by
  rw [va,eX, ← List.map_take,List.take_range,Nat.min_eq_left hk]
 have hl:(eX g p false).length=g.n.toNat:=xe
 have cg:(eX g p false).Nodup:=mI (lG h false).2.1
 have hidx:∀i k,i<g.n.toNat→k≤g.n.toNat→(eX g p false).getD i 0∈(eX g p false).take k→i<k:=fun i k hi hk hm=>by
  obtain ⟨j,hj,e⟩:=List.mem_iff_getElem.1 hm
  rw [List.length_take] at hj
  rw [List.getElem_take,List.getD_eq_getElem?_getD,List.getElem?_eq_getElem (by omega)] at e
  have:=(List.getElem_inj cg).1 e
  omega
 by_cases hs:a=aK p 0
 ·refine ⟨0,Nat.zero_le _, ?_,fun an=> ?_⟩
  ·show a∈ [aK p 0]
   rw [hs];simp
  ·have an:b∈ [aK p 0]:=an
   have:b=a:=by rw [hs];simpa using an
   rw [this] at hlt;omega
 ·obtain ⟨i,A',B,k1,k2,k3,k4,k5,k6,k7⟩:=lD ok (iI h hI) (show a≠(bg g p).src from hs) (Nat.le_refl _) (H7 h hI ha)
  refine ⟨i+1,k1,by rw [k7];simp,fun an=> ?_⟩
  obtain ⟨k,g1,g2,g3,_⟩:=r8 h hI (j:=i+1) k1
  obtain ⟨k',GJ,Im,Ex,_⟩:=r8 h hI (j:=i) (Nat.le_of_lt k1)
  have hlk:=(eA h false (k:=k) g2).2.1
  have H8:=(eA h false (k:=k') Im).2.1
  rw [g3,k7] at hlk
  rw [Ex] at H8
  have hkk:k=k'+1:=by rw [← hlk, ← H8];simp
  have Nu:¬ia<k':=fun hc=>k2 (by
   rw [← Ex,fA k' Im, ← a2]
   rw [List.getD_eq_getElem?_getD,List.getElem?_eq_getElem (by omega)]
   exact List.mem_iff_getElem.2 ⟨ia,by rw [List.length_take];omega,by rw [List.getElem_take];rfl⟩)
  have hib:=hidx ib k b1 g2 (by rw [b2, ← fA k g2,g3];exact an)
  omega
theorem zN:∀ {k:Nat},k<g.n.toNat→(bg g p).jl (aK p 0) (aK p k):=by
 intro k
 induction k using Nat.strongRecOn with
 |_ k ih=>
  intro hk
  by_cases h0:k=0
  ·subst h0;exact .refl
  ·have hx:=bn h.2.1 hk
   have hn:bf g (aK p k)≠0:=fun h1=>by
    have:=gX h.1 hx (bn h.2.1 (k:=0) (by omega)) h1 (dZ h)
    exact h0 (eL h.2.1 hk (by omega) this)
   have hl:=gE h hx
   obtain ⟨a,u,hu⟩:=gn (l:=eY g p (aK p k)) (fun h1=>by rw [h1] at hl;exact hn hl.symm)
   obtain ⟨j,hj,et⟩:=r6 h hk (a:=a) (by rw [hu];simp)
   obtain ⟨h1,h2⟩:=((pg h hI).cL (aK p k) a).1 (by rw [eZ hx,hu];simp)
   have:=ih j hj (by omega)
   have et':(bg g p).tl a=aK p j:=et
   rw [← et'] at this
   rw [← h2]
   exact .step this h1
theorem zO:∀ {d k:Nat},k+d+1=g.n.toNat→(bg g p).jl (aK p k) (aK p (g.n.toNat - 1)):=by
 intro d
 induction d using Nat.strongRecOn with
 |_ d ih=>
  intro k hk
  by_cases h0:d=0
  ·obtain rfl:k=g.n.toNat - 1:=by omega
   exact .refl
  ·have hx:=bn h.2.1 (show k<g.n.toNat by omega)
   have hO:cQ p (aK p k)≠ []:=fun h1=>by
    have:=(jH h hI hx).1 h1
    have:=eL h.2.1 (show k<g.n.toNat by omega) (by omega) this
    omega
   obtain ⟨e,v,hv⟩:=gn hO
   have he:=Ee h (show k<g.n.toNat by omega) (e:=e) (by rw [hv];simp)
   have hh:=cD (az h.1) (i:=e.toNat) (by omega)
   obtain ⟨k',hk',e2⟩:=fG h.2.1 hh.1 hh.2
   have e2:aK p k'=Bh g e:=e2
   obtain ⟨j,hj,e3⟩:=vg h he.1 hk' e2.symm
   have:j=k:=eL h.2.1 (show j<g.n.toNat by omega) (by omega) (e3.trans he.2)
   have h1:=ih (g.n.toNat - 1 - k') (by omega) (k:=k') (by omega)
   rw [e2] at h1
   have h2:(bg g p).jl (aK p k) ((bg g p).hd e):= .step (by show (bg g p).jl (aK p k) (sw g e);rw [he.2];exact .refl) he.1
   exact h2.trans h1
theorem xx {a b:Int} (ha:jb g a) (hb:jb g b) (hab:¬(bg g p).jl a b) (hba:¬(bg g p).jl b a):a≠aK p 0∧b≠aK p 0∧cQ p a≠ []∧cQ p b≠ []:=by
 obtain ⟨i,hi,rfl⟩:=fG h.2.1 ha.1 ha.2
 obtain ⟨j,hj,rfl⟩:=fG h.2.1 hb.1 hb.2
 refine ⟨fun e=>hab (by rw [e];exact zN h hI hj),fun e=>hba (by rw [e];exact zN h hI hi),fun e=>hba ?_,fun e=>hab ?_⟩
 ·rw [(jH h hI ha).1 e];exact zO h hI (d:=g.n.toNat - 1 - j) (by omega)
 ·rw [(jH h hI hb).1 e];exact zO h hI (d:=g.n.toNat - 1 - i) (by omega)
theorem C9 {a b:Int} (ha:jb g a) (hb:jb g b) (hab:¬(bg g p).jl a b) (hba:¬(bg g p).jl b a) (hlt:pK g p true a<pK g p true b):(bg g p).Fy (Rf g (bT p)) (Lf g (bT p)) b a:=by
 have hm:=nL h
 have hx:∀v,pK g (bT p) false v=pK g p true v:=fun v=>by
  unfold pK
  have:=rR h true (k:=g.n.toNat) (Nat.le_refl _)
  simp only [Bool.not_true] at this
  rw [this]
 have Ga:=nR hm hI ha hb (by rw [hx,hx];exact hlt)
 have hR:∀ {x y:Int},(bg g (bT p)).jl x y→(bg g p).jl x y:=fun hr=>by
  have:=sk.1 hr
  exact sk.2 (zL (P:=bg g (bT p)) (Q:=bg g p) rfl this)
 obtain ⟨n1,n2,n3,n4⟩:=xx h hI ha hb hab hba
 have hl:(bg g (bT p)).Fy (Lf g (bT p)) (Rf g (bT p)) a b:=DT (pg hm hI) (iI hm hI) n1 n2 (fun hr=>hab (hR hr)) (fun hr=>hba (hR hr)) (by rw [dL ha,j8];simpa using n3) (by rw [dL hb,j8];simpa using n4) Ga
 obtain ⟨u,e,f,v,h1,h2,h3⟩:=hl
 rw [xu] at h1 h2
 refine ⟨v.reverse,f,e,u.reverse, ?_, ?_,Eo (P:=bg g (bT p)) (Q:=bg g p) rfl h3⟩
 ·have:=congrArg List.reverse h2;simpa using this
 ·have:=congrArg List.reverse h1;simpa using this
theorem yL {a b:Int} (ha:jb g a) (hb:jb g b):(bg g p).jl a b↔pK g p false a≤pK g p false b∧pK g p true a≤pK g p true b:=by
 have ok:=pg h hI
 have hm:=nL h
 have hx:∀v,pK g (bT p) false v=pK g p true v:=fun v=>by
  unfold pK
  have:=rR h true (k:=g.n.toNat) (Nat.le_refl _)
  simp only [Bool.not_true] at this
  rw [this]
 constructor
 ·intro hr
  refine ⟨?_, ?_⟩
  ·refine Decidable.byContradiction fun hc=> ?_
   exact uI ok (iI h hI) hr (nR h hI hb ha (by omega))
  ·refine Decidable.byContradiction fun hc=> ?_
   have sq:(bg g (bT p)).jl a b:=sk.2 (zL (P:=bg g p) (Q:=bg g (bT p)) rfl (sk.1 hr))
   exact uI (pg hm hI) (iI hm hI) sq (nR hm hI hb ha (by rw [hx,hx];omega))
 ·rintro ⟨h1,h2⟩
  by_cases hab:a=b
  ·subst hab;exact .refl
  refine Classical.byContradiction fun EH=> ?_
  have l1:pK g p false a<pK g p false b:=by
   have:pK g p false a≠pK g p false b:=fun e=>hab (zM h false ha hb e)
   omega
  have l2:pK g p true a<pK g p true b:=by
   have:pK g p true a≠pK g p true b:=fun e=>hab (zM h true ha hb e)
   omega
  have Ga:=nR h hI ha hb l1
  by_cases hba:(bg g p).jl b a
  ·exact uI ok (iI h hI) hba Ga
  ·exact y7 ok (AX h hI) (xx h hI ha hb EH hba).1 Ga (C9 h hI ha hb EH hba l2)
end
end Go.Ab
end
section
namespace Go.Ab
open Go.Proofs
attribute [local congr] ACall.congr
set_option maxRecDepth 10000
set_option maxHeartbeats 8000000
def Dm (x y:List Int) (i:Int):Bool:=decide (0≤i)&&decide (i<min (x.length:Int) (y.length:Int))
def oQ (x y:List Int) (a b:Int):Bool:=Dm x y a&&Dm x y b&&decide (x.getD a.toNat 0≤x.getD b.toNat 0)&&decide (y.getD a.toNat 0≤y.getD b.toNat 0)
theorem Da (x y:List Int):bt [(10000, .rob [.d (sI x)]),(10001, .rob [.d (sI y)])]:=⟨by simp [AObj.ro],by simp [nodupM,look],by simp,by simp [AObj.ids,AV.ids,AV.idss]⟩
theorem pq (x y:List Int) (hx:x.length≤1000) (hy:y.length≤1000) (i:Int):Spec Tryz.prog 67 (Args [eN i, .ptr 10000 0, .ptr 10001 0]) [(10000, .rob [.d (sI x)]),(10001, .rob [.d (sI y)])] (eB (Dm x y i)) [(10000, .rob [.d (sI x)]),(10001, .rob [.d (sI y)])]:=by
 (refine Spec.intro (C:=T.cfg [] []) (rs:= [.t 4]) (T.ai _ _) Tryz.func67 rfl rfl Tryz.ntmps67 Tryz.results67 (fun p hp=>⟨(bt.low (Da x y) p hp).1,bt.nest (Da x y) p hp⟩) (fun p hp=>⟨(bt.low (Da x y) p hp).2,bt.nest (Da x y) p hp⟩) (by kernel_rfl) ?_;intro X hX hP hC aH aI vals hA;refine ⟨_,by simp,hA, ?_⟩;have af:X.P.follows .mixedOrders=true:=(by rw [hP];exact T.mixed);clear aH aI)
 repeat' (first|((first|((with_reducible (first|apply oA|apply oB));exact rfl;intro K hK)|(refine hK _ ?_;clear hK K)|((with_reducible (first|apply oG|apply oH));iterate 3 exact rfl)|((with_reducible apply oI);(iterate 2 exact rfl);intro K hK)|(with_reducible (first|apply wI|apply wJ|apply wK)));try simp only [go_sem,simprocAttr])|(with_reducible (first|apply oC|apply oJ|exact oK|apply wA|apply wB|apply wC hX hC|apply wD hX hC|apply wE hX hC af|apply wF hX hC af|apply wG|apply wH|apply And.intro))|((with_reducible refine oD ?_ ?_);kernel_rfl)|((with_reducible (first|apply oE|apply oF));(iterate 3 exact rfl);all_goals (intro h;first|(exact absurd h (by decide))|((try simp only [go_sem,simprocAttr] at h);(try with_reducible intro K hK);simp only [go_sem,simprocAttr])))|((first|((with_reducible apply wL);exact rfl)|((with_reducible apply wM);exact rfl));all_goals (try ((with_reducible intro h);first|(exact absurd h (by decide))|(try simp only [go_sem,simprocAttr] at h))))|omega|(intro h))
 all_goals (first|exact eu (Da x y)|(simp only [Dm];simp [*];done)|trace_state)
theorem zP {x y:List Int} {i:Int} :Dm x y i=true↔0≤i∧i<x.length∧i<y.length:=by
 simp only [Dm,Bool.and_eq_true,decide_eq_true_eq];omega
theorem mL (x y:List Int) (hx:x.length≤1000) (hy:y.length≤1000) (a b:Int):Spec Tryz.prog 27 (Args [.d (sI x), .d (sI y),eN a,eN b]) [] (eB (oQ x y a b)) []:=by
 have Gg:=pq x y hx hy a
 have Gh:=pq x y hx hy b
 cases ha:Dm x y a with
 |false=>
  have hr:oQ x y a b=false:=by unfold oQ;rw [ha];rfl
  rw [hr]
  rw [ha] at Gg
  (refine Spec.intro (C:=T.cfg [] []) (rs:= [.t 8]) (T.ai _ _) Tryz.func27 rfl rfl Tryz.ntmps27 Tryz.results27 (by simp [AObj.isNest]) (by simp [AObj.isNest]) (by kernel_rfl) ?_;intro X hX hP hC aH aI vals hA;refine ⟨_,by simp,hA, ?_⟩;have af:X.P.follows .mixedOrders=true:=(by rw [hP];exact T.mixed);clear aH aI)
  repeat' (first|((first|((with_reducible (first|apply oA|apply oB));exact rfl;intro K hK)|(refine hK _ ?_;clear hK K)|((with_reducible (first|apply oG|apply oH));iterate 3 exact rfl)|((with_reducible apply oI);(iterate 2 exact rfl);intro K hK)|(with_reducible (first|apply wI|apply wJ|apply wK)));try simp only [go_sem,simprocAttr])|(with_reducible (first|apply oC|apply oJ|exact oK|apply wA|apply wB|apply wC hX hC|apply wD hX hC|apply wE hX hC af|apply wF hX hC af|apply wG|apply wH|apply And.intro))|((with_reducible refine oD ?_ ?_);kernel_rfl)|((with_reducible (first|apply oE|apply oF));(iterate 3 exact rfl);all_goals (intro h;first|(exact absurd h (by decide))|((try simp only [go_sem,simprocAttr] at h);(try with_reducible intro K hK);simp only [go_sem,simprocAttr])))|((first|((with_reducible apply wL);exact rfl)|((with_reducible apply wM);exact rfl));all_goals (try ((with_reducible intro h);first|(exact absurd h (by decide))|(try simp only [go_sem,simprocAttr] at h))))|omega|((first|(refine aE hX hC hP [(10000,4),(10001,5)] (Gg) rfl rfl rfl ?_ ?_ ?_ ?_ ?_ ?_ rfl rfl ?_ ?_;(focus (simp only [go_sem,simprocAttr];done));(iterate 6 (focus (simp [go_sem,simprocAttr];done)));simp only [go_sem,simprocAttr,List.map_cons,List.map_nil])|(refine aE hX hC hP [(10000,4),(10001,5)] (Gh) rfl rfl rfl ?_ ?_ ?_ ?_ ?_ ?_ rfl rfl ?_ ?_;(focus (simp only [go_sem,simprocAttr];done));(iterate 6 (focus (simp [go_sem,simprocAttr];done)));simp only [go_sem,simprocAttr,List.map_cons,List.map_nil]));try simp only [go_sem,simprocAttr])|(intro h))
 |true=>
  rw [ha] at Gg
  cases hb:Dm x y b with
  |false=>
   have hr:oQ x y a b=false:=by unfold oQ;rw [ha,hb];rfl
   rw [hr]
   rw [hb] at Gh
   (refine Spec.intro (C:=T.cfg [] []) (rs:= [.t 8]) (T.ai _ _) Tryz.func27 rfl rfl Tryz.ntmps27 Tryz.results27 (by simp [AObj.isNest]) (by simp [AObj.isNest]) (by kernel_rfl) ?_;intro X hX hP hC aH aI vals hA;refine ⟨_,by simp,hA, ?_⟩;have af:X.P.follows .mixedOrders=true:=(by rw [hP];exact T.mixed);clear aH aI)
   repeat' (first|((first|((with_reducible (first|apply oA|apply oB));exact rfl;intro K hK)|(refine hK _ ?_;clear hK K)|((with_reducible (first|apply oG|apply oH));iterate 3 exact rfl)|((with_reducible apply oI);(iterate 2 exact rfl);intro K hK)|(with_reducible (first|apply wI|apply wJ|apply wK)));try simp only [go_sem,simprocAttr])|(with_reducible (first|apply oC|apply oJ|exact oK|apply wA|apply wB|apply wC hX hC|apply wD hX hC|apply wE hX hC af|apply wF hX hC af|apply wG|apply wH|apply And.intro))|((with_reducible refine oD ?_ ?_);kernel_rfl)|((with_reducible (first|apply oE|apply oF));(iterate 3 exact rfl);all_goals (intro h;first|(exact absurd h (by decide))|((try simp only [go_sem,simprocAttr] at h);(try with_reducible intro K hK);simp only [go_sem,simprocAttr])))|((first|((with_reducible apply wL);exact rfl)|((with_reducible apply wM);exact rfl));all_goals (try ((with_reducible intro h);first|(exact absurd h (by decide))|(try simp only [go_sem,simprocAttr] at h))))|omega|((first|(refine aE hX hC hP [(10000,4),(10001,5)] (Gg) rfl rfl rfl ?_ ?_ ?_ ?_ ?_ ?_ rfl rfl ?_ ?_;(focus (simp only [go_sem,simprocAttr];done));(iterate 6 (focus (simp [go_sem,simprocAttr];done)));simp only [go_sem,simprocAttr,List.map_cons,List.map_nil])|(refine aE hX hC hP [(10000,4),(10001,5)] (Gh) rfl rfl rfl ?_ ?_ ?_ ?_ ?_ ?_ rfl rfl ?_ ?_;(focus (simp only [go_sem,simprocAttr];done));(iterate 6 (focus (simp [go_sem,simprocAttr];done)));simp only [go_sem,simprocAttr,List.map_cons,List.map_nil]));try simp only [go_sem,simprocAttr])|(intro h))
  |true=>
   rw [hb] at Gh
   have h1:=zP.1 ha
   have h2:=zP.1 hb
   have hr:oQ x y a b=(decide (x.getD a.toNat 0≤x.getD b.toNat 0)&&decide (y.getD a.toNat 0≤y.getD b.toNat 0)):=by unfold oQ;rw [ha,hb];rfl
   rw [hr]
   obtain ⟨i,rfl⟩:∃i:Nat,a=i:=⟨a.toNat,by omega⟩
   obtain ⟨j,rfl⟩:∃j:Nat,b=j:=⟨b.toNat,by omega⟩
   simp only [Int.toNat_natCast]
   cases c1:decide (x.getD i 0≤x.getD j 0) with
   |false=>
    (refine Spec.intro (C:=T.cfg [] []) (rs:= [.t 8]) (T.ai _ _) Tryz.func27 rfl rfl Tryz.ntmps27 Tryz.results27 (by simp [AObj.isNest]) (by simp [AObj.isNest]) (by kernel_rfl) ?_;intro X hX hP hC aH aI vals hA;refine ⟨_,by simp,hA, ?_⟩;have af:X.P.follows .mixedOrders=true:=(by rw [hP];exact T.mixed);clear aH aI)
    repeat' (first|((first|((with_reducible (first|apply oA|apply oB));exact rfl;intro K hK)|(refine hK _ ?_;clear hK K)|((with_reducible (first|apply oG|apply oH));iterate 3 exact rfl)|((with_reducible apply oI);(iterate 2 exact rfl);intro K hK)|(with_reducible (first|apply wI|apply wJ|apply wK)));try simp only [go_sem,simprocAttr,c1,Bool.false_and])|(with_reducible (first|apply oC|apply oJ|exact oK|apply wA|apply wB|apply wC hX hC|apply wD hX hC|apply wE hX hC af|apply wF hX hC af|apply wG|apply wH|apply And.intro))|((with_reducible refine oD ?_ ?_);kernel_rfl)|((with_reducible (first|apply oE|apply oF));(iterate 3 exact rfl);all_goals (intro h;first|(exact absurd h (by decide))|((try simp only [go_sem,simprocAttr,c1,Bool.false_and] at h);(try with_reducible intro K hK);simp only [go_sem,simprocAttr,c1,Bool.false_and])))|((first|((with_reducible apply wL);exact rfl)|((with_reducible apply wM);exact rfl));all_goals (try ((with_reducible intro h);first|(exact absurd h (by decide))|(try simp only [go_sem,simprocAttr,c1,Bool.false_and] at h))))|omega|((first|(refine aE hX hC hP [(10000,4),(10001,5)] (Gg) rfl rfl rfl ?_ ?_ ?_ ?_ ?_ ?_ rfl rfl ?_ ?_;(focus (simp only [go_sem,simprocAttr,c1,Bool.false_and];done));(iterate 6 (focus (simp [go_sem,simprocAttr,c1,Bool.false_and];done)));simp only [go_sem,simprocAttr,c1,Bool.false_and,List.map_cons,List.map_nil])|(refine aE hX hC hP [(10000,4),(10001,5)] (Gh) rfl rfl rfl ?_ ?_ ?_ ?_ ?_ ?_ rfl rfl ?_ ?_;(focus (simp only [go_sem,simprocAttr,c1,Bool.false_and];done));(iterate 6 (focus (simp [go_sem,simprocAttr,c1,Bool.false_and];done)));simp only [go_sem,simprocAttr,c1,Bool.false_and,List.map_cons,List.map_nil]));try simp only [go_sem,simprocAttr,c1,Bool.false_and])|(intro h))
   |true=>
    (refine Spec.intro (C:=T.cfg [] []) (rs:= [.t 8]) (T.ai _ _) Tryz.func27 rfl rfl Tryz.ntmps27 Tryz.results27 (by simp [AObj.isNest]) (by simp [AObj.isNest]) (by kernel_rfl) ?_;intro X hX hP hC aH aI vals hA;refine ⟨_,by simp,hA, ?_⟩;have af:X.P.follows .mixedOrders=true:=(by rw [hP];exact T.mixed);clear aH aI)
    repeat' (first|((first|((with_reducible (first|apply oA|apply oB));exact rfl;intro K hK)|(refine hK _ ?_;clear hK K)|((with_reducible (first|apply oG|apply oH));iterate 3 exact rfl)|((with_reducible apply oI);(iterate 2 exact rfl);intro K hK)|(with_reducible (first|apply wI|apply wJ|apply wK)));try simp only [go_sem,simprocAttr,c1,Bool.true_and])|(with_reducible (first|apply oC|apply oJ|exact oK|apply wA|apply wB|apply wC hX hC|apply wD hX hC|apply wE hX hC af|apply wF hX hC af|apply wG|apply wH|apply And.intro))|((with_reducible refine oD ?_ ?_);kernel_rfl)|((with_reducible (first|apply oE|apply oF));(iterate 3 exact rfl);all_goals (intro h;first|(exact absurd h (by decide))|((try simp only [go_sem,simprocAttr,c1,Bool.true_and] at h);(try with_reducible intro K hK);simp only [go_sem,simprocAttr,c1,Bool.true_and])))|((first|((with_reducible apply wL);exact rfl)|((with_reducible apply wM);exact rfl));all_goals (try ((with_reducible intro h);first|(exact absurd h (by decide))|(try simp only [go_sem,simprocAttr,c1,Bool.true_and] at h))))|omega|((first|(refine aE hX hC hP [(10000,4),(10001,5)] (Gg) rfl rfl rfl ?_ ?_ ?_ ?_ ?_ ?_ rfl rfl ?_ ?_;(focus (simp only [go_sem,simprocAttr,c1,Bool.true_and];done));(iterate 6 (focus (simp [go_sem,simprocAttr,c1,Bool.true_and];done)));simp only [go_sem,simprocAttr,c1,Bool.true_and,List.map_cons,List.map_nil])|(refine aE hX hC hP [(10000,4),(10001,5)] (Gh) rfl rfl rfl ?_ ?_ ?_ ?_ ?_ ?_ rfl rfl ?_ ?_;(focus (simp only [go_sem,simprocAttr,c1,Bool.true_and];done));(iterate 6 (focus (simp [go_sem,simprocAttr,c1,Bool.true_and];done)));simp only [go_sem,simprocAttr,c1,Bool.true_and,List.map_cons,List.map_nil]));try simp only [go_sem,simprocAttr,c1,Bool.true_and])|(intro h))
def Gi:Gr:=⟨4, [(0,1),(1,3),(0,2),(2,3)]⟩
def H9:Pl:=⟨[0,1,2,3], [[0,2], [1], [3], []]⟩
theorem Kb:(true=true)↔(cA Gi).1=0∧bF Gi H9:=⟨fun _=>⟨by decide,⟨rfl,by decide,by decide⟩⟩,fun _=>rfl⟩
theorem Kc:Eg true Gi H9=([0,1,2,3], [0,2,1,3],0):=by
 unfold Eg
 rw [if_pos ⟨rfl,by decide⟩]
 rfl
theorem gu:Spec Tryz.prog 21 (Args []) [] (eB true) []:=by
 have AR:=sg Gi (by decide) H9 ⟨by decide,by decide,by decide⟩ true Kb
 rw [Kc] at AR
 simp only at AR
 have e1:Gi.es.map rE= [[.sc (.int .i64 0), .sc (.int .i64 1)], [.sc (.int .i64 1), .sc (.int .i64 3)], [.sc (.int .i64 0), .sc (.int .i64 2)], [.sc (.int .i64 2), .sc (.int .i64 3)]]:=rfl
 have e2:H9.ord.map rI= [[.sc (.int .i64 0)], [.sc (.int .i64 1)], [.sc (.int .i64 2)], [.sc (.int .i64 3)]]:=rfl
 have e3:vI H9.outs= [[.sl 1 [[.sc (.int .i64 0)], [.sc (.int .i64 2)]]], [.sl 1 [[.sc (.int .i64 1)]]], [.sl 1 [[.sc (.int .i64 3)]]], [.sl 1 []]]:=rfl
 have e4:Gi.n=4:=rfl
 have e5:oQ [0,1,2,3] [0,2,1,3] 1 3=true:=by decide
 have e6:oQ [0,1,2,3] [0,2,1,3] 1 2=false:=by decide
 (refine Spec.intro (C:=T.cfg [] []) (rs:= [.t 0]) (T.ai _ _) Tryz.func21 rfl rfl Tryz.ntmps21 Tryz.results21 (by simp [AObj.isNest]) (by simp [AObj.isNest]) (by kernel_rfl) ?_;intro X hX hP hC aH aI vals hA;refine ⟨_,by simp,hA, ?_⟩;have af:X.P.follows .mixedOrders=true:=(by rw [hP];exact T.mixed);clear aH aI)
 repeat' (first|((first|((with_reducible (first|apply oA|apply oB));exact rfl;intro K hK)|(refine hK _ ?_;clear hK K)|((with_reducible (first|apply oG|apply oH));iterate 3 exact rfl)|((with_reducible apply oI);(iterate 2 exact rfl);intro K hK)|(with_reducible (first|apply wI|apply wJ|apply wK)));try simp only [go_sem,simprocAttr,e1,e2,e3,e4,e5,e6,List.map_cons,List.map_nil,rI,decide_true])|(with_reducible (first|apply oC|apply oJ|exact oK|apply wA|apply wB|apply wC hX hC|apply wD hX hC|apply wE hX hC af|apply wF hX hC af|apply wG|apply wH|apply And.intro))|((with_reducible refine oD ?_ ?_);kernel_rfl)|((with_reducible (first|apply oE|apply oF));(iterate 3 exact rfl);all_goals (intro h;first|(exact absurd h (by decide))|((try simp only [go_sem,simprocAttr,e1,e2,e3,e4,e5,e6,List.map_cons,List.map_nil,rI,decide_true] at h);(try with_reducible intro K hK);simp only [go_sem,simprocAttr,e1,e2,e3,e4,e5,e6,List.map_cons,List.map_nil,rI,decide_true])))|((first|((with_reducible apply wL);exact rfl)|((with_reducible apply wM);exact rfl));all_goals (try ((with_reducible intro h);first|(exact absurd h (by decide))|(try simp only [go_sem,simprocAttr,e1,e2,e3,e4,e5,e6,List.map_cons,List.map_nil,rI,decide_true] at h))))|omega|((first|(refine bQ hX hC hP (AR) rfl rfl rfl ?_ ?_ rfl ?_;iterate 2 (focus (simp only [go_sem,simprocAttr,e1,e2,e3,e4,e5,e6,List.map_cons,List.map_nil,rI,decide_true];done)))|(refine bQ hX hC hP (lV [0,1,2,3] [0,1,2,3] (by decide)) rfl rfl rfl ?_ ?_ rfl ?_;iterate 2 (focus (simp only [go_sem,simprocAttr,e1,e2,e3,e4,e5,e6,List.map_cons,List.map_nil,rI,decide_true];done)))|(refine bQ hX hC hP (lV [0,2,1,3] [0,2,1,3] (by decide)) rfl rfl rfl ?_ ?_ rfl ?_;iterate 2 (focus (simp only [go_sem,simprocAttr,e1,e2,e3,e4,e5,e6,List.map_cons,List.map_nil,rI,decide_true];done)))|(refine bQ hX hC hP (mL [0,1,2,3] [0,2,1,3] (by decide) (by decide) 1 3) rfl rfl rfl ?_ ?_ rfl ?_;iterate 2 (focus (simp only [go_sem,simprocAttr,e1,e2,e3,e4,e5,e6,List.map_cons,List.map_nil,rI,decide_true];done)))|(refine bQ hX hC hP (mL [0,1,2,3] [0,2,1,3] (by decide) (by decide) 1 2) rfl rfl rfl ?_ ?_ rfl ?_;iterate 2 (focus (simp only [go_sem,simprocAttr,e1,e2,e3,e4,e5,e6,List.map_cons,List.map_nil,rI,decide_true];done))));try simp only [go_sem,simprocAttr,e1,e2,e3,e4,e5,e6,List.map_cons,List.map_nil,rI,decide_true])|(intro h))
end Go.Ab
end
section
namespace Go.Ab
open Go.Proofs
attribute [local congr] ACall.congr
set_option maxRecDepth 10000
set_option maxHeartbeats 16000000
theorem A6 (g:Gr) (hl:g.es.length≤9223372036854775807) (p:Pl) (hp:rS p) (b:Bool) (hr:b=true↔(cA g).1=0∧bF g p):Spec Tryz.prog 20 (Args [eG g,ePl p]) [] (eB (decide ((bU b g p).2.1=0))) []:=by
 have hO:=xj g hl p hp b hr
 generalize bU b g p=R at hO
 (refine Spec.intro (C:=T.cfg [] []) (rs:= [.t 4]) (T.ai _ _) Tryz.func20 rfl rfl Tryz.ntmps20 Tryz.results20 (by simp [AObj.isNest]) (by simp [AObj.isNest]) (by kernel_rfl) ?_;intro X hX hP hC aH aI vals hA;refine ⟨_,by simp,hA, ?_⟩;have af:X.P.follows .mixedOrders=true:=(by rw [hP];exact T.mixed);clear aH aI)
 repeat' (first|((first|((with_reducible (first|apply oA|apply oB));exact rfl;intro K hK)|(refine hK _ ?_;clear hK K)|((with_reducible (first|apply oG|apply oH));iterate 3 exact rfl)|((with_reducible apply oI);(iterate 2 exact rfl);intro K hK)|(with_reducible (first|apply wI|apply wJ|apply wK)));try simp only [go_sem,simprocAttr])|(with_reducible (first|apply oC|apply oJ|exact oK|apply wA|apply wB|apply wC hX hC|apply wD hX hC|apply wE hX hC af|apply wF hX hC af|apply wG|apply wH|apply And.intro))|((with_reducible refine oD ?_ ?_);kernel_rfl)|((with_reducible (first|apply oE|apply oF));(iterate 3 exact rfl);all_goals (intro h;first|(exact absurd h (by decide))|((try simp only [go_sem,simprocAttr] at h);(try with_reducible intro K hK);simp only [go_sem,simprocAttr])))|((first|((with_reducible apply wL);exact rfl)|((with_reducible apply wM);exact rfl));all_goals (try ((with_reducible intro h);first|(exact absurd h (by decide))|(try simp only [go_sem,simprocAttr] at h))))|omega|((first|refine aa hX hC hP (hO) rfl rfl rfl (by simp only [go_sem,simprocAttr]) rfl ?_);try simp only [go_sem,simprocAttr])|(intro h))
end Go.Ab
end
section
namespace Go.Ab
open Go.Proofs
attribute [local congr] ACall.congr
set_option maxRecDepth 20000
set_option maxHeartbeats 16000000
theorem Ep {x y:List Int} {n a b:Nat} (hx:x.length=n) (hy:y.length=n) (ha:a<n) (hb:b<n):oQ x y a b=(decide (x.getD a 0≤x.getD b 0)&&decide (y.getD a 0≤y.getD b 0)):=by
 have h1:∀i:Nat,i<n→Dm x y i=true:=fun i hi=>by
  unfold Dm
  rw [hx,hy]
  simp;omega
 unfold oQ
 rw [h1 a ha,h1 b hb]
 simp
theorem xy {g:Gr} {p:Pl} (h:bK g p) (hI:pe g=true) {a b:Nat} (ha:a<g.n.toNat) (hb:b<g.n.toNat):
 Em ((A4 g).getD a 0) b=oQ (cz g p false g.n.toNat) (cz g p true g.n.toNat) a b:=by
 have hm:=az h.1
 have ga:jb g (a:Int):=⟨by omega,by omega⟩
 have gb:jb g (b:Int):=⟨by omega,by omega⟩
 have e1:=En (P:=bg g p) (A:=(bg g p).tl) (B:=(bg g p).hd) hm rfl (fun _ _=>rfl) (fun _ _=>rfl) (x:=(a:Int)) (y:=(b:Int)) ga gb
 rw [← sk,yL h hI ga gb,Int.toNat_natCast] at e1
 rw [Ep gl gl ha hb,Bool.eq_iff_iff,e1,Bool.and_eq_true,decide_eq_true_eq,decide_eq_true_eq]
 rfl
theorem sn (g:Gr) (p:Pl) (hl:g.es.length≤9223372036854775807) (hp:CX p):Spec Tryz.prog 5 (Args [eG g,ePl p]) [] (eB true) []:=by
 have hG:=vf g p hl hp
 (refine Spec.intro (C:=T.cfg [] []) (rs:= [.t 4]) (T.ai _ _) Tryz.func5 rfl rfl Tryz.ntmps5 Tryz.results5 (by simp [AObj.isNest]) (by simp [AObj.isNest]) (by kernel_rfl) ?_;intro X hX hP hC aH aI vals hA;refine ⟨_,by simp,hA, ?_⟩;have af:X.P.follows .mixedOrders=true:=(by rw [hP];exact T.mixed);clear aH aI)
 cases hB:sN g p with
 |true=>
  rw [hB] at hG
  repeat' (first|((first|((with_reducible (first|apply oA|apply oB));exact rfl;intro K hK)|(refine hK _ ?_;clear hK K)|((with_reducible (first|apply oG|apply oH));iterate 3 exact rfl)|((with_reducible apply oI);(iterate 2 exact rfl);intro K hK)|(with_reducible (first|apply wI|apply wJ|apply wK)));try simp only [go_sem,simprocAttr])|(with_reducible (first|apply oC|apply oJ|exact oK|apply wA|apply wB|apply wC hX hC|apply wD hX hC|apply wE hX hC af|apply wF hX hC af|apply wG|apply wH|apply And.intro))|((with_reducible refine oD ?_ ?_);kernel_rfl)|((with_reducible (first|apply oE|apply oF));(iterate 3 exact rfl);all_goals (intro h;first|(exact absurd h (by decide))|((try simp only [go_sem,simprocAttr] at h);(try with_reducible intro K hK);simp only [go_sem,simprocAttr])))|((first|((with_reducible apply wL);exact rfl)|((with_reducible apply wM);exact rfl));all_goals (try ((with_reducible intro h);first|(exact absurd h (by decide))|(try simp only [go_sem,simprocAttr] at h))))|omega|((first|refine aa hX hC hP (gu) rfl rfl rfl (by simp only [go_sem,simprocAttr]) rfl ?_|refine aa hX hC hP (hG) rfl rfl rfl (by simp only [go_sem,simprocAttr]) rfl ?_);try simp only [go_sem,simprocAttr])|(intro h))
 |false=>
 rw [hB] at hG
 obtain ⟨b1,b2,b3,b4⟩:=zq hB
 obtain ⟨b,hr⟩:=MB g p
 have hI:=yw g (by omega)
 have Ia:=A6 g (by omega) p (xk hB) b hr
 cases hi:pe g with
 |false=>
  rw [hi] at hI
  repeat' (first|((first|((with_reducible (first|apply oA|apply oB));exact rfl;intro K hK)|(refine hK _ ?_;clear hK K)|((with_reducible (first|apply oG|apply oH));iterate 3 exact rfl)|((with_reducible apply oI);(iterate 2 exact rfl);intro K hK)|(with_reducible (first|apply wI|apply wJ|apply wK)));try simp only [go_sem,simprocAttr])|(with_reducible (first|apply oC|apply oJ|exact oK|apply wA|apply wB|apply wC hX hC|apply wD hX hC|apply wE hX hC af|apply wF hX hC af|apply wG|apply wH|apply And.intro))|((with_reducible refine oD ?_ ?_);kernel_rfl)|((with_reducible (first|apply oE|apply oF));(iterate 3 exact rfl);all_goals (intro h;first|(exact absurd h (by decide))|((try simp only [go_sem,simprocAttr] at h);(try with_reducible intro K hK);simp only [go_sem,simprocAttr])))|((first|((with_reducible apply wL);exact rfl)|((with_reducible apply wM);exact rfl));all_goals (try ((with_reducible intro h);first|(exact absurd h (by decide))|(try simp only [go_sem,simprocAttr] at h))))|omega|((first|refine aa hX hC hP (gu) rfl rfl rfl (by simp only [go_sem,simprocAttr]) rfl ?_|refine aa hX hC hP (hG) rfl rfl rfl (by simp only [go_sem,simprocAttr]) rfl ?_|refine aa hX hC hP (hI) rfl rfl rfl (by simp only [go_sem,simprocAttr]) rfl ?_);try simp only [go_sem,simprocAttr])|(intro h))
 |true=>
 rw [hi] at hI
 by_cases hK:(bU b g p).2.1=0
 rotate_left
 ·rw [decide_eq_false hK] at Ia
  repeat' (first|((first|((with_reducible (first|apply oA|apply oB));exact rfl;intro K hK)|(refine hK _ ?_;clear hK K)|((with_reducible (first|apply oG|apply oH));iterate 3 exact rfl)|((with_reducible apply oI);(iterate 2 exact rfl);intro K hK)|(with_reducible (first|apply wI|apply wJ|apply wK)));try simp only [go_sem,simprocAttr])|(with_reducible (first|apply oC|apply oJ|exact oK|apply wA|apply wB|apply wC hX hC|apply wD hX hC|apply wE hX hC af|apply wF hX hC af|apply wG|apply wH|apply And.intro))|((with_reducible refine oD ?_ ?_);kernel_rfl)|((with_reducible (first|apply oE|apply oF));(iterate 3 exact rfl);all_goals (intro h;first|(exact absurd h (by decide))|((try simp only [go_sem,simprocAttr] at h);(try with_reducible intro K hK);simp only [go_sem,simprocAttr])))|((first|((with_reducible apply wL);exact rfl)|((with_reducible apply wM);exact rfl));all_goals (try ((with_reducible intro h);first|(exact absurd h (by decide))|(try simp only [go_sem,simprocAttr] at h))))|omega|((first|refine aa hX hC hP (gu) rfl rfl rfl (by simp only [go_sem,simprocAttr]) rfl ?_|refine aa hX hC hP (hG) rfl rfl rfl (by simp only [go_sem,simprocAttr]) rfl ?_|refine aa hX hC hP (hI) rfl rfl rfl (by simp only [go_sem,simprocAttr]) rfl ?_|refine aa hX hC hP (Ia) rfl rfl rfl (by simp only [go_sem,simprocAttr]) rfl ?_);try simp only [go_sem,simprocAttr])|(intro h))
 rw [decide_eq_true hK] at Ia
 obtain ⟨hrun,_⟩:=tK hr hK
 have hm:=az hrun.1
 have hn:=aR hm
 have AR:=sg g (by omega) p (xk hB) b hr
 have oX:Eg b g p=(cz g p false g.n.toNat,cz g p true g.n.toNat,0):=if_pos ⟨hK,hi⟩
 rw [oX] at AR
 simp only at AR
 have hF:=A5 g hl
 have p6:=zK hm
 have hlt:=fun x=>FU (x:=x) hm
 have hrb:=fun (a c:Nat) (ha:a<g.n.toNat) (hc:c<g.n.toNat)=>xy hrun hi ha hc
 have hx:(cz g p false g.n.toNat).length=g.n.toNat:=gl
 have hy:(cz g p true g.n.toNat).length=g.n.toNat:=gl
 obtain ⟨N,hN⟩:∃N:Nat,g.n=N:=⟨g.n.toNat,by omega⟩
 have MM:g.n.toNat=N:=by omega
 have sJ:eG g= .agg [eN N, .d (sE g.es)]:=by rw [eG,hN]
 rw [MM] at hrb hx hy p6 AR
 rw [sJ] at hG hI Ia AR hF
 have MN:=fun (a c:Nat)=>mL (cz g p false N) (cz g p true N) (by omega) (by omega) a c
 generalize cz g p false N=xs at*
 generalize cz g p true N=ys at*
 generalize A4 g=U at*
 have Nv:decide ((N:Int)=(N:Int))=true:=decide_eq_true rfl
 repeat' (first|((first|((with_reducible (first|apply oA|apply oB));exact rfl;intro K hK)|(refine hK _ ?_;clear hK K)|((with_reducible (first|apply oG|apply oH));iterate 3 exact rfl)|((with_reducible apply oI);(iterate 2 exact rfl);intro K hK)|(with_reducible (first|apply wI|apply wJ|apply wK)));try simp only [go_sem,simprocAttr,hN,hx,hy,p6,decide_true])|(with_reducible (first|apply oC|apply oJ|exact oK|apply wA|apply wB|apply wC hX hC|apply wD hX hC|apply wE hX hC af|apply wF hX hC af|apply wG|apply wH|apply And.intro))|((with_reducible refine oD ?_ ?_);kernel_rfl)|((with_reducible (first|apply oE|apply oF));(iterate 3 exact rfl);all_goals (intro h;first|(exact absurd h (by decide))|((try simp only [go_sem,simprocAttr,hN,hx,hy,p6,decide_true] at h);(try with_reducible intro K hK);simp only [go_sem,simprocAttr,hN,hx,hy,p6,decide_true])))|((first|((with_reducible apply wL);exact rfl)|((with_reducible apply wM);exact rfl));all_goals (try ((with_reducible intro h);first|(exact absurd h (by decide))|(try simp only [go_sem,simprocAttr,hN,hx,hy,p6,decide_true] at h))))|omega|((first|refine aa hX hC hP (gu) rfl rfl rfl (by simp only [go_sem,simprocAttr,hN,hx,hy,p6,decide_true]) rfl ?_|refine aa hX hC hP (hG) rfl rfl rfl (by simp only [go_sem,simprocAttr,hN,hx,hy,p6,decide_true]) rfl ?_|refine aa hX hC hP (hI) rfl rfl rfl (by simp only [go_sem,simprocAttr,hN,hx,hy,p6,decide_true]) rfl ?_|refine aa hX hC hP (Ia) rfl rfl rfl (by simp only [go_sem,simprocAttr,hN,hx,hy,p6,decide_true]) rfl ?_|refine aa hX hC hP (AR) rfl rfl rfl (by simp only [go_sem,simprocAttr,hN,hx,hy,p6,decide_true]) rfl ?_|refine aa hX hC hP (hF) rfl rfl rfl (by simp only [go_sem,simprocAttr,hN,hx,hy,p6,decide_true]) rfl ?_);try simp only [go_sem,simprocAttr,hN,hx,hy,p6,decide_true])|(intro h))
 refine aj (fun a:Nat=>a≤N) (fun a=>⟨[(5, .d (sI xs)),(6, .d (sI ys)),(8, .d (sU U)),(60,eN N),(61,eN a)], []⟩) (fun a=>N - a) 0 (by omega) ?_ ?_
 ·refine Le.of ?_ ?_<;>simp [go_sem,simprocAttr]
 rintro a ha
 rcases Nat.lt_or_ge a N with HH|Nw
 rotate_left
 ·have hba:decide ((a:Int)<(N:Int))=false:=decide_eq_false (by omega)
  repeat' (first|((first|((with_reducible (first|apply oA|apply oB));exact rfl;intro K hK)|(refine hK _ ?_;clear hK K)|((with_reducible (first|apply oG|apply oH));iterate 3 exact rfl)|((with_reducible apply oI);(iterate 2 exact rfl);intro K hK)|(with_reducible (first|apply wI|apply wJ|apply wK)));try simp only [go_sem,simprocAttr,hba])|(with_reducible (first|apply oC|apply oJ|exact oK|apply wA|apply wB|apply wC hX hC|apply wD hX hC|apply wE hX hC af|apply wF hX hC af|apply wG|apply wH|apply And.intro))|((with_reducible refine oD ?_ ?_);kernel_rfl)|((with_reducible (first|apply oE|apply oF));(iterate 3 exact rfl);all_goals (intro h;first|(exact absurd h (by decide))|((try simp only [go_sem,simprocAttr,hba] at h);(try with_reducible intro K hK);simp only [go_sem,simprocAttr,hba])))|((first|((with_reducible apply wL);exact rfl)|((with_reducible apply wM);exact rfl));all_goals (try ((with_reducible intro h);first|(exact absurd h (by decide))|(try simp only [go_sem,simprocAttr,hba] at h))))|omega|(intro h))
 have hba:decide ((a:Int)<(N:Int))=true:=decide_eq_true (by omega)
 repeat' (first|((first|((with_reducible (first|apply oA|apply oB));exact rfl;intro K hK)|(refine hK _ ?_;clear hK K)|((with_reducible (first|apply oG|apply oH));iterate 3 exact rfl)|((with_reducible apply oI);(iterate 2 exact rfl);intro K hK)|(with_reducible (first|apply wI|apply wJ|apply wK)));try simp only [go_sem,simprocAttr,hba,p6])|(with_reducible (first|apply oC|apply oJ|exact oK|apply wA|apply wB|apply wC hX hC|apply wD hX hC|apply wE hX hC af|apply wF hX hC af|apply wG|apply wH|apply And.intro))|((with_reducible refine oD ?_ ?_);kernel_rfl)|((with_reducible (first|apply oE|apply oF));(iterate 3 exact rfl);all_goals (intro h;first|(exact absurd h (by decide))|((try simp only [go_sem,simprocAttr,hba,p6] at h);(try with_reducible intro K hK);simp only [go_sem,simprocAttr,hba,p6])))|((first|((with_reducible apply wL);exact rfl)|((with_reducible apply wM);exact rfl));all_goals (try ((with_reducible intro h);first|(exact absurd h (by decide))|(try simp only [go_sem,simprocAttr,hba,p6] at h))))|omega|(intro h))
 refine aj (fun c:Nat=>c≤N) (fun c=>⟨[(5, .d (sI xs)),(6, .d (sI ys)),(8, .d (sU U)),(60,eN N),(61,eN a),(9,eN a),(65,eN N),(66,eN c)], []⟩) (fun c=>N - c) 0 (by omega) ?_ ?_
 ·refine Le.of ?_ ?_<;>simp [go_sem,simprocAttr]
 rintro c hc
 rcases Nat.lt_or_ge c N with dI|EK
 rotate_left
 ·have hbc:decide ((c:Int)<(N:Int))=false:=decide_eq_false (by omega)
  repeat' (first|((first|((with_reducible (first|apply oA|apply oB));exact rfl;intro K hK)|(refine hK _ ?_;clear hK K)|((with_reducible (first|apply oG|apply oH));iterate 3 exact rfl)|((with_reducible apply oI);(iterate 2 exact rfl);intro K hK)|(with_reducible (first|apply wI|apply wJ|apply wK)));try simp only [go_sem,simprocAttr,hbc])|(with_reducible (first|apply oC|apply oJ|exact oK|apply wA|apply wB|apply wC hX hC|apply wD hX hC|apply wE hX hC af|apply wF hX hC af|apply wG|apply wH|apply And.intro))|((with_reducible refine oD ?_ ?_);kernel_rfl)|((with_reducible (first|apply oE|apply oF));(iterate 3 exact rfl);all_goals (intro h;first|(exact absurd h (by decide))|((try simp only [go_sem,simprocAttr,hbc] at h);(try with_reducible intro K hK);simp only [go_sem,simprocAttr,hbc])))|((first|((with_reducible apply wL);exact rfl)|((with_reducible apply wM);exact rfl));all_goals (try ((with_reducible intro h);first|(exact absurd h (by decide))|(try simp only [go_sem,simprocAttr,hbc] at h))))|omega|(intro h))
  refine ⟨a+1,by omega, ?_,by omega⟩
  refine Le.of ?_ ?_<;>simp [go_sem,simprocAttr,hbc]
 have hbc:decide ((c:Int)<(N:Int))=true:=decide_eq_true (by omega)
 have hH:Spec Tryz.prog 26 (Args [eU (U.getD a 0),eN c]) [] (eB (Em (U.getD a 0) c)) []:=A0 _ (hlt a) _
 have K0:=MN a c
 rw [hrb a c HH dI] at hH
 generalize oQ xs ys a c=v at hH K0
 cases v
 all_goals (repeat' (first|((first|((with_reducible (first|apply oA|apply oB));exact rfl;intro K hK)|(refine hK _ ?_;clear hK K)|((with_reducible (first|apply oG|apply oH));iterate 3 exact rfl)|((with_reducible apply oI);(iterate 2 exact rfl);intro K hK)|(with_reducible (first|apply wI|apply wJ|apply wK)));try simp only [go_sem,simprocAttr,hbc,p6])|(with_reducible (first|apply oC|apply oJ|exact oK|apply wA|apply wB|apply wC hX hC|apply wD hX hC|apply wE hX hC af|apply wF hX hC af|apply wG|apply wH|apply And.intro))|((with_reducible refine oD ?_ ?_);kernel_rfl)|((with_reducible (first|apply oE|apply oF));(iterate 3 exact rfl);all_goals (intro h;first|(exact absurd h (by decide))|((try simp only [go_sem,simprocAttr,hbc,p6] at h);(try with_reducible intro K hK);simp only [go_sem,simprocAttr,hbc,p6])))|((first|((with_reducible apply wL);exact rfl)|((with_reducible apply wM);exact rfl));all_goals (try ((with_reducible intro h);first|(exact absurd h (by decide))|(try simp only [go_sem,simprocAttr,hbc,p6] at h))))|omega|((first|refine aa hX hC hP (hH) rfl rfl rfl (by simp only [go_sem,simprocAttr,hbc,p6]) rfl ?_|refine aa hX hC hP (K0) rfl rfl rfl (by simp only [go_sem,simprocAttr,hbc,p6]) rfl ?_);try simp only [go_sem,simprocAttr,hbc,p6])|(intro h)))
 all_goals (refine ⟨c+1,by omega, ?_,by omega⟩)
 all_goals (refine Le.of ?_ ?_<;>simp [go_sem,simprocAttr,hbc,p6])
end Go.Ab
end
