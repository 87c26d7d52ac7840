/- A part of the proof. -/
import Derived.Test.YtameldglfobjkaaGreatL2P20
set_option linter.unusedSimpArgs false
set_option linter.unusedVariables false
section
namespace Go.Ab
open Go.Proofs
attribute [local congr] ACall.congr gd.congr Nx.congr
set_option maxRecDepth 20000
set_option maxHeartbeats 8000000
theorem A0 (g:Gr) (hm:aL g=true) (both:Bool) (c:Nat→Bool) (F:Nat) (i0:Int) (hF:∀i:Nat,i<g.es.length→Spec Tryz.prog F (Args [eN i, .ptr 10001 0]) [(10001, .rob [eN i0])] (eB (c i)) [(10001, .rob [eN i0])]) (a0:List Nat) (h0:DS g both c a0):
 Spec Tryz.prog 149 (Args [eG g, .ref 10000,eB both, .fn F [] [.ptr 10001 0]]) [(10000, .own 208 1 (a0.map rU)),(10001, .box [eN i0])] (.tup []) [(10000, .own 208 1 ((AW g both c).map rU)),(10001, .box [eN i0])]:=by
 have hn:=aG hm
 obtain ⟨M,hM⟩:=H6 (g:=g) (by omega) both c
 (refine Spec.hd (C:=T.cfg [] []) (rs:= []) (T.ai _ _) Tryz.func149 rfl rfl Tryz.ntmps149 Tryz.results149 (by simp [AObj.isNest]) (by simp [AObj.isNest]) (by kernel_rfl) T.mixed fun X hX hP hC aQ cy=> ?_)
 repeat' (first|refine Rn.p ?_|(with_reducible apply And.intro)|((first|(refine hK _ ?_;clear hK K)|with_reducible intro K hK|refine Rs.p ?_|((with_reducible first|apply oP|apply oQ);exact rfl));try simp only [go_sem,simprocAttr])|((with_reducible refine oD ?_ ?_);kernel_rfl)|((with_reducible intro h);try simp only [go_sem,simprocAttr] at h)|omega|intro h)
 refine ak (fun s:List Nat × Bool=>DS g both c s.1∧(s.2=false→s.1=AW g both c)) (fun s=>⟨[(1, .ref 10000),(2,eB both),(3, .fn F [] [.ptr 10001 0]),(4, .ptr 4 0),(8,eB s.2)], [(10000, .own 208 1 (s.1.map rU)),(10001, .box [eN i0]),(4, .box [eN g.n, .d (sE g.es)])]⟩) (fun s=>2*(M - uv s.1)+(if s.2=true then 1 else 0)) (a0,true) ⟨h0,by simp⟩ ?_ ?_
 ·refine Le.of ?_ ?_<;>simp [go_sem,simprocAttr]
 rintro ⟨a,more⟩ ⟨hG,qD⟩
 simp only at hG qD ⊢
 cases more with
 |false=>
  have:=qD rfl
  subst this
  repeat' (first|refine Rn.p ?_|(with_reducible apply And.intro)|((first|(refine hK _ ?_;clear hK K)|with_reducible intro K hK|refine Rs.p ?_|((with_reducible first|apply oP|apply oQ);exact rfl));try simp only [go_sem,simprocAttr])|((with_reducible refine oD ?_ ?_);kernel_rfl)|((with_reducible intro h);try simp only [go_sem,simprocAttr] at h)|omega|intro h)
 |true=>
 repeat' (first|refine Rn.p ?_|(with_reducible apply And.intro)|((first|(refine hK _ ?_;clear hK K)|with_reducible intro K hK|refine Rs.p ?_|((with_reducible first|apply oP|apply oQ);exact rfl));try simp only [go_sem,simprocAttr])|((with_reducible refine oD ?_ ?_);kernel_rfl)|((with_reducible intro h);try simp only [go_sem,simprocAttr] at h)|omega|intro h)
 refine ak (fun k:Nat=>k≤g.es.length) (fun k=>⟨[(1, .ref 10000),(2,eB both),(3, .fn F [] [.ptr 10001 0]),(4, .ptr 4 0),(8,eB (bI g both c a k).2),(15, .d (sE g.es)),(16,eN g.es.length),(17,eN k)], [(10000, .own 208 1 ((bI g both c a k).1.map rU)),(10001, .box [eN i0]),(4, .box [eN g.n, .d (sE g.es)])]⟩) (fun k=>g.es.length - k) 0 (by omega) ?_ ?_
 ·refine Le.of ?_ ?_<;>simp [go_sem,simprocAttr,bI]
 rintro k hk
 rcases Nat.lt_or_ge k g.es.length with hlt|hge
 rotate_left
 ·have hb:decide ((k:Int)<(g.es.length:Int))=false:=decide_eq_false (by omega)
  obtain rfl:k=g.es.length:=by omega
  obtain ⟨i1,_⟩:=iz hm hG (Nat.le_refl g.es.length)
  have ME:=AY hm hG
  have IL:=iQ (g:=g) (both:=both) (c:=c) (a:=a) (k:=g.es.length)
  have hdone:=Dy hm hG
  have Bo:=hM _ i1
  generalize bI g both c a g.es.length=R at*
  repeat' (first|refine Rn.p ?_|(with_reducible apply And.intro)|((first|(refine hK _ ?_;clear hK K)|with_reducible intro K hK|refine Rs.p ?_|((with_reducible first|apply oP|apply oQ);exact rfl));try simp only [go_sem,simprocAttr,hb])|((with_reducible refine oD ?_ ?_);kernel_rfl)|((with_reducible intro h);try simp only [go_sem,simprocAttr,hb] at h)|omega|intro h)
  refine ⟨(R.1,R.2),⟨i1,fun hf=> ?_⟩, ?_, ?_⟩
  ·rw [(IL hf).1];exact hdone hf
  ·refine Le.of ?_ ?_<;>simp [go_sem,simprocAttr,hb]
  ·cases Rb:R.2 with
   |true=>have:=ME Rb;simp;omega
   |false=>rw [(IL Rb).1];simp
 have hb:decide ((k:Int)<(g.es.length:Int))=true:=decide_eq_true (by omega)
 obtain ⟨Nv,_⟩:=iz hm hG (k:=k) (by omega)
 obtain ⟨ht,hh⟩:=dw hm hlt
 have MF:=hF k hlt
 have DT:=Nv.len
 have Dt:=Nv.lt (by omega)
 obtain ⟨x,hx⟩:∃x:Nat,(g.es.getD k (0,0)).1=x:=⟨(g.es.getD k (0,0)).1.toNat,by omega⟩
 obtain ⟨y,hy⟩:∃y:Nat,(g.es.getD k (0,0)).2=y:=⟨(g.es.getD k (0,0)).2.toNat,by omega⟩
 have htl:(tl g k).toNat=x:=by show ((g.es.getD k (0,0)).1).toNat=x;rw [hx];rfl
 have JT:(hd g k).toNat=y:=by show ((g.es.getD k (0,0)).2).toNat=y;rw [hy];rfl
 have dS:bI g both c a (k+1)=if c k=true then ((((bI g both c a k).1.set x ((bI g both c a k).1.getD x 0 ||| (bI g both c a k).1.getD y 0)).set y (if both=true then (bI g both c a k).1.getD x 0 ||| (bI g both c a k).1.getD y 0 else (bI g both c a k).1.getD y 0)),(bI g both c a k).2||(decide ((bI g both c a k).1.getD x 0 ||| (bI g both c a k).1.getD y 0≠(bI g both c a k).1.getD x 0)||decide ((if both=true then (bI g both c a k).1.getD x 0 ||| (bI g both c a k).1.getD y 0 else (bI g both c a k).1.getD y 0)≠(bI g both c a k).1.getD y 0))) else bI g both c a k:=by
  simp only [bI,htl,JT]
 generalize bI g both c a k=R at Nv DT Dt dS
 obtain ⟨A,m1⟩:=R
 simp only at Nv DT Dt dS ⊢
 have Ty:=Dt x
 have Tz:=Dt y
 cases hc:c k with
 |false=>
  rw [hc] at MF dS
  repeat' (first|refine Rn.p ?_|(with_reducible apply And.intro)|((first|(refine hK _ ?_;clear hK K)|with_reducible intro K hK|refine Rs.p ?_|((with_reducible first|apply oP|apply oQ);exact rfl)|(refine bu hX hC hP [(10001,10001)] (MF) rfl rfl rfl ?_ ?_ ?_ ?_ ?_ ?_ rfl rfl ?_ ?_;(focus (simp only [go_sem,simprocAttr,hb,hx,hy];done));(iterate 6 (focus (simp [go_sem,simprocAttr,hb,hx,hy];done)));try simp only [List.map_cons,List.map_nil]));try simp only [go_sem,simprocAttr,hb,hx,hy])|((with_reducible refine oD ?_ ?_);kernel_rfl)|((with_reducible intro h);try simp only [go_sem,simprocAttr,hb,hx,hy] at h)|omega|intro h)
  refine ⟨k+1,by omega, ?_,by omega⟩
  rw [dS]
  refine Le.of ?_ ?_<;>simp [go_sem,simprocAttr,hb,hx,hy]
 |true=>
  rw [hc] at MF dS
  rw [if_pos rfl] at dS
  have n1:=Ra (a:=A.getD x 0 ||| A.getD y 0) (b:=A.getD x 0)
  have n2:=Ra (a:=if both=true then A.getD x 0 ||| A.getD y 0 else A.getD y 0) (b:=A.getD y 0)
  have P7:A.getD x 0 ||| A.getD y 0<18446744073709551616:=Nat.or_lt_two_pow (n:=64) Ty Tz
  have Fl:(A.set x (A.getD x 0 ||| A.getD y 0)).length=A.length:=List.length_set ..
  generalize Ae:A.getD x 0 ||| A.getD y 0=t at n1 n2 dS P7 Fl
  generalize Rc:decide (t≠A.getD x 0)=d1 at n1 dS
  cases both with
  |true=>
   rw [if_pos rfl] at n2 dS
   generalize xw:decide (t≠A.getD y 0)=d2 at n2 dS
   clear Rc xw
   cases m1<;>cases d1<;>cases d2<;>simp only [Bool.or_false,Bool.or_true,Bool.false_or,Bool.true_or] at dS
   all_goals (repeat' (first|refine Rn.p ?_|(with_reducible apply And.intro)|((first|(refine hK _ ?_;clear hK K)|with_reducible intro K hK|refine Rs.p ?_|((with_reducible first|apply oP|apply oQ);exact rfl)|(refine bu hX hC hP [(10001,10001)] (MF) rfl rfl rfl ?_ ?_ ?_ ?_ ?_ ?_ rfl rfl ?_ ?_;(focus (simp only [go_sem,simprocAttr,hb,hx,hy,Ae,n1,n2,DT,jr,List.length_set];done));(iterate 6 (focus (simp [go_sem,simprocAttr,hb,hx,hy,Ae,n1,n2,DT,jr,List.length_set];done)));try simp only [List.map_cons,List.map_nil]));try simp only [go_sem,simprocAttr,hb,hx,hy,Ae,n1,n2,DT,jr,List.length_set])|((with_reducible refine oD ?_ ?_);kernel_rfl)|((with_reducible intro h);try simp only [go_sem,simprocAttr,hb,hx,hy,Ae,n1,n2,DT,jr,List.length_set] at h)|omega|intro h))
   all_goals (refine ⟨k+1,by omega, ?_,by omega⟩)
   all_goals (rw [dS])
   all_goals (refine Le.of ?_ ?_<;>simp [go_sem,simprocAttr,hb,hx,hy,Ae,n1,n2,DT,jr,List.length_set])
  |false=>
   rw [if_neg (by simp)] at n2 dS
   have xw:decide (A.getD y 0≠A.getD y 0)=false:=decide_eq_false fun h=>h rfl
   rw [xw] at n2 dS
   clear Rc
   cases m1<;>cases d1<;>simp only [Bool.or_false,Bool.or_true,Bool.false_or,Bool.true_or] at dS
   all_goals (repeat' (first|refine Rn.p ?_|(with_reducible apply And.intro)|((first|(refine hK _ ?_;clear hK K)|with_reducible intro K hK|refine Rs.p ?_|((with_reducible first|apply oP|apply oQ);exact rfl)|(refine bu hX hC hP [(10001,10001)] (MF) rfl rfl rfl ?_ ?_ ?_ ?_ ?_ ?_ rfl rfl ?_ ?_;(focus (simp only [go_sem,simprocAttr,hb,hx,hy,Ae,n1,n2,DT,jr,List.length_set];done));(iterate 6 (focus (simp [go_sem,simprocAttr,hb,hx,hy,Ae,n1,n2,DT,jr,List.length_set];done)));try simp only [List.map_cons,List.map_nil]));try simp only [go_sem,simprocAttr,hb,hx,hy,Ae,n1,n2,DT,jr,List.length_set])|((with_reducible refine oD ?_ ?_);kernel_rfl)|((with_reducible intro h);try simp only [go_sem,simprocAttr,hb,hx,hy,Ae,n1,n2,DT,jr,List.length_set] at h)|omega|intro h))
   all_goals (refine ⟨k+1,by omega, ?_,by omega⟩)
   all_goals (rw [dS])
   all_goals (refine Le.of ?_ ?_<;>simp [go_sem,simprocAttr,hb,hx,hy,Ae,n1,n2,DT,jr,List.length_set])
theorem Gf (i k:Int):Spec Tryz.prog 150 (Args [eN k, .ptr 10001 0]) [(10001, .rob [eN i])] (eB (!decide (k=i))) [(10001, .rob [eN i])]:=by
 (refine Spec.hd (C:=T.cfg [] []) (rs:= [.t 3]) (T.ai _ _) Tryz.func150 rfl rfl Tryz.ntmps150 Tryz.results150 (by simp [AObj.isNest]) (by simp [AObj.isNest]) (by kernel_rfl) T.mixed fun X hX hP hC aQ cy=> ?_)
 repeat' (first|refine Rn.p ?_|(with_reducible apply And.intro)|((first|(refine hK _ ?_;clear hK K)|with_reducible intro K hK|refine Rs.p ?_|((with_reducible first|apply oP|apply oQ);exact rfl));try simp only [go_sem,simprocAttr])|((with_reducible refine oD ?_ ?_);kernel_rfl)|((with_reducible intro h);try simp only [go_sem,simprocAttr] at h)|omega|intro h)
def xz (i:Nat) (k:Nat):Bool:= !decide ((k:Int)=(i:Int))
noncomputable def DU (g:Gr) (i:Nat):Bool:=((AW g false (xz i)).getD (tl g i).toNat 0).testBit (hd g i).toNat
noncomputable def zT (g:Gr) (k:Nat):List Int:=((List.range k).filter fun i=>DU g i).map fun i:Nat=>(i:Int)
noncomputable def cR (g:Gr):List Int:=if aL g=true then zT g g.es.length else []
theorem o6 {g:Gr} {k:Nat} :zT g (k+1)=if DU g k=true then zT g k++ [(k:Int)] else zT g k:=by
 unfold zT
 rw [List.range_succ,List.filter_append,List.map_append]
 cases h:DU g k with
 |true=>rw [if_pos rfl,List.filter_cons,if_pos h];rfl
 |false=>rw [if_neg (by simp),List.filter_cons,if_neg (by rw [h];decide)];simp
theorem Ca {g:Gr} {k:Nat} :(zT g k).length≤k:=by
 unfold zT
 rw [List.length_map]
 exact Nat.le_trans (List.length_filter_le _ _) (by simp)
theorem Cb (g:Gr) (hl:g.es.length≤9223372036854775807):Spec Tryz.prog 102 (Args [eG g]) [] (.d (sI (cR g))) []:=by
 have hE:=AZ g hl
 (refine Spec.hd (C:=T.cfg [200,34,33] []) (rs:= [.t 2]) (T.ai _ _) Tryz.func102 rfl rfl Tryz.ntmps102 Tryz.results102 (by simp [AObj.isNest]) (by simp [AObj.isNest]) (by kernel_rfl) T.mixed fun X hX hP hC aQ cy=> ?_)
 repeat' (first|(show cr _ (.seq (.region 1 _ _) _) _ _;(refine dn hX 2 200 (.own 3 1 []) ?_ ?_ (by decide) ⟨3,1,by decide, .inl rfl⟩ ?_;(iterate 2 (focus (simp only [go_sem,simprocAttr];done)));simp only [go_sem,simprocAttr]))|refine Rn.p ?_|(with_reducible apply And.intro)|((first|(refine hK _ ?_;clear hK K)|with_reducible intro K hK|refine Rs.p ?_|((with_reducible first|apply oP|apply oQ);exact rfl));try simp only [go_sem,simprocAttr])|((with_reducible refine oD ?_ ?_);kernel_rfl)|((with_reducible intro h);try simp only [go_sem,simprocAttr] at h)|omega|intro h)
 have hm0:aL g=false→cR g= []:=fun h=>by unfold cR;rw [h];rfl
 cases hm:aL g with
 |false=>
  have hU:jk g= []:=by unfold jk;rw [hm];rfl
  rw [hU] at hE
  rw [hm0 hm]
  cases zO:g.es with
  |nil=>
   refine ak (fun k:Nat=>k=0) (fun _=>⟨[(1, .ptr 1 0),(2, .ref 200),(7, .d (sE [])),(8,eN 0),(9,eN 0)], [(1, .box [eN g.n, .d (sE [])]),(200, .own 3 1 [])]⟩) (fun _=>0) 0 rfl ?_ ?_
   ·refine Le.of ?_ ?_<;>simp [go_sem,simprocAttr,zO]
   rintro k rfl
   repeat' (first|refine Rn.p ?_|(with_reducible apply And.intro)|((first|(refine hK _ ?_;clear hK K)|with_reducible intro K hK|refine Rs.p ?_|((with_reducible first|apply oP|apply oQ);exact rfl));try simp only [go_sem,simprocAttr])|((with_reducible refine oD ?_ ?_);kernel_rfl)|((with_reducible intro h);try simp only [go_sem,simprocAttr] at h)|omega|intro h)
  |cons q r=>
   have hq:g.es.length=r.length+1:=by rw [zO];rfl
   have hb:decide ((0:Int)<((r.length+1:Nat):Int))=true:=decide_eq_true (by omega)
   refine ak (fun k:Nat=>k=0) (fun _=>⟨[(1, .ptr 1 0),(2, .ref 200),(7, .d (sE g.es)),(8,eN ((r.length+1:Nat):Int)),(9,eN 0)], [(1, .box [eN g.n, .d (sE g.es)]),(200, .own 3 1 [])]⟩) (fun _=>0) 0 rfl ?_ ?_
   ·refine Le.of ?_ ?_<;>simp [go_sem,simprocAttr,zO]
   rintro k rfl
   repeat' (first|refine Rn.p ?_|(with_reducible apply And.intro)|((first|(refine hK _ ?_;clear hK K)|with_reducible intro K hK|refine Rs.p ?_|((with_reducible first|apply oP|apply oQ);exact rfl)|(refine gO hX hC hP 15 (hE) rfl rfl rfl ?_ ?_ (by first|exact ⟨_,_,_,rfl,tE⟩|exact ⟨_,_,_,rfl,tF⟩|exact ⟨_,_,_,rfl,tI⟩) rfl (by decide) ?_;(iterate 2 (focus (simp only [go_sem,simprocAttr,hb];done)));simp only [go_sem,simprocAttr,hb]));try simp only [go_sem,simprocAttr,hb])|((with_reducible refine oD ?_ ?_);kernel_rfl)|((with_reducible intro h);try simp only [go_sem,simprocAttr,hb] at h)|omega|intro h)
 |true=>
  have hn:=aG hm
  have he:(jk g).length=g.n.toNat:=by unfold jk;rw [if_pos hm];exact uw
  have hb0:decide ((g.n.toNat:Int)=0)=false:=decide_eq_false (by omega)
  have hT:cR g=zT g g.es.length:=if_pos hm
  rw [hT]
  have hG:=fun i:Nat=>A0 g hm false (xz i) 150 (i:Int) (fun k _=>Gf (i:Int) (k:Int)) (jk g) (DB hm)
  generalize jk g=U at hE he hG
  refine ak (fun k:Nat=>k≤g.es.length) (fun k=>⟨[(1, .ptr 1 0),(2, .ref 200),(7, .d (sE g.es)),(8,eN g.es.length),(9,eN k)], [(1, .box [eN g.n, .d (sE g.es)]),(200, .own 3 1 ((zT g k).map rI))]⟩) (fun k=>g.es.length - k) 0 (by omega) ?_ ?_
  ·refine Le.of ?_ ?_<;>simp [go_sem,simprocAttr,zT]
  rintro k hk
  rcases Nat.lt_or_ge k g.es.length with hlt|hge
  rotate_left
  ·have hb:decide ((k:Int)<(g.es.length:Int))=false:=decide_eq_false (by omega)
   obtain rfl:k=g.es.length:=by omega
   repeat' (first|refine Rn.p ?_|(with_reducible apply And.intro)|((first|(refine hK _ ?_;clear hK K)|with_reducible intro K hK|refine Rs.p ?_|((with_reducible first|apply oP|apply oQ);exact rfl));try simp only [go_sem,simprocAttr,hb])|((with_reducible refine oD ?_ ?_);kernel_rfl)|((with_reducible intro h);try simp only [go_sem,simprocAttr,hb] at h)|omega|intro h)
  have hb:decide ((k:Int)<(g.es.length:Int))=true:=decide_eq_true (by omega)
  have P8:=hG k
  have dS:=o6 (g:=g) (k:=k)
  have Fq:=Ca (g:=g) (k:=k)
  obtain ⟨ht,hh⟩:=dw hm hlt
  obtain ⟨x,hx⟩:∃x:Nat,(g.es.getD k (0,0)).1=x:=⟨(g.es.getD k (0,0)).1.toNat,by omega⟩
  obtain ⟨y,hy⟩:∃y:Nat,(g.es.getD k (0,0)).2=y:=⟨(g.es.getD k (0,0)).2.toNat,by omega⟩
  rw [hx] at ht
  rw [hy] at hh
  have KH:DU g k=((AW g false (xz k)).getD x 0).testBit y:=by
   unfold DU
   rw [show (tl g k).toNat=x by show ((g.es.getD k (0,0)).1).toNat=x;rw [hx];rfl,show (hd g k).toNat=y by show ((g.es.getD k (0,0)).2).toNat=y;rw [hy];rfl]
  have hrl:(AW g false (xz k)).length=g.n.toNat:=rJ
  have hH:=Dz ((AW g false (xz k)).getD x 0) (by
   rw [AX (by omega)]
   exact Nat.lt_of_lt_of_le HY (Nat.pow_le_pow_right (by decide) (show g.n.toNat≤64 by omega))) (y:Int)
  rw [show (decide ((0:Int)≤(y:Int))&&decide ((y:Int)<64)&&((AW g false (xz k)).getD x 0).testBit ((y:Int)).toNat)=DU g k by
   rw [KH,decide_eq_true (show (0:Int)≤(y:Int) by omega),decide_eq_true (show (y:Int)<64 by omega)];rfl] at hH
  generalize AW g false (xz k)=R at P8 hrl hH
  generalize zT g k=O at dS Fq
  cases hB:DU g k with
  |true=>
   rw [hB] at hH
   rw [hB,if_pos rfl] at dS
   repeat' (first|(show cr _ (.region 10 _ _) _ _;(refine EP hX 2 34 200 (by simp only [go_sem,simprocAttr,hb,hb0,he,hx,hy,hrl]) rfl (by first|exact .inl rfl|exact .inr rfl) (by decide) ?_;simp only [go_sem,simprocAttr,hb,hb0,he,hx,hy,hrl]))|refine Rn.p ?_|(with_reducible apply And.intro)|((first|(refine hK _ ?_;clear hK K)|with_reducible intro K hK|refine Rs.p ?_|((with_reducible first|apply oP|apply oQ);exact rfl)|(refine gO hX hC hP 15 (hE) rfl rfl rfl ?_ ?_ (by first|exact ⟨_,_,_,rfl,tE⟩|exact ⟨_,_,_,rfl,tF⟩|exact ⟨_,_,_,rfl,tI⟩) rfl (by decide) ?_;(iterate 2 (focus (simp only [go_sem,simprocAttr,hb,hb0,he,hx,hy,hrl];done)));simp only [go_sem,simprocAttr,hb,hb0,he,hx,hy,hrl])|(refine an hX hC hP [(10000,15),(10001,3)] (P8) rfl rfl rfl ?_ ?_ ?_ ?_ ?_ ?_ ?_ ?_ ?_ ?_ ?_ ?_ ?_ ?_;(focus (simp only [go_sem,simprocAttr,hb,hb0,he,hx,hy,hrl];done));(iterate 12 (focus (simp [go_sem,simprocAttr,hb,hb0,he,hx,hy,hrl];done)));try simp only [List.map_cons,List.map_nil])|refine aa hX hC hP (hH) rfl rfl rfl (by simp only [go_sem,simprocAttr,hb,hb0,he,hx,hy,hrl]) rfl ?_);try simp only [go_sem,simprocAttr,hb,hb0,he,hx,hy,hrl])|((with_reducible refine oD ?_ ?_);kernel_rfl)|((with_reducible intro h);try simp only [go_sem,simprocAttr,hb,hb0,he,hx,hy,hrl] at h)|omega|intro h)
   refine ⟨k+1,by omega, ?_,by omega⟩
   rw [dS]
   refine Le.of ?_ ?_<;>simp [go_sem,simprocAttr,hb,hb0,he,hx,hy,hrl,rI]
  |false=>
   rw [hB] at hH
   rw [hB,if_neg (by simp)] at dS
   repeat' (first|refine Rn.p ?_|(with_reducible apply And.intro)|((first|(refine hK _ ?_;clear hK K)|with_reducible intro K hK|refine Rs.p ?_|((with_reducible first|apply oP|apply oQ);exact rfl)|(refine gO hX hC hP 15 (hE) rfl rfl rfl ?_ ?_ (by first|exact ⟨_,_,_,rfl,tE⟩|exact ⟨_,_,_,rfl,tF⟩|exact ⟨_,_,_,rfl,tI⟩) rfl (by decide) ?_;(iterate 2 (focus (simp only [go_sem,simprocAttr,hb,hb0,he,hx,hy,hrl];done)));simp only [go_sem,simprocAttr,hb,hb0,he,hx,hy,hrl])|(refine an hX hC hP [(10000,15),(10001,3)] (P8) rfl rfl rfl ?_ ?_ ?_ ?_ ?_ ?_ ?_ ?_ ?_ ?_ ?_ ?_ ?_ ?_;(focus (simp only [go_sem,simprocAttr,hb,hb0,he,hx,hy,hrl];done));(iterate 12 (focus (simp [go_sem,simprocAttr,hb,hb0,he,hx,hy,hrl];done)));try simp only [List.map_cons,List.map_nil])|refine aa hX hC hP (hH) rfl rfl rfl (by simp only [go_sem,simprocAttr,hb,hb0,he,hx,hy,hrl]) rfl ?_);try simp only [go_sem,simprocAttr,hb,hb0,he,hx,hy,hrl])|((with_reducible refine oD ?_ ?_);kernel_rfl)|((with_reducible intro h);try simp only [go_sem,simprocAttr,hb,hb0,he,hx,hy,hrl] at h)|omega|intro h)
   refine ⟨k+1,by omega, ?_,by omega⟩
   rw [dS]
   refine Le.of ?_ ?_<;>simp [go_sem,simprocAttr,hb,hb0,he,hx,hy,hrl]
end Go.Ab
end
section
namespace Go.Ab
open Go.Proofs
attribute [local congr] ACall.congr gd.congr Nx.congr
set_option maxRecDepth 10000
set_option maxHeartbeats 8000000
def swapT (l:List It) (k:Nat):List It:=(List.range l.length).map fun p=>if p<k∨l.length - 1<p+k then l.getD (l.length - 1 - p) (0,0,0) else l.getD p (0,0,0)
theorem cM {l:List It} {k:Nat} :(swapT l k).length=l.length:=by simp [swapT]
theorem jX {l:List It} {k p:Nat} (h:p<l.length):(swapT l k)[p]? =some (if p<k∨l.length - 1<p+k then l.getD (l.length - 1 - p) (0,0,0) else l.getD p (0,0,0)):=by
 simp [swapT,List.getElem?_range h]
theorem uz {l:List It} {k p:Nat} (h:p<l.length) (d:It):(swapT l k).getD p d=if p<k∨l.length - 1<p+k then l.getD (l.length - 1 - p) (0,0,0) else l.getD p (0,0,0):=by
 rw [List.getD_eq_getElem?_getD,jX h];rfl
theorem A1 {l:List It} :swapT l 0=l:=by
 refine List.ext_getElem? fun i=> ?_
 by_cases hi:i<l.length
 ·rw [jX hi,if_neg (by omega),List.getD_eq_getElem?_getD,List.getElem?_eq_getElem hi];rfl
 ·rw [List.getElem?_eq_none (by rw [cM];omega),List.getElem?_eq_none (by omega)]
theorem DC {l:List It} {k:Nat} (h:l.length≤2*k+1):swapT l k=l.reverse:=by
 refine List.ext_getElem? fun i=> ?_
 by_cases hi:i<l.length
 ·rw [jX hi,List.getElem?_reverse hi]
  split
  ·rw [List.getD_eq_getElem?_getD,List.getElem?_eq_getElem (by omega)];rfl
  ·have:i=l.length - 1 - i:=by omega
   rw [← this,List.getD_eq_getElem?_getD,List.getElem?_eq_getElem hi];rfl
 ·rw [List.getElem?_eq_none (by rw [cM];omega),List.getElem?_eq_none (by rw [List.length_reverse];omega)]
theorem A2 {l:List It} {k:Nat} (h:k<l.length - 1 - k):((swapT l k).set k ((swapT l k).getD (l.length - 1 - k) (0,0,0))).set (l.length - 1 - k) ((swapT l k).getD k (0,0,0))=swapT l (k+1):=by
 refine List.ext_getElem? fun i=> ?_
 rw [List.getElem?_set,List.length_set,cM,List.getElem?_set,cM]
 by_cases hi:i<l.length
 ·rw [jX hi,jX hi,uz (by omega),uz (by omega)]
  by_cases h1:l.length - 1 - k=i
  ·rw [if_pos h1,if_pos (by omega),if_neg (by omega),if_pos (by omega)]
   congr 2;omega
  ·rw [if_neg h1]
   by_cases h2:k=i
   ·rw [if_pos h2,if_pos (by omega),if_neg (by omega),if_pos (by omega)]
    congr 2;omega
   ·rw [if_neg h2]
    congr 1
    by_cases h3:i<k∨l.length - 1<i+k
    ·rw [if_pos h3,if_pos (by omega)]
    ·rw [if_neg h3,if_neg (by omega)]
 ·rw [List.getElem?_eq_none (by rw [cM];omega),List.getElem?_eq_none (by rw [cM];omega),if_neg (by omega),if_neg (by omega)]
theorem Gg (l:List It) (k:Nat) (t:It):(l.map rT).set k [.sc (.int .i64 t.1), .sc (.int .i64 t.2.1), .sc (.int .i64 t.2.2)]=(l.set k t).map rT:=by
 rw [List.map_set];rfl
theorem uQ (l:List It) (hl:l.length≤1000000):Spec Tryz.prog 106 (Args [.ref 10000]) [(10000, .own 92 3 (l.map rT))] (.tup []) [(10000, .own 92 3 (l.reverse.map rT))]:=by
 (refine Spec.hd (C:=T.cfg [] []) (rs:= []) (T.ai _ _) Tryz.func106 rfl rfl Tryz.ntmps106 Tryz.results106 (by simp [AObj.isNest]) (by simp [AObj.isNest]) (by kernel_rfl) T.mixed fun X hX hP hC aQ cy=> ?_)
 repeat' (first|refine Rn.p ?_|(with_reducible apply And.intro)|((first|(refine hK _ ?_;clear hK K)|with_reducible intro K hK|refine Rs.p ?_|((with_reducible first|apply oP|apply oQ);exact rfl));try simp only [go_sem,simprocAttr])|((with_reducible refine oD ?_ ?_);kernel_rfl)|((with_reducible intro h);try simp only [go_sem,simprocAttr] at h)|omega|intro h)
 refine ak (fun k:Nat=>2*k≤l.length+1) (fun k=>⟨[(0, .ref 10000),(2,eN k),(3,eN ((l.length:Int) - 1 - k))], [(10000, .own 92 3 ((swapT l k).map rT))]⟩) (fun k=>l.length+1 - k) 0 (by omega) ?_ ?_
 ·refine Le.of ?_ ?_<;>simp [go_sem,simprocAttr,A1]
 rintro k hk
 rcases Nat.lt_or_ge (2*k+1) l.length with hlt|hge
 ·have hb:decide ((k:Int)<(l.length:Int) - 1 - (k:Int))=true:=decide_eq_true (by omega)
  have ht:((l.length:Int) - 1 - (k:Int)).toNat=l.length - 1 - k:=by omega
  repeat' (first|refine Rn.p ?_|(with_reducible apply And.intro)|((first|(refine hK _ ?_;clear hK K)|with_reducible intro K hK|refine Rs.p ?_|((with_reducible first|apply oP|apply oQ);exact rfl));try simp only [go_sem,simprocAttr,hb,ht,cM,Gg,List.length_cons,List.length_nil,List.drop_succ_cons,List.drop_zero,List.drop_nil])|((with_reducible refine oD ?_ ?_);kernel_rfl)|((with_reducible intro h);try simp only [go_sem,simprocAttr,hb,ht,cM,Gg,List.length_cons,List.length_nil,List.drop_succ_cons,List.drop_zero,List.drop_nil] at h)|omega|intro h)
  refine ⟨k+1,by omega, ?_,by omega⟩
  refine Le.of ?_ ?_<;>simp [go_sem,simprocAttr]
  ·omega
  ·rw [← A2 (by omega),List.map_set,List.map_set]
   simp only [List.getD_eq_getElem?_getD]
   rfl
 ·have hb:decide ((k:Int)<(l.length:Int) - 1 - (k:Int))=false:=decide_eq_false (by omega)
  repeat' (first|refine Rn.p ?_|(with_reducible apply And.intro)|((first|(refine hK _ ?_;clear hK K)|with_reducible intro K hK|refine Rs.p ?_|((with_reducible first|apply oP|apply oQ);exact rfl));try simp only [go_sem,simprocAttr,hb])|((with_reducible refine oD ?_ ?_);kernel_rfl)|((with_reducible intro h);try simp only [go_sem,simprocAttr,hb] at h)|omega|intro h)
  simp only [go_sem,simprocAttr,hb,DC hge]
theorem zw (ps:List It) (hl:ps.length≤1000000):
 Spec Tryz.prog 142 (Args [.d (sT ps)]) [] (.ref 10000) [(10000, .own 92 3 (ps.map rT))]:=by
 (refine Spec.sM (C:=T.cfg [5,7] []) (rs:= [.t 2]) [(10000,7)] (T.ai _ _) Tryz.func142 rfl rfl Tryz.ntmps142 Tryz.results142 (by simp [AObj.isNest]) (by simp [AObj.isNest]) (by first|(simp [look];done)|(simp [asN];done)|(intro l hl;simp only [asN];repeat (rw [if_neg (fun e=>by subst e;simp [look] at hl)]))) (by first|(simp [look];done)|(simp [asN];done)|(intro l hl;simp only [asN];repeat (rw [if_neg (fun e=>by subst e;simp [look] at hl)]))) (by kernel_rfl) T.mixed fun X hX hP hC aQ cy=> ?_)
 repeat' (first|(show cr _ .ret _ _;(try simp only [go_sem,simprocAttr]);refine dn hX 2 7 (.own 92 3 []) ?_ ?_ (by decide) ⟨92,3,by decide, .inl rfl⟩ ?_;(iterate 2 (focus (simp only [go_sem,simprocAttr];done)));simp only [go_sem,simprocAttr])|refine Rn.p ?_|(with_reducible apply And.intro)|((first|(refine hK _ ?_;clear hK K)|with_reducible intro K hK|refine Rs.p ?_|((with_reducible first|apply oP|apply oQ);exact rfl));try simp only [go_sem,simprocAttr])|((with_reducible refine oD ?_ ?_);kernel_rfl)|((with_reducible intro h);try simp only [go_sem,simprocAttr] at h)|omega|intro h)
 exact h.symm
theorem DD (ds:List D) (row:List It) (hr:row.length≤1000000):Spec Tryz.prog 90 (Args [.d (.pt (sT row::ds))]) [] (.ref 10000) [(10000, .own 92 3 (row.map rT))]:=by
 (refine Spec.sM (C:=T.cfg [] []) (rs:= [.t 2]) [(10000,7)] (T.ai _ _) Tryz.func90 rfl rfl Tryz.ntmps90 Tryz.results90 (by simp [AObj.isNest]) (by simp [AObj.isNest]) (by first|(simp [look];done)|(simp [asN];done)|(intro l hl;simp only [asN];repeat (rw [if_neg (fun e=>by subst e;simp [look] at hl)]))) (by first|(simp [look];done)|(simp [asN];done)|(intro l hl;simp only [asN];repeat (rw [if_neg (fun e=>by subst e;simp [look] at hl)]))) (by kernel_rfl) T.mixed fun X hX hP hC aQ cy=> ?_)
 repeat' (first|refine Rn.p ?_|(with_reducible apply And.intro)|((first|(refine hK _ ?_;clear hK K)|with_reducible intro K hK|refine Rs.p ?_|((with_reducible first|apply oP|apply oQ);exact rfl)|(refine an hX hC hP [(10000,7)] (zw row hr) rfl rfl rfl ?_ ?_ ?_ ?_ ?_ ?_ ?_ ?_ ?_ ?_ ?_ ?_ ?_ ?_;(focus (simp only [go_sem,simprocAttr];done));(iterate 12 (focus (simp [go_sem,simprocAttr];done)));try simp only [List.map_cons,List.map_nil]));try simp only [go_sem,simprocAttr])|((with_reducible refine oD ?_ ?_);kernel_rfl)|((with_reducible intro h);try simp only [go_sem,simprocAttr] at h)|omega|intro h)
def vM (rs:List Int) (l:List It):Int:=match l.find? (fun t=>decide (t.2.2∈rs)) with
 |some t=>t.2.2
 |none=>rs.headD (-1)
theorem DE (rs:List Int) (l:List It) (hr:rs≠ []) (hrl:rs.length≤1000000) (hl:l.length≤1000000):Spec Tryz.prog 154 (Args [.d (sI rs), .d (sT l)]) [] (eN (vM rs l)) []:=by
 generalize hH:vM rs l=H
 (refine Spec.hd (C:=T.cfg [] []) (rs:= [.t 4]) (T.ai _ _) Tryz.func154 rfl rfl Tryz.ntmps154 Tryz.results154 (by simp [AObj.isNest]) (by simp [AObj.isNest]) (by kernel_rfl) T.mixed fun X hX hP hC aQ cy=> ?_)
 repeat' (first|refine Rn.p ?_|(with_reducible apply And.intro)|((first|(refine hK _ ?_;clear hK K)|with_reducible intro K hK|refine Rs.p ?_|((with_reducible first|apply oP|apply oQ);exact rfl));try simp only [go_sem,simprocAttr])|((with_reducible refine oD ?_ ?_);kernel_rfl)|((with_reducible intro h);try simp only [go_sem,simprocAttr] at h)|omega|intro h)
 refine ak (fun k:Nat=>k≤l.length∧∀j,j<k→(l.getD j (0,0,0)).2.2∉rs) (fun k=>⟨[(0, .d (sI rs)),(7, .d (sT l)),(8,eN l.length),(9,eN k)], []⟩) (fun k=>l.length - k) 0 (by simp) ?_ ?_
 ·(refine Le.of ?_ ?_<;>simp [go_sem,simprocAttr])
 rintro k ⟨hk,hg⟩
 rcases Nat.lt_or_ge k l.length with cw|Im
 ·have hb:decide ((k:Int)<(l.length:Int))=true:=decide_eq_true (by omega)
  by_cases h1:(l.getD k (0,0,0)).2.2∈rs
  ·have hb1:decide ((l.getD k (0,0,0)).2.2∈rs)=true:=decide_eq_true h1
   have:(l.getD k (0,0,0)).2.2=H:=by
    rw [← hH];unfold vM
    have:l.find? (fun t=>decide (t.2.2∈rs))=some (l.getD k (0,0,0)):=by
     rw [List.find?_eq_some_iff_getElem]
     refine ⟨hb1,k,cw,by rw [List.getD_eq_getElem?_getD,List.getElem?_eq_getElem cw];rfl,fun j hj=> ?_⟩
     have:=hg j hj
     rw [List.getD_eq_getElem?_getD,List.getElem?_eq_getElem (by omega)] at this
     simpa using this
    rw [this]
   have hb2:decide (H∈rs)=true:=by rw [← this];exact hb1
   repeat' (first|refine Rn.p ?_|(with_reducible apply And.intro)|((first|(refine hK _ ?_;clear hK K)|with_reducible intro K hK|refine Rs.p ?_|((with_reducible first|apply oP|apply oQ);exact rfl)|refine aa hX hC hP (aW rs H (by omega)) rfl rfl rfl (by simp only [go_sem,simprocAttr,hb,hb2,this]) rfl ?_);try simp only [go_sem,simprocAttr,hb,hb2,this])|((with_reducible refine oD ?_ ?_);kernel_rfl)|((with_reducible intro h);try simp only [go_sem,simprocAttr,hb,hb2,this] at h)|omega|intro h)
  ·have hb1:decide ((l.getD k (0,0,0)).2.2∈rs)=false:=decide_eq_false h1
   repeat' (first|refine Rn.p ?_|(with_reducible apply And.intro)|((first|(refine hK _ ?_;clear hK K)|with_reducible intro K hK|refine Rs.p ?_|((with_reducible first|apply oP|apply oQ);exact rfl)|refine aa hX hC hP (aW rs (l.getD k (0,0,0)).2.2 (by omega)) rfl rfl rfl (by simp only [go_sem,simprocAttr,hb,hb1]) rfl ?_);try simp only [go_sem,simprocAttr,hb,hb1])|((with_reducible refine oD ?_ ?_);kernel_rfl)|((with_reducible intro h);try simp only [go_sem,simprocAttr,hb,hb1] at h)|omega|intro h)
   refine ⟨k+1,⟨by omega,fun j hj=> ?_⟩, ?_,by omega⟩
   ·by_cases e:j=k
    ·subst e;exact h1
    ·exact hg j (by omega)
   ·(refine Le.of ?_ ?_<;>simp [go_sem,simprocAttr,hb,hb1])
 ·have hb:decide ((k:Int)<(l.length:Int))=false:=decide_eq_false (by omega)
  have hpos:=List.length_pos_iff.2 hr
  have:rs.getD 0 0=H:=by
   rw [← hH];unfold vM
   have:l.find? (fun t=>decide (t.2.2∈rs))=none:=by
    rw [List.find?_eq_none]
    intro t ht
    obtain ⟨j,hj,rfl⟩:=List.mem_iff_getElem.1 ht
    have:=hg j (by omega)
    rw [List.getD_eq_getElem?_getD,List.getElem?_eq_getElem hj] at this
    simpa using this
   rw [this]
   match rs,hr with
   |a::_,_=>rfl
  repeat' (first|refine Rn.p ?_|(with_reducible apply And.intro)|((first|(refine hK _ ?_;clear hK K)|with_reducible intro K hK|refine Rs.p ?_|((with_reducible first|apply oP|apply oQ);exact rfl));try simp only [go_sem,simprocAttr,hb,this])|((with_reducible refine oD ?_ ?_);kernel_rfl)|((with_reducible intro h);try simp only [go_sem,simprocAttr,hb,this] at h)|omega|intro h)
end Go.Ab
end
section
namespace Go.Ab
open Go.Proofs
attribute [local congr] ACall.congr gd.congr Nx.congr
set_option maxRecDepth 10000
set_option maxHeartbeats 8000000
theorem H7 {g:Gr} (hm:aL g=true) {f:Fr} (hi:fG g f) (rev:Bool):vM (eM g f) (jf rev f.row)=gC g f rev:=by
 unfold vM gC
 have:(fun t:It=>decide (t.2.2∈eM g f))=fun t:It=>az g f t.2.2:=by
  funext t
  cases h:az g f t.2.2 with
  |true=>exact decide_eq_true ((gD hm hi).2 h)
  |false=>exact decide_eq_false fun h2=>by rw [(gD hm hi).1 h2] at h;cases h
 rw [this]
 rfl
theorem A3 (row:List It):Spec Tryz.prog 105 (Args [.ref 10000]) [(10000, .own 92 3 (row.map rT))] (.tup []) [(10000, .own 92 3 ((jf false row).map rT))]:=by
 (refine Spec.hd (C:=T.cfg [] []) (rs:= []) (T.ai _ _) Tryz.func105 rfl rfl Tryz.ntmps105 Tryz.results105 (by simp [AObj.isNest]) (by simp [AObj.isNest]) (by kernel_rfl) T.mixed fun X hX hP hC aQ cy=> ?_)
 repeat' (first|refine Rn.p ?_|(with_reducible apply And.intro)|((first|(refine hK _ ?_;clear hK K)|with_reducible intro K hK|refine Rs.p ?_|((with_reducible first|apply oP|apply oQ);exact rfl));try simp only [go_sem,simprocAttr,jf])|((with_reducible refine oD ?_ ?_);kernel_rfl)|((with_reducible intro h);try simp only [go_sem,simprocAttr,jf] at h)|omega|intro h)
theorem A4 (row:List It) (hl:row.length≤1000000):Spec Tryz.prog 106 (Args [.ref 10000]) [(10000, .own 92 3 (row.map rT))] (.tup []) [(10000, .own 92 3 ((jf true row).map rT))]:=uQ row hl
theorem vN (g:Gr) (p:Pl) (h:aX g p) (rev:Bool) (F:Nat) (MG:∀row:List It,row.length≤1000000→Spec Tryz.prog F (Args [.ref 10000]) [(10000, .own 92 3 (row.map rT))] (.tup []) [(10000, .own 92 3 ((jf rev row).map rT))]):
 Spec Tryz.prog 104 (Args [eG g, .d (.sl 1 (vI p.outs)), .fn F [] []]) [] (.d (sI (ee g p rev g.n.toNat))) []:=by
 have hm:=aj h.1
 have hn:=aG hm
 (refine Spec.hd (C:=T.cfg [] []) (rs:= [.t 6]) (T.ai _ _) Tryz.func104 rfl rfl Tryz.ntmps104 Tryz.results104 (by simp [AObj.isNest]) (by simp [AObj.isNest]) (by kernel_rfl) T.mixed fun X hX hP hC aQ cy=> ?_)
 repeat' (first|(show cr _ (.seq (.region 3 _ _) _) _ _;(refine yl 15 0 3 rfl rfl rfl ?_;simp only [List.set_cons_zero,List.set_cons_succ,go_sem,simprocAttr]);(refine jz hX 15 2 200 (.tip 3 1 []) rfl rfl rfl (by simp only [go_sem,simprocAttr]) (by decide) (by simp [go_sem,simprocAttr]) ⟨3,1,by decide, .inr rfl⟩ ?_;simp only [List.set_cons_zero,List.set_cons_succ,go_sem,simprocAttr]))|refine Rn.p ?_|(with_reducible apply And.intro)|((first|(refine hK _ ?_;clear hK K)|with_reducible intro K hK|refine Rs.p ?_|((with_reducible first|apply oP|apply oQ);exact rfl)|(refine iG hX hC hP [(10000,15)] (pQ g (by omega) h.1 hm) rfl rfl rfl ?_ ?_ ?_ ?_ ?_ ?_ ?_ ?_ ?_ ?_ ?_ ?_ ?_ ?_;(focus (simp only [go_sem,simprocAttr];done));(iterate 12 (focus (simp [go_sem,simprocAttr];done)));try simp only [List.map_cons,List.map_nil]));try simp only [go_sem,simprocAttr])|((with_reducible refine oD ?_ ?_);kernel_rfl)|((with_reducible intro h);try simp only [go_sem,simprocAttr] at h)|omega|intro h)
 have P9:List.replicate g.n.toNat [D.sc (.int .i64 0)]=(ee g p rev 0).map rI:=by rw [ee,List.map_replicate];rfl
 rw [P9]
 refine ak (fun k:Nat=>k≤g.n.toNat) (fun k=>⟨[(1, .d (.sl 1 (vI p.outs))),(2, .fn F [] []),(7, .ptr 15 0),(9, .ref 20),(22,eN g.n),(23,eN k)], [(15, .box [.d (sT (bz g p rev k).row), .d (vw g), .ref 200]),(200, .tip 3 1 ((bz g p rev k).pl.map rI)),(20, .own 3 1 ((ee g p rev k).map rI))]⟩) (fun k=>g.n.toNat - k) 0 (by omega) ?_ ?_
 ·refine Le.of ?_ ?_<;>simp [go_sem,simprocAttr,bz]
 rintro k hk
 obtain ⟨hi,cx,_,hrl⟩:=oN h rev hk
 have hmul:k*(g.es.length+1)≤64*129:=Nat.mul_le_mul (by omega) (by omega)
 rcases Nat.lt_or_ge k g.n.toNat with cw|Im
 rotate_left
 ·have hb:decide ((k:Int)<g.n)=false:=decide_eq_false (by omega)
  obtain rfl:k=g.n.toNat:=by omega
  repeat' (first|refine Rn.p ?_|(with_reducible apply And.intro)|((first|(refine hK _ ?_;clear hK K)|with_reducible intro K hK|refine Rs.p ?_|((with_reducible first|apply oP|apply oQ);exact rfl));try simp only [go_sem,simprocAttr,hb])|((with_reducible refine oD ?_ ?_);kernel_rfl)|((with_reducible intro h);try simp only [go_sem,simprocAttr,hb] at h)|omega|intro h)
 have hb:decide ((k:Int)<g.n)=true:=decide_eq_true (by omega)
 obtain ⟨hR,hne⟩:=tT h rev cw
 have Cy:=aD hR
 have gy:(eM g (bz g p rev k)).length≤64:=by have:=tJ (g:=g) (f:=bz g p rev k) (k:=g.n.toNat);unfold eM;omega
 have hpe:=H7 hm hi.tofG rev
 have hlo:(jf rev (bz g p rev k).row).length=(bz g p rev k).row.length:=by unfold jf;split<;>simp
 have Nw:=DE (eM g (bz g p rev k)) (jf rev (bz g p rev k).row) hne (by omega) (by omega)
 rw [hpe] at Nw
 clear hpe
 have TA:=DD [vw g,sI (bz g p rev k).pl] (bz g p rev k).row (by omega)
 have Re:=MG (bz g p rev k).row (by omega)
 have Rg:=yH g hm (bz g p rev k) (by omega) (by omega)
 have J4:=bK h.2.1 Cy.1 Cy.2.1
 have qP:=ru h.2.1 Cy.1 Cy.2.1
 have dS:bz g p rev (k+1)=(aA g (bz g p rev k) (gC g (bz g p rev k) rev) (cj p (gC g (bz g p rev k) rev))).2:=rfl
 have Rh:ee g p rev (k+1)=(ee g p rev k).set (gC g (bz g p rev k) rev).toNat (k:Int):=rfl
 have pI:=mo (g:=g) (p:=p) (rev:=rev) (k:=k)
 generalize gC g (bz g p rev k) rev=x0 at*
 obtain ⟨x,rfl⟩:∃x:Nat,x0=x:=⟨x0.toNat,by omega⟩
 have hxl:x<p.outs.length:=by have:=h.2.1.1;omega
 have hv:=fF hxl
 have hla:cj p (x:Int)=p.outs.getD x []:=by unfold cj;rw [Int.toNat_natCast]
 rw [hla] at J4 qP dS
 rw [Int.toNat_natCast] at Rh
 have Di:=qz g hm (bz g p rev k) hi (x:Int) (p.outs.getD x []) (by omega) (by omega) (by omega)
 have hpk:fE g (bz g p rev k) (x:Int) (p.outs.getD x [])=aA g (bz g p rev k) (x:Int) (p.outs.getD x []):=by
  unfold fE
  rw [if_neg (by rw [hR];simp),if_neg]
  rintro (h|⟨i,h1,h2⟩)
  ·exact h J4.length_eq
  ·exact h2 (J4.mem_iff.2 h1)
 rw [hpk] at Di
 generalize p.outs.getD x []=o at hv Di dS
 generalize eM g (bz g p rev k)=L at Nw Rg gy
 generalize jf rev (bz g p rev k).row=LR at Nw Re hlo
 generalize TB:bz g p rev (k+1)=f' at dS
 generalize bz g p rev k=f at*
 generalize aA g f (x:Int) o=su at Di dS
 repeat' (first|(show cr _ (.region 11 _ _) _ _;(refine dy hX 15 2 201 200 rfl rfl rfl (by first|exact .inl rfl|exact .inr rfl) (by decide) (by decide) ?_;simp only [List.set_cons_zero,List.set_cons_succ,go_sem,simprocAttr,hb,hv,pI,iU,pg,fM]))|refine Rn.p ?_|(with_reducible apply And.intro)|((first|(refine hK _ ?_;clear hK K)|with_reducible intro K hK|refine Rs.p ?_|((with_reducible first|apply oP|apply oQ);exact rfl)|(refine gO hX hC hP 29 (TA) rfl rfl rfl ?_ ?_ (by first|exact ⟨_,_,_,rfl,tE⟩|exact ⟨_,_,_,rfl,tF⟩|exact ⟨_,_,_,rfl,tI⟩) rfl (by decide) ?_;(iterate 2 (focus (simp only [go_sem,simprocAttr,hb,hv,pI,iU,pg,fM];done)));simp only [go_sem,simprocAttr,hb,hv,pI,iU,pg,fM])|(refine an hX hC hP [(10000,29)] (Re) rfl rfl rfl ?_ ?_ ?_ ?_ ?_ ?_ ?_ ?_ ?_ ?_ ?_ ?_ ?_ ?_;(focus (simp only [go_sem,simprocAttr,hb,hv,pI,iU,pg,fM];done));(iterate 12 (focus (simp [go_sem,simprocAttr,hb,hv,pI,iU,pg,fM];done)));try simp only [List.map_cons,List.map_nil])|(refine lz hX hC hP 34 (Rg) rfl rfl rfl ?_ ?_ (by first|exact ⟨_,_,_,rfl,tE⟩|exact ⟨_,_,_,rfl,tF⟩|exact ⟨_,_,_,rfl,tI⟩) rfl (by decide) ?_;(iterate 2 (focus (simp only [go_sem,simprocAttr,hb,hv,pI,iU,pg,fM];done)));simp only [go_sem,simprocAttr,hb,hv,pI,iU,pg,fM])|(refine au hX hC hP (Nw) rfl rfl rfl ?_ ?_ ?_ ?_;iterate 3 (focus (simp only [go_sem,simprocAttr,hb,hv,pI,iU,pg,fM];done)))|(refine an hX hC hP [(10000,15),(10001,200),(10002,201)] (Di) rfl rfl rfl ?_ ?_ ?_ ?_ ?_ ?_ ?_ ?_ ?_ ?_ ?_ ?_ ?_ ?_;(focus (simp only [go_sem,simprocAttr,hb,hv,pI,iU,pg,fM];done));(iterate 12 (focus (simp [go_sem,simprocAttr,hb,hv,pI,iU,pg,fM];done)));try simp only [List.map_cons,List.map_nil]));try simp only [go_sem,simprocAttr,hb,hv,pI,iU,pg,fM])|((with_reducible refine oD ?_ ?_);kernel_rfl)|((with_reducible intro h);try simp only [go_sem,simprocAttr,hb,hv,pI,iU,pg,fM] at h)|omega|intro h)
 refine ⟨k+1,by omega, ?_,by omega⟩
 rw [Rh,TB,dS]
 refine Le.of ?_ ?_<;>simp [go_sem,simprocAttr,hb,hv,pI,iU,pg,fM,rI]
def J5 (b:Bool) (g:Gr) (p:Pl):List Int × List Int × Int:=
 if (cq b g p).2.1=0∧vu g=true then (ee g p false g.n.toNat,ee g p true g.n.toNat,0) else ([], [],1)
theorem A5 (g:Gr) (hl:g.es.length≤1000) (p:Pl) (hp:oR p) (b:Bool) (hr:b=true↔(cg g).1=0∧bg g p):
 Spec Tryz.prog 59 (Args [eG g,ePl p]) [] (.tup [.d (sI (J5 b g p).1), .d (sI (J5 b g p).2.1),eN (J5 b g p).2.2]) []:=by
 have hO:=gq g hl p hp b hr
 have hI:=nt g hl
 by_cases h0:(cq b g p).2.1=0
 rotate_left
 ·have hK:J5 b g p=([], [],1):=if_neg fun h=>h0 h.1
  have hb0:decide ((cq b g p).2.1=0)=false:=decide_eq_false h0
  rw [hK]
  (refine Spec.hd (C:=T.cfg [] []) (rs:= [.t 4, .t 5, .t 6]) (T.ai _ _) Tryz.func59 rfl rfl Tryz.ntmps59 Tryz.results59 (by simp [AObj.isNest]) (by simp [AObj.isNest]) (by kernel_rfl) T.mixed fun X hX hP hC aQ cy=> ?_)
  repeat' (first|refine Rn.p ?_|(with_reducible apply And.intro)|((first|(refine hK _ ?_;clear hK K)|with_reducible intro K hK|refine Rs.p ?_|((with_reducible first|apply oP|apply oQ);exact rfl)|refine aa hX hC hP (hO) rfl rfl rfl (by simp only [go_sem,simprocAttr,hb0]) rfl ?_);try simp only [go_sem,simprocAttr,hb0])|((with_reducible refine oD ?_ ?_);kernel_rfl)|((with_reducible intro h);try simp only [go_sem,simprocAttr,hb0] at h)|omega|intro h)
 obtain ⟨hrun,hR⟩:=mq hr h0
 rw [hR] at hO
 simp only at hO
 cases IM:vu g with
 |false=>
  have hK:J5 b g p=([], [],1):=if_neg fun h=>by rw [IM] at h;cases h.2
  rw [hK]
  rw [IM] at hI
  (refine Spec.hd (C:=T.cfg [] []) (rs:= [.t 4, .t 5, .t 6]) (T.ai _ _) Tryz.func59 rfl rfl Tryz.ntmps59 Tryz.results59 (by simp [AObj.isNest]) (by simp [AObj.isNest]) (by kernel_rfl) T.mixed fun X hX hP hC aQ cy=> ?_)
  repeat' (first|refine Rn.p ?_|(with_reducible apply And.intro)|((first|(refine hK _ ?_;clear hK K)|with_reducible intro K hK|refine Rs.p ?_|((with_reducible first|apply oP|apply oQ);exact rfl)|refine aa hX hC hP (hO) rfl rfl rfl (by simp only [go_sem,simprocAttr]) rfl ?_|refine aa hX hC hP (hI) rfl rfl rfl (by simp only [go_sem,simprocAttr]) rfl ?_);try simp only [go_sem,simprocAttr])|((with_reducible refine oD ?_ ?_);kernel_rfl)|((with_reducible intro h);try simp only [go_sem,simprocAttr] at h)|omega|intro h)
 |true=>
  have hK:J5 b g p=(ee g p false g.n.toNat,ee g p true g.n.toNat,0):=if_pos ⟨h0,IM⟩
  rw [hK]
  rw [IM] at hI
  have Ri:=vN g p hrun false 105 fun row _=>A3 row
  have Rj:=vN g p hrun true 106 fun row hl=>A4 row hl
  generalize ee g p false g.n.toNat=R0 at Ri
  generalize ee g p true g.n.toNat=R1 at Rj
  (refine Spec.hd (C:=T.cfg [] []) (rs:= [.t 4, .t 5, .t 6]) (T.ai _ _) Tryz.func59 rfl rfl Tryz.ntmps59 Tryz.results59 (by simp [AObj.isNest]) (by simp [AObj.isNest]) (by kernel_rfl) T.mixed fun X hX hP hC aQ cy=> ?_)
  repeat' (first|refine Rn.p ?_|(with_reducible apply And.intro)|((first|(refine hK _ ?_;clear hK K)|with_reducible intro K hK|refine Rs.p ?_|((with_reducible first|apply oP|apply oQ);exact rfl)|refine aa hX hC hP (hO) rfl rfl rfl (by simp only [go_sem,simprocAttr]) rfl ?_|refine aa hX hC hP (hI) rfl rfl rfl (by simp only [go_sem,simprocAttr]) rfl ?_|refine aa hX hC hP (Ri) rfl rfl rfl (by simp only [go_sem,simprocAttr]) rfl ?_|refine aa hX hC hP (Rj) rfl rfl rfl (by simp only [go_sem,simprocAttr]) rfl ?_);try simp only [go_sem,simprocAttr])|((with_reducible refine oD ?_ ?_);kernel_rfl)|((with_reducible intro h);try simp only [go_sem,simprocAttr] at h)|omega|intro h)
end Go.Ab
end
section
namespace Go.Ab
open Go.Proofs
attribute [local congr] ACall.congr gd.congr Nx.congr
set_option maxRecDepth 10000
set_option maxHeartbeats 8000000
def Rk (l:List Int) (k:Nat):List Int:=(List.range l.length).map fun p=>if p<k∨l.length - 1<p+k then l.getD (l.length - 1 - p) 0 else l.getD p 0
theorem xA (ps:List Int) (hl:ps.length≤1000000):
 Spec Tryz.prog 44 (Args [.d (sI ps)]) [] (.ref 10000) [(10000, .own 3 1 (ps.map rI))]:=by
 (refine Spec.sM (C:=T.cfg [5,7] []) (rs:= [.t 2]) [(10000,7)] (T.ai _ _) Tryz.func44 rfl rfl Tryz.ntmps44 Tryz.results44 (by simp [AObj.isNest]) (by simp [AObj.isNest]) (by first|(simp [look];done)|(simp [asN];done)|(intro l hl;simp only [asN];repeat (rw [if_neg (fun e=>by subst e;simp [look] at hl)]))) (by first|(simp [look];done)|(simp [asN];done)|(intro l hl;simp only [asN];repeat (rw [if_neg (fun e=>by subst e;simp [look] at hl)]))) (by kernel_rfl) T.mixed fun X hX hP hC aQ cy=> ?_)
 repeat' (first|(show cr _ .ret _ _;(try simp only [go_sem,simprocAttr]);refine dn hX 2 7 (.own 3 1 []) ?_ ?_ (by decide) ⟨3,1,by decide, .inl rfl⟩ ?_;(iterate 2 (focus (simp only [go_sem,simprocAttr];done)));simp only [go_sem,simprocAttr])|refine Rn.p ?_|(with_reducible apply And.intro)|((first|(refine hK _ ?_;clear hK K)|with_reducible intro K hK|refine Rs.p ?_|((with_reducible first|apply oP|apply oQ);exact rfl));try simp only [go_sem,simprocAttr])|((with_reducible refine oD ?_ ?_);kernel_rfl)|((with_reducible intro h);try simp only [go_sem,simprocAttr] at h)|omega|intro h)
 exact h.symm
end Go.Ab
end
section
namespace Go.Ab
open Go.Proofs
attribute [local congr] ACall.congr gd.congr Nx.congr
set_option maxRecDepth 20000
set_option maxHeartbeats 8000000
set_option linter.unusedSectionVars false
def kZ (g:Gr) (bs:List Int) (k:Nat):List (List Int × Int):=(List.range k).map fun j:Nat=>([bs.getD j 0],g.n+(j:Int))
theorem DF {g:Gr} {bs:List Int} {k:Nat} :kZ g bs (k+1)=kZ g bs k++ [([bs.getD k 0],g.n+(k:Int))]:=by simp [kZ,List.range_succ]
theorem lP {g:Gr} {bs:List Int} {k:Nat} {p:List Int × Int} :p∈kZ g bs k↔∃j:Nat,j<k∧p=([bs.getD j 0],g.n+(j:Int)):=by
 simp only [kZ,List.mem_map,List.mem_range]
 constructor
 ·rintro ⟨j,h,rfl⟩;exact ⟨j,h,rfl⟩
 ·rintro ⟨j,h,rfl⟩;exact ⟨j,h,rfl⟩
theorem DG {g:Gr} {k:Nat} :iY g (k+1)=iY g k++ [[((g.es.length+k:Nat):Int)]]:=by simp [iY,List.range_succ]
theorem Gh {g:Gr} {bs:List Int} :(iX g bs).length=g.es.length+bs.length:=by simp [iX]
section
variable {g:Gr} {p:Pl} {bs:List Int} (h:aX g p) (hb:xu g bs) (hs1:g.n+bs.length≤64) (DM:g.es.length+bs.length≤128)
include h hb hs1 DM
theorem zx:∀ {k:Nat},k≤bs.length→(dP g bs k p.ord).length=g.n.toNat+k
 |0,_=>by rw [vJ,aP h.2.1];rfl
 |k+1,hk=>by
  have hm:=aj h.1
  have nr:∀u∈p.ord,u<g.n:=fun u hu=>by
   have:=h.2.1.2.1.mem_iff.1 hu
   simp only [dx,List.mem_map,List.mem_range] at this
   obtain ⟨k,hk,e⟩:=this
   have e:(k:Int)=u:=e
   omega
  have uE:=hb.mM _ (aU (d:=0) hk)
  have Qa:dW g (bs.getD k 0)∈p.ord:=by
   have htr:=bn hm (i:=(bs.getD k 0).toNat) (by omega)
   obtain ⟨l,hl,e⟩:=fI h.2.1 htr.1 htr.2
   show tl g (bs.getD k 0).toNat∈p.ord
   rw [← e,aE,List.getD_eq_getElem?_getD,List.getElem?_eq_getElem (by rw [aP h.2.1];exact hl)]
   exact List.getElem_mem _
  obtain ⟨A,B,o1,o2,_,_⟩:=vK (k:=k) (cn h.2.1) nr Qa
  have ih:=zx (k:=k) (by omega)
  rw [o1] at ih
  rw [o2]
  simp only [List.length_append,List.length_cons] at ih ⊢
  omega
theorem Gi {k:Nat} (hk:k<bs.length):Spec Tryz.prog 103 (Args [.ptr 10000 0,eN (bs.getD k 0)]) (iZ (g.n+(k:Int)) (iX g (bs.take k)) (dP g bs k p.ord) (p.outs++iY g k) (kZ g bs k)) (.tup [])
 (Gd (g.n+((k+1:Nat):Int)) (iX g (bs.take (k+1))) (dP g bs (k+1) p.ord) (p.outs++iY g (k+1)) (kZ g bs (k+1))):=by
 have hm:=aj h.1
 have hn:=aG hm
 have cx:=h.2.1.1
 have bV:=cn h.2.1
 have uE:=hb.mM _ (aU (d:=0) hk)
 obtain ⟨e,he⟩:∃e:Nat,bs.getD k 0=(e:Int):=⟨(bs.getD k 0).toNat,by omega⟩
 obtain ⟨e1,e2,e3⟩:=Ds hb hk he
 have TC:(bs.take k).length=k:=by simp;omega
 have TD:(bs.take (k+1)).length=k+1:=by simp;omega
 have hel:(iX g (bs.take k)).length=g.es.length+k:=by rw [Gh,TC]
 have ht:dW g (bs.getD k 0)=tl g e:=by rw [he];rfl
 have nr:∀u∈p.ord,u<g.n:=fun u hu=>by
  have:=h.2.1.2.1.mem_iff.1 hu
  simp only [dx,List.mem_map,List.mem_range] at this
  obtain ⟨k,hk,e⟩:=this
  have e:(k:Int)=u:=e
  omega
 have Qa:dW g (bs.getD k 0)∈p.ord:=by
  rw [ht]
  have htr:=bn hm e1
  obtain ⟨l,hl,e⟩:=fI h.2.1 htr.1 htr.2
  rw [← e,aE,List.getD_eq_getElem?_getD,List.getElem?_eq_getElem (by rw [aP h.2.1];exact hl)]
  exact List.getElem_mem _
 obtain ⟨A,B,o1,o2,o3,o4⟩:=vK (k:=k) bV nr Qa
 rw [ht] at o1 o2 o3
 have mE:∀i,i<g.es.length→((iX g (bs.take (k+1))).getD i (0,0)).1=tl g i:=fun i hi=>by
  have:=(cF (g:=g) (bs:=bs.take (k+1)) (e:=(i:Int)) (by omega) (by omega)).1
  exact this
 have MH:(dP g bs k p.ord).length<1000:=by
  rw [zx h hb hs1 DM (by omega)];omega
 have TE:(iY g k).length=k:=by simp [iY]
 have hinj:∀j,j<bs.length→bs.getD j 0=bs.getD k 0→j=k:=fun j hj hjk=>by
  have a:=eo hb.nd hj
  have b:=eo hb.nd hk
  rw [hjk] at a
  omega
 have key:=Dw (g.n+(k:Int)) (iX g (bs.take k)) (p.outs++iY g k) (kZ g bs k) e A (nw g bs k (tl g e)) B (tl g e) (by omega) (by omega) (by omega) (by rw [List.length_append,cx,TE];omega) (by rw [← o1];exact MH)
  (fun q hq=> ?_) (fun q hq=> ?_) (by rw [e2]) o3 (fun u hu=> ?_) (fun u r hB=> ?_)
 ·rw [e2,show ((tl g e,hd g e):Edge).2=hd g e from rfl, ← e3, ← o1, ← o2,hel] at key
  rw [he,DG,DF,he, ← List.append_assoc,show g.n+((k+1:Nat):Int)=g.n+(k:Int)+1 by omega]
  exact key
 ·obtain ⟨j,hj,rfl⟩:=lP.1 hq
  have:=hb.mM _ (aU (d:=0) (show j<bs.length by omega))
  simp only [List.getD_cons_zero]
  omega
 ·obtain ⟨j,hj,rfl⟩:=lP.1 hq
  intro e'
  simp only [List.cons.injEq,and_true] at e'
  have:=hinj j (by omega) (by rw [he];exact e'.symm)
  omega
 ·obtain ⟨j,j1,j2,rfl⟩:=gu.1 hu
  rw [e2,show ((tl g e,hd g e):Edge).2=hd g e from rfl, ← e3]
  have ya:=hb.mM _ (aU (d:=0) (show j<bs.length by omega))
  unfold uu
  rw [List.any_eq_true]
  refine ⟨([bs.getD j 0],g.n+(j:Int)),List.mem_append_left _ (lP.2 ⟨j,j1,rfl⟩), ?_⟩
  simp only [dY,List.getD_cons_zero,Bool.and_eq_true,decide_eq_true_eq]
  refine ⟨⟨trivial,fun e'=> ?_⟩, ?_⟩
  ·have:=hinj j (by omega) (by rw [he];omega)
   omega
  ·rw [mE _ (by omega),mE _ e1]
   exact j2
 ·rw [e2,show ((tl g e,hd g e):Edge).2=hd g e from rfl, ← e3]
  have hu:=o4 u r hB
  unfold uu
  rw [List.any_eq_false]
  intro q hq
  have Kk:g.n≤q.2:=by
   rcases List.mem_append.1 hq with hq|hq
   ·obtain ⟨j,hj,rfl⟩:=lP.1 hq
    show g.n≤g.n+(j:Int)
    omega
   ·rw [List.mem_singleton] at hq
    subst hq
    show g.n≤g.n+(k:Int)
    omega
  simp only [dY,Bool.and_eq_true,decide_eq_true_eq]
  rintro ⟨⟨h1,_⟩,_⟩
  omega
end
end Go.Ab
end
section
namespace Go.Ab
open Go.Proofs
attribute [local congr] ACall.congr gd.congr Nx.congr
set_option maxRecDepth 10000
set_option maxHeartbeats 8000000
theorem nF {b:Bool} {g:Gr} {p:Pl} (hr:b=true↔(cg g).1=0∧bg g p) (h:aX g p):cq b g p=((gl g p g.n.toNat,aV g p),(0,0)):=by
 obtain rfl:b=true:=hr.2 ⟨h.1,h.2.1⟩
 unfold cq
 rw [if_neg (by simp),gm.2 h.2.2]
 rfl
theorem Cc {b:Bool} {g:Gr} {p:Pl} (hr:b=true↔(cg g).1=0∧bg g p) (h:(lK b g p).2.2=0):mN g p∧lK b g p=(ah g p,bH g p,0):=by
 unfold lK at h ⊢
 split at h
 ·cases h
 rename_i h0
 split at h
 ·cases h
 rename_i h1
 rw [if_neg h0,if_neg h1]
 exact ⟨⟨(mq hr (by simpa using h0)).1,by omega,by omega⟩,rfl⟩
theorem TF (g:Gr) (p:Pl):∃b:Bool,(b=true↔(cg g).1=0∧bg g p):=by
 by_cases h:(cg g).1=0∧bg g p
 ·exact ⟨true,by simp [h]⟩
 ·exact ⟨false,by simp [h]⟩
end Go.Ab
end
section
namespace Go.Ab
open Go.Proofs
attribute [local congr] ACall.congr gd.congr Nx.congr
set_option maxRecDepth 20000
set_option maxHeartbeats 8000000
theorem xB (ps:List Edge) (hl:ps.length≤1000000):
 Spec Tryz.prog 92 (Args [.d (sE ps)]) [] (.ref 10000) [(10000, .own 56 2 (ps.map rE))]:=by
 (refine Spec.sM (C:=T.cfg [5,7] []) (rs:= [.t 2]) [(10000,7)] (T.ai _ _) Tryz.func92 rfl rfl Tryz.ntmps92 Tryz.results92 (by simp [AObj.isNest]) (by simp [AObj.isNest]) (by first|(simp [look];done)|(simp [asN];done)|(intro l hl;simp only [asN];repeat (rw [if_neg (fun e=>by subst e;simp [look] at hl)]))) (by first|(simp [look];done)|(simp [asN];done)|(intro l hl;simp only [asN];repeat (rw [if_neg (fun e=>by subst e;simp [look] at hl)]))) (by kernel_rfl) T.mixed fun X hX hP hC aQ cy=> ?_)
 repeat' (first|(show cr _ .ret _ _;(try simp only [go_sem,simprocAttr]);refine dn hX 2 7 (.own 56 2 []) ?_ ?_ (by decide) ⟨56,2,by decide, .inl rfl⟩ ?_;(iterate 2 (focus (simp only [go_sem,simprocAttr];done)));simp only [go_sem,simprocAttr])|refine Rn.p ?_|(with_reducible apply And.intro)|((first|(refine hK _ ?_;clear hK K)|with_reducible intro K hK|refine Rs.p ?_|((with_reducible first|apply oP|apply oQ);exact rfl));try simp only [go_sem,simprocAttr])|((with_reducible refine oD ?_ ?_);kernel_rfl)|((with_reducible intro h);try simp only [go_sem,simprocAttr] at h)|omega|intro h)
 exact h.symm
theorem qf {g:Gr} :xu g (cR g):=by
 unfold cR
 split
 ·refine ⟨?_,fun i hi=> ?_⟩
  ·unfold zT
   exact List.Pairwise.map _ (fun a b hab=>by omega) (List.nodup_range.filter _)
  ·simp only [zT,List.mem_map,List.mem_filter,List.mem_range] at hi
   obtain ⟨j,⟨h1,_⟩,rfl⟩:=hi
   omega
 ·exact ⟨List.nodup_nil,by simp⟩
theorem A6 (g:Gr) (hl:g.es.length≤1000) (p:Pl) (hp:oR p) (b:Bool) (hr:b=true↔(cg g).1=0∧bg g p) (h0:(cq b g p).2.1=0) (IM:vu g=true) (hbig:64<g.n+(cR g).length∨128<g.es.length+(cR g).length):
 Spec Tryz.prog 58 (Args [eG g,ePl p]) [] (.tup [.d (.sc (.pointer none)),eN 10]) []:=by
 have hO:=gq g hl p hp b hr
 have hI:=nt g hl
 have hT:=Cb g (by omega)
 obtain ⟨hrun,hR⟩:=mq hr h0
 rw [hR] at hO
 simp only at hO
 rw [IM] at hI
 have hn:=aG (aj hrun.1)
 have Fq:(cR g).length≤1000:=by
  unfold cR
  split
  ·have:=Ca (g:=g) (k:=g.es.length);omega
  ·simp
 generalize cR g=bs at hT hbig Fq
 by_cases hA:64<g.n+(bs.length:Int)
 ·have hb1:decide (64<g.n+(bs.length:Int))=true:=decide_eq_true hA
  (refine Spec.hd (C:=T.cfg [] []) (rs:= [.t 4, .t 5]) (T.ai _ _) Tryz.func58 rfl rfl Tryz.ntmps58 Tryz.results58 (by simp [AObj.isNest]) (by simp [AObj.isNest]) (by kernel_rfl) T.mixed fun X hX hP hC aQ cy=> ?_)
  repeat' (first|refine Rn.p ?_|(with_reducible apply And.intro)|((first|(refine hK _ ?_;clear hK K)|with_reducible intro K hK|refine Rs.p ?_|((with_reducible first|apply oP|apply oQ);exact rfl)|refine aa hX hC hP (hO) rfl rfl rfl (by simp only [go_sem,simprocAttr,hb1]) rfl ?_|refine aa hX hC hP (hI) rfl rfl rfl (by simp only [go_sem,simprocAttr,hb1]) rfl ?_|refine aa hX hC hP (hT) rfl rfl rfl (by simp only [go_sem,simprocAttr,hb1]) rfl ?_);try simp only [go_sem,simprocAttr,hb1])|((with_reducible refine oD ?_ ?_);kernel_rfl)|((with_reducible intro h);try simp only [go_sem,simprocAttr,hb1] at h)|omega|intro h)
 ·have hb1:decide (64<g.n+(bs.length:Int))=false:=decide_eq_false hA
  have hb2:decide (128<(g.es.length:Int)+(bs.length:Int))=true:=decide_eq_true (by omega)
  (refine Spec.hd (C:=T.cfg [] []) (rs:= [.t 4, .t 5]) (T.ai _ _) Tryz.func58 rfl rfl Tryz.ntmps58 Tryz.results58 (by simp [AObj.isNest]) (by simp [AObj.isNest]) (by kernel_rfl) T.mixed fun X hX hP hC aQ cy=> ?_)
  repeat' (first|refine Rn.p ?_|(with_reducible apply And.intro)|((first|(refine hK _ ?_;clear hK K)|with_reducible intro K hK|refine Rs.p ?_|((with_reducible first|apply oP|apply oQ);exact rfl)|refine aa hX hC hP (hO) rfl rfl rfl (by simp only [go_sem,simprocAttr,hb1,hb2]) rfl ?_|refine aa hX hC hP (hI) rfl rfl rfl (by simp only [go_sem,simprocAttr,hb1,hb2]) rfl ?_|refine aa hX hC hP (hT) rfl rfl rfl (by simp only [go_sem,simprocAttr,hb1,hb2]) rfl ?_);try simp only [go_sem,simprocAttr,hb1,hb2])|((with_reducible refine oD ?_ ?_);kernel_rfl)|((with_reducible intro h);try simp only [go_sem,simprocAttr,hb1,hb2] at h)|omega|intro h)
theorem DH (g:Gr) (hl:g.es.length≤1000) (p:Pl) (hp:oR p) (hrun:aX g p) (IM:vu g=true) (bs:List Int) (MI:cR g=bs) (hs1:g.n+bs.length≤64) (DM:g.es.length+bs.length≤128):
 Spec Tryz.prog 58 (Args [eG g,ePl p]) [] (.tup [.ptr 10000 0,eN 0]) (iZ (g.n+bs.length) (iX g bs) (dP g bs bs.length p.ord) (p.outs++iY g bs.length) (kZ g bs bs.length)):=by
 have hO:=gq g hl p hp true ⟨fun _=>⟨hrun.1,hrun.2.1⟩,fun _=>rfl⟩
 rw [nF ⟨fun _=>⟨hrun.1,hrun.2.1⟩,fun _=>rfl⟩ hrun] at hO
 simp only at hO
 have hI:=nt g hl
 rw [IM] at hI
 have hT:=Cb g (by omega)
 have Az:=qf (g:=g)
 rw [MI] at hT Az
 have hn:=aG (aj hrun.1)
 have cx:=hrun.2.1.1
 have qP:=aP hrun.2.1
 have hb1:decide (64<g.n+(bs.length:Int))=false:=decide_eq_false (by omega)
 have hb2:decide (128<(g.es.length:Int)+(bs.length:Int))=false:=decide_eq_false (by omega)
 have TG:=xB g.es (by omega)
 have TH:=xA p.ord (by omega)
 have TJ:∀k,k<p.outs.length→Spec Tryz.prog 44 (Args [.d (sI (p.outs.getD k []))]) [] (.d (sI (p.outs.getD k []))) []:=fun k hk=>jd _ (by
  have h1:=(hrun.2.1.2.2 k (by omega)).length_eq
  have h2:(cu g (k:Int)).length≤g.es.length:=jJ
  omega)
 unfold iZ
 (refine Spec.sM (C:=T.cfg [51,55,76,75,200] []) (rs:= [.t 4, .t 5]) [(10000,59),(10001,51),(10002,55),(10003,200),(10004,57)] (T.ai _ _) Tryz.func58 rfl rfl Tryz.ntmps58 Tryz.results58 (by simp [AObj.isNest]) (by simp [AObj.isNest]) (by first|(simp [look];done)|(simp [asN];done)|(intro l hl;simp only [asN];repeat (rw [if_neg (fun e=>by subst e;simp [look] at hl)]))) (by first|(simp [look];done)|(simp [asN];done)|(intro l hl;simp only [asN];repeat (rw [if_neg (fun e=>by subst e;simp [look] at hl)]))) (by kernel_rfl) T.mixed fun X hX hP hC aQ cy=> ?_)
 repeat' (first|(show cr _ (.seq (.region 8 _ _) _) _ _;(refine jz hX 59 3 200 (.own 25 1 []) rfl rfl rfl (by simp only [go_sem,simprocAttr,hb1,hb2]) (by decide) (by simp [go_sem,simprocAttr,hb1,hb2]) ⟨25,1,by decide, .inl rfl⟩ ?_;simp only [List.set_cons_zero,List.set_cons_succ,go_sem,simprocAttr,hb1,hb2]))|refine Rn.p ?_|(with_reducible apply And.intro)|((first|(refine hK _ ?_;clear hK K)|with_reducible intro K hK|refine Rs.p ?_|((with_reducible first|apply oP|apply oQ);exact rfl)|refine aa hX hC hP (hO) rfl rfl rfl (by simp only [go_sem,simprocAttr,hb1,hb2]) rfl ?_|refine aa hX hC hP (hI) rfl rfl rfl (by simp only [go_sem,simprocAttr,hb1,hb2]) rfl ?_|refine aa hX hC hP (hT) rfl rfl rfl (by simp only [go_sem,simprocAttr,hb1,hb2]) rfl ?_|(refine an hX hC hP [(10000,51)] (TG) rfl rfl rfl ?_ ?_ ?_ ?_ ?_ ?_ ?_ ?_ ?_ ?_ ?_ ?_ ?_ ?_;(focus (simp only [go_sem,simprocAttr,hb1,hb2];done));(iterate 12 (focus (simp [go_sem,simprocAttr,hb1,hb2];done)));try simp only [List.map_cons,List.map_nil])|(refine an hX hC hP [(10000,55)] (TH) rfl rfl rfl ?_ ?_ ?_ ?_ ?_ ?_ ?_ ?_ ?_ ?_ ?_ ?_ ?_ ?_;(focus (simp only [go_sem,simprocAttr,hb1,hb2];done));(iterate 12 (focus (simp [go_sem,simprocAttr,hb1,hb2];done)));try simp only [List.map_cons,List.map_nil]));try simp only [go_sem,simprocAttr,hb1,hb2])|((with_reducible refine oD ?_ ?_);kernel_rfl)|((with_reducible intro h);try simp only [go_sem,simprocAttr,hb1,hb2] at h)|omega|intro h)
 refine ak (fun k:Nat=>k≤p.outs.length) (fun k=>⟨[(4, .d (.sc (.pointer none))),(5,eN 0),(9, .d (sI bs)),(10, .ptr 59 0),(61, .d (.sl 1 (vI p.outs))),(62,eN p.outs.length),(63,eN k)], [(59, .box [eN g.n, .ref 51, .ref 55, .ref 200, .mref 57]),(51, .own 56 2 (g.es.map rE)),(55, .own 3 1 (p.ord.map rI)),(200, .own 25 1 (vI (p.outs.take k))),(57, .mp 0 [])]⟩) (fun k=>p.outs.length - k) 0 (by omega) ?_ ?_
 ·refine Le.of ?_ ?_<;>simp [go_sem,simprocAttr,vI]
 rintro k hk
 rcases Nat.lt_or_ge k p.outs.length with hlt|hge
 ·have hb:decide ((k:Int)<(p.outs.length:Int))=true:=decide_eq_true (by omega)
  have hc:=TJ k hlt
  have zS:(p.outs.take k).length=k:=by simp;omega
  have hv:vI (p.outs.take k)++ [[D.sl 1 ((p.outs.getD k []).map rI)]]=vI (p.outs.take (k+1)):=by
   rw [List.take_add_one,List.getElem?_eq_getElem hlt,Option.toList_some,J2,List.getD_eq_getElem?_getD,List.getElem?_eq_getElem hlt]
   rfl
  repeat' (first|(show cr _ (.region 12 _ _) _ _;(refine dy hX 59 3 76 200 rfl rfl rfl (by first|exact .inl rfl|exact .inr rfl) (by decide) (by decide) ?_;simp only [List.set_cons_zero,List.set_cons_succ,go_sem,simprocAttr,hb,hv,fF hlt,zS,sI]))|refine Rn.p ?_|(with_reducible apply And.intro)|((first|(refine hK _ ?_;clear hK K)|with_reducible intro K hK|refine Rs.p ?_|((with_reducible first|apply oP|apply oQ);exact rfl)|refine aa hX hC hP (hc) rfl rfl rfl (by simp only [go_sem,simprocAttr,hb,hv,fF hlt,zS,sI]) rfl ?_);try simp only [go_sem,simprocAttr,hb,hv,fF hlt,zS,sI])|((with_reducible refine oD ?_ ?_);kernel_rfl)|((with_reducible intro h);try simp only [go_sem,simprocAttr,hb,hv,fF hlt,zS,sI] at h)|omega|intro h)
  refine ⟨k+1,by omega, ?_,by omega⟩
  refine Le.of ?_ ?_<;>simp [go_sem,simprocAttr,hb,hv,fF hlt,zS,sI]
 ·have hb:decide ((k:Int)<(p.outs.length:Int))=false:=decide_eq_false (by omega)
  obtain rfl:k=p.outs.length:=by omega
  rw [List.take_length]
  repeat' (first|refine Rn.p ?_|(with_reducible apply And.intro)|((first|(refine hK _ ?_;clear hK K)|with_reducible intro K hK|refine Rs.p ?_|((with_reducible first|apply oP|apply oQ);exact rfl));try simp only [go_sem,simprocAttr,hb])|((with_reducible refine oD ?_ ?_);kernel_rfl)|((with_reducible intro h);try simp only [go_sem,simprocAttr,hb] at h)|omega|intro h)
  refine ak (fun k:Nat=>k≤bs.length) (fun k=>⟨[(4, .d (.sc (.pointer none))),(5,eN 0),(10, .ptr 59 0),(81, .d (sI bs)),(82,eN bs.length),(83,eN k)], [(59, .box [eN (g.n+(k:Int)), .ref 51, .ref 55, .ref 200, .mref 57]),(51, .own 56 2 ((iX g (bs.take k)).map rE)),(55, .own 3 1 ((dP g bs k p.ord).map rI)),(200, .own 25 1 (vI (p.outs++iY g k))),(57, .mp 0 (kZ g bs k))]⟩) (fun k=>bs.length - k) 0 (by omega) ?_ ?_
  ·refine Le.of ?_ ?_<;>simp [go_sem,simprocAttr,Du,vJ,iY,kZ]
  rintro k hk
  rcases Nat.lt_or_ge k bs.length with hlt|hge
  ·have hb3:decide ((k:Int)<(bs.length:Int))=true:=decide_eq_true (by omega)
   have hL:=Gi hrun Az hs1 DM hlt
   repeat' (first|(show cr _ (.region 17 _ _) _ _;(refine dy hX 59 1 301 51 rfl rfl rfl (by first|exact .inl rfl|exact .inr rfl) (by decide) (by decide) ?_;simp only [List.set_cons_zero,List.set_cons_succ,go_sem,simprocAttr,hb3,iZ,Gd]);(refine dy hX 59 2 302 55 rfl rfl rfl (by first|exact .inl rfl|exact .inr rfl) (by decide) (by decide) ?_;simp only [List.set_cons_zero,List.set_cons_succ,go_sem,simprocAttr,hb3,iZ,Gd]);(refine dy hX 59 3 303 200 rfl rfl rfl (by first|exact .inl rfl|exact .inr rfl) (by decide) (by decide) ?_;simp only [List.set_cons_zero,List.set_cons_succ,go_sem,simprocAttr,hb3,iZ,Gd]))|refine Rn.p ?_|(with_reducible apply And.intro)|((first|(refine hK _ ?_;clear hK K)|with_reducible intro K hK|refine Rs.p ?_|((with_reducible first|apply oP|apply oQ);exact rfl)|(refine an hX hC hP [(10000,59),(10001,51),(10002,55),(10003,200),(10004,57),(10011,301),(10012,302),(10013,303)] (hL) rfl rfl rfl ?_ ?_ ?_ ?_ ?_ ?_ ?_ ?_ ?_ ?_ ?_ ?_ ?_ ?_;(focus (simp only [go_sem,simprocAttr,hb3,iZ,Gd];done));(iterate 12 (focus (simp [go_sem,simprocAttr,hb3,iZ,Gd];done)));try simp only [List.map_cons,List.map_nil]));try simp only [go_sem,simprocAttr,hb3,iZ,Gd])|((with_reducible refine oD ?_ ?_);kernel_rfl)|((with_reducible intro h);try simp only [go_sem,simprocAttr,hb3,iZ,Gd] at h)|omega|intro h)
   refine ⟨k+1,by omega, ?_,by omega⟩
   refine Le.of ?_ ?_<;>simp [go_sem,simprocAttr,hb3,iZ,Gd]
  ·have hb3:decide ((k:Int)<(bs.length:Int))=false:=decide_eq_false (by omega)
   obtain rfl:k=bs.length:=by omega
   rw [List.take_length]
   repeat' (first|refine Rn.p ?_|(with_reducible apply And.intro)|((first|(refine hK _ ?_;clear hK K)|with_reducible intro K hK|refine Rs.p ?_|((with_reducible first|apply oP|apply oQ);exact rfl));try simp only [go_sem,simprocAttr,hb3])|((with_reducible refine oD ?_ ?_);kernel_rfl)|((with_reducible intro h);try simp only [go_sem,simprocAttr,hb3] at h)|omega|intro h)
end Go.Ab
end
section
namespace Go.Ab
open Go.Proofs
attribute [local congr] ACall.congr gd.congr Nx.congr
set_option maxRecDepth 20000
set_option maxHeartbeats 8000000
noncomputable def TL (b:Bool) (g:Gr) (p:Pl):Gr × Pl × Int:=
 if (cq b g p).2.1=0∧vu g=true then (if 64<g.n+(cR g).length∨128<g.es.length+(cR g).length then (gz,pz,10) else (aI g (cR g),AU g p (cR g),0)) else (gz,pz,1)
end Go.Ab
end
section
namespace Go.Ab
open Go.Proofs
set_option maxRecDepth 10000
def vO (g:Gr) (both:Bool) (c:Nat→Bool) (a:List Bool):Nat→List Bool
 |0=>a
 |k+1=>if c k&&((vO g both c a k).getD (tl g k).toNat false||both&&(vO g both c a k).getD (hd g k).toNat false) then
   ((vO g both c a k).set (hd g k).toNat true).set (tl g k).toNat (((vO g both c a k).set (hd g k).toNat true).getD (tl g k).toNat false||both) else vO g both c a k
def wz (g:Gr) (both:Bool) (c:Nat→Bool) (a:List Bool):Nat→List Bool
 |0=>a
 |r+1=>vO g both c (wz g both c a r) g.es.length
theorem jY {l:List Bool} {i j:Nat} {a:Bool} (hi:i<l.length):(l.set i a).getD j false=if j=i then a else l.getD j false:=by
 rw [List.getD_eq_getElem?_getD,List.getElem?_set]
 by_cases h:i=j
 ·subst h;simp [hi]
 ·rw [if_neg h,if_neg (fun e=>h e.symm),List.getD_eq_getElem?_getD]
theorem rK {g:Gr} {both:Bool} {c:Nat→Bool} {a:List Bool} :∀ {k:Nat},(vO g both c a k).length=a.length
 |0=>rfl
 |k+1=>by
  rw [vO]
  split
  ·rw [List.length_set,List.length_set];exact rK
  ·exact rK
theorem gv {g:Gr} {both:Bool} {c:Nat→Bool} {a:List Bool} :∀ {r:Nat},(wz g both c a r).length=a.length
 |0=>rfl
 |r+1=>by rw [wz,rK];exact gv
section
variable {g:Gr} (hm:aL g=true) {both:Bool} {c:Nat→Bool}
include hm
theorem Cd {k:Nat} (hk:k<g.es.length):(tl g k).toNat<g.n.toNat∧(hd g k).toNat<g.n.toNat:=by
 have h1:=bn hm hk
 have h2:=bw hm hk
 omega
theorem lQ {a:List Bool} (ha:a.length=g.n.toNat) {k:Nat} (hk:k<g.es.length) {y:Nat} :(vO g both c a (k+1)).getD y false=true↔
 (vO g both c a k).getD y false=true∨c k=true∧((vO g both c a k).getD (tl g k).toNat false=true∧(y=(hd g k).toNat)∨both=true∧(vO g both c a k).getD (hd g k).toNat false=true∧y=(tl g k).toNat):=by
 obtain ⟨ht,hh⟩:=Cd hm hk
 have hl:(vO g both c a k).length=g.n.toNat:=by rw [rK,ha]
 rw [vO]
 generalize vO g both c a k=b at hl
 cases hc:c k with
 |false=>simp
 |true=>
  simp only [Bool.true_and]
  by_cases hq:(b.getD (tl g k).toNat false||both&&b.getD (hd g k).toNat false)=true
  ·rw [if_pos hq,jY (by rw [List.length_set,hl];exact ht),jY (by rw [hl];exact hh),jY (by rw [hl];exact hh)]
   by_cases e1:y=(tl g k).toNat
   ·subst e1
    rw [if_pos rfl]
    by_cases e2:(tl g k).toNat=(hd g k).toNat
    ·rw [if_pos e2]
     simp only [Bool.true_or,true_iff]
     cases hb:b.getD (tl g k).toNat false with
     |true=>exact .inl rfl
     |false=>
      rw [hb] at hq
      rw [← e2,hb] at hq
      simp at hq
    ·rw [if_neg e2]
     cases hb:b.getD (tl g k).toNat false with
     |true=>simp
     |false=>
      rw [hb] at hq
      simp only [Bool.false_or,Bool.and_eq_true] at hq
      exact ⟨fun _=> .inr ⟨by simp, .inr ⟨hq.1,hq.2,rfl⟩⟩,fun _=>by rw [hq.1];rfl⟩
   ·rw [if_neg e1]
    by_cases e2:y=(hd g k).toNat
    ·subst e2
     rw [if_pos rfl]
     simp only [true_iff]
     cases hb:b.getD (tl g k).toNat false with
     |true=>exact .inr ⟨by simp, .inl ⟨by simp,by simp⟩⟩
     |false=>
      rw [hb] at hq
      simp only [Bool.false_or,Bool.and_eq_true] at hq
      exact .inl hq.2
    ·rw [if_neg e2]
     constructor
     ·intro h;exact .inl h
     ·rintro (h|⟨_,⟨_,h⟩|⟨_,_,h⟩⟩)
      ·exact h
      ·exact absurd h e2
      ·exact absurd h e1
  ·rw [if_neg hq]
   simp only [Bool.or_eq_true,Bool.and_eq_true,not_or,not_and] at hq
   constructor
   ·intro h;exact .inl h
   ·rintro (h|⟨_,⟨h,_⟩|⟨h1,h2,_⟩⟩)
    ·exact h
    ·exact absurd h hq.1
    ·exact absurd h2 (hq.2 h1)
theorem iR {a:List Bool} (ha:a.length=g.n.toNat) {y:Nat} (hy:a.getD y false=true):∀ {k:Nat},k≤g.es.length→(vO g both c a k).getD y false=true
 |0,_=>hy
 |k+1,hk=>(lQ hm ha hk).2 (.inl (iR ha hy (by omega)))
theorem Ce {a:List Bool} (ha:a.length=g.n.toNat) {x:Nat} (hs:∀y,a.getD y false=true→pn g both c x y):∀ {k:Nat},k≤g.es.length→∀y,(vO g both c a k).getD y false=true→pn g both c x y
 |0,_,y,h=>hs y h
 |k+1,hk,y,h=>by
  have ih:=Ce ha hs (k:=k) (by omega)
  rcases (lQ hm ha hk).1 h with h|⟨hc,⟨h1,rfl⟩|⟨h0,h1,rfl⟩⟩
  ·exact ih y h
  ·exact .fwd hk hc (ih _ h1)
  ·exact .IK hk hc h0 (ih _ h1)
theorem H8 {a:List Bool} (ha:a.length=g.n.toNat) (hf:∀y,(vO g both c a g.es.length).getD y false=true→a.getD y false=true) {x y:Nat} (hx:a.getD x false=true) (h:pn g both c x y):a.getD y false=true:=by
 have up:∀ {j k:Nat},j≤k→k≤g.es.length→∀y,(vO g both c a j).getD y false=true→(vO g both c a k).getD y false=true:=by
  intro j k hjk
  induction hjk with
  |refl=>intro _ y h;exact h
  |step _ ih=>intro hk y h;exact (lQ hm ha hk).2 (.inl (ih (by omega) y h))
 induction h with
 |refl=>exact hx
 | @fwd k hk hc _ ih=>exact hf _ (up (show k+1≤g.es.length from hk) (Nat.le_refl _) _ ((lQ hm ha hk).2 (.inr ⟨hc, .inl ⟨iR hm ha ih (by omega),rfl⟩⟩)))
 | @IK k hk hc P6 _ ih=>exact hf _ (up (show k+1≤g.es.length from hk) (Nat.le_refl _) _ ((lQ hm ha hk).2 (.inr ⟨hc, .inr ⟨P6,iR hm ha ih (by omega),rfl⟩⟩)))
theorem Cf {a:List Bool} (ha:a.length=g.n.toNat) {x:Nat} (hs:∀y,a.getD y false=true→pn g both c x y):∀r y,(wz g both c a r).getD y false=true→pn g both c x y
 |0,y,h=>hs y h
 |r+1,y,h=>Ce hm (by rw [gv];exact ha) (Cf ha hs r) (Nat.le_refl _) y h
def o7 (a:List Bool):Nat:=a.countP id
omit hm in
theorem Gj:∀ {a b:List Bool},a.length=b.length→(∀y,a.getD y false=true→b.getD y false=true)→(∃y,b.getD y false=true∧a.getD y false=false)→o7 a<o7 b∧True
 | [], [],_,_,⟨y,h,_⟩=>by simp at h
 |p::a,q::b,hl,h,⟨y,h1,h2⟩=>by
  have le:∀ {a b:List Bool},a.length=b.length→(∀y,a.getD y false=true→b.getD y false=true)→o7 a≤o7 b:=by
   intro a
   induction a with
   |nil=>intro b _ _;exact Nat.zero_le _
   |cons p a ih=>
    intro b hl h
    cases b with
    |nil=>simp at hl
    |cons q b=>
     have:=ih (b:=b) (by simpa using hl) fun y=>by simpa using h (y+1)
     have h0:=h 0
     simp only [List.getD_cons_zero] at h0
     unfold o7 at this ⊢
     rw [List.countP_cons,List.countP_cons]
     cases p with
     |false=>simp;omega
     |true=>simp [h0 rfl];omega
  have hl':a.length=b.length:=by simpa using hl
  have h':∀y,a.getD y false=true→b.getD y false=true:=fun y=>by simpa using h (y+1)
  refine ⟨?_,trivial⟩
  have hle:=le hl' h'
  unfold o7 at hle ⊢
  rw [List.countP_cons,List.countP_cons]
  cases y with
  |zero=>
   simp only [List.getD_cons_zero] at h1 h2
   subst h1 h2
   simp;omega
  |succ y=>
   have ih:=(Gj hl' h' ⟨y,by simpa using h1,by simpa using h2⟩).1
   unfold o7 at ih
   have h0:=h 0
   simp only [List.getD_cons_zero] at h0
   cases p with
   |false=>simp;omega
   |true=>simp [h0 rfl];omega
omit hm in
theorem J6 (a:List Bool):o7 a≤a.length:=List.countP_le_length
theorem Gk {a:List Bool} (ha:a.length=g.n.toNat) (r:Nat):(∀y,(wz g both c a (r+1)).getD y false=true→(wz g both c a r).getD y false=true)∨o7 (wz g both c a r)<o7 (wz g both c a (r+1)):=by
 by_cases h:∀y,(wz g both c a (r+1)).getD y false=true→(wz g both c a r).getD y false=true
 ·exact .inl h
 ·refine .inr (Gj (gv.trans (gv (r:=r+1)).symm) (fun y hy=>iR hm (by rw [gv];exact ha) hy (Nat.le_refl _)) ?_).1
  simp only [Classical.not_forall] at h
  obtain ⟨y,h1,h2⟩:=h
  exact ⟨y,h1,by simpa using h2⟩
theorem Gl {a:List Bool} (ha:a.length=g.n.toNat) {x:Nat} (hx:a.getD x false=true) (hs:∀y,a.getD y false=true→pn g both c x y) (hc1:0<o7 a) (y:Nat):(wz g both c a g.n.toNat).getD y false=true↔pn g both c x y:=by
 refine ⟨Cf hm ha hs _ y,fun h=> ?_⟩
 have TM:∀r,(wz g both c a r).getD x false=true:=fun r=>by
  induction r with
  |zero=>exact hx
  |succ r ih=>exact iR hm (by rw [gv];exact ha) ih (Nat.le_refl _)
 have key:∀r,(∀y,pn g both c x y→(wz g both c a r).getD y false=true)∨r<o7 (wz g both c a r):=by
  intro r
  induction r with
  |zero=>exact .inr hc1
  |succ r ih=>
   rcases ih with ih|ih
   ·exact .inl fun y hy=>iR hm (by rw [gv];exact ha) (ih y hy) (Nat.le_refl _)
   ·rcases Gk hm ha r with h|h
    ·exact .inl fun y hy=>iR hm (by rw [gv];exact ha) (H8 hm (by rw [gv];exact ha) h (TM r) hy) (Nat.le_refl _)
    ·exact .inr (by omega)
 rcases key g.n.toNat with h1|h1
 ·exact h1 y h
 ·have:=J6 (wz g both c a g.n.toNat)
  rw [gv,ha] at this
  omega
end
end Go.Ab
end
section
namespace Go.Ab
open Go.Proofs
attribute [local congr] ACall.congr gd.congr Nx.congr
set_option maxRecDepth 20000
set_option maxHeartbeats 8000000
def nG (n x:Nat):List Bool:=(List.replicate n false).set x true
theorem A7 {n x:Nat} :(nG n x).length=n:=by simp [nG]
theorem pn.congr {g:Gr} {both:Bool} {c c':Nat→Bool} (h:∀k,k<g.es.length→c k=c' k) {x y:Nat} (hr:pn g both c x y):pn g both c' x y:=by
 induction hr with
 |refl=>exact .refl
 | @fwd i a b _ ih=>exact .fwd a (by rw [← h i a];exact b) ih
 | @IK i a b d _ ih=>exact .IK a (by rw [← h i a];exact b) d ih
theorem vQ {n x y:Nat} (hx:x<n):(nG n x).getD y false=true↔y=x:=by
 unfold nG
 rw [jY (by simpa using hx)]
 by_cases h:y=x
 ·rw [if_pos h];simp [h]
 ·rw [if_neg h]
  simp only [h,iff_false,Bool.not_eq_true]
  rw [List.getD_eq_getElem?_getD,List.getElem?_replicate]
  split<;>rfl
theorem A8 {n x:Nat} (hx:x<n):0<o7 (nG n x):=by
 unfold o7
 rw [List.countP_pos_iff]
 refine ⟨true, ?_,rfl⟩
 unfold nG
 rw [List.mem_iff_getElem?]
 exact ⟨x,by rw [List.getElem?_set_self (by simpa using hx)]⟩
def J7 (m i:Nat):List Bool:=(vg m m).set i false
theorem Cg {m i k:Nat} (hi:i<m) (hk:k<m):(J7 m i).getD k false=xz i k:=by
 unfold J7 xz
 rw [jY (by rw [trueK_length];exact hi)]
 by_cases h:k=i
 ·subst h;simp
 ·rw [if_neg h,vg,List.getD_eq_getElem?_getD,List.getElem?_map,List.getElem?_range hk]
  simp [hk];omega
theorem uA {g:Gr} (hm:aL g=true) {i:Nat} (hi:i<g.es.length):(wz g false (fun k=>(J7 g.es.length i).getD k false) (nG g.n.toNat (tl g i).toNat) g.n.toNat).getD (hd g i).toNat false=DU g i:=by
 obtain ⟨ht,hh⟩:=Cd hm hi
 rw [Bool.eq_iff_iff,Gl hm A7 ((vQ ht).2 rfl) (fun y hy=>by rw [(vQ ht).1 hy];exact .refl) (A8 ht),DU,AX ht,B8]
 constructor
 ·intro h
  exact ⟨hh,h.congr fun k hk=>Cg hi hk⟩
 ·rintro ⟨_,h⟩
  exact h.congr fun k hk=>(Cg hi hk).symm
end Go.Ab
end
section
namespace Go.Ab
open Go.Proofs
attribute [local congr] ACall.congr gd.congr Nx.congr
set_option maxRecDepth 20000
set_option maxHeartbeats 8000000
end Go.Ab
end
section
namespace Go.Ab
open Go.Proofs
attribute [local congr] ACall.congr gd.congr Nx.congr
set_option maxRecDepth 10000
set_option maxHeartbeats 16000000
end Go.Ab
end
section
namespace Go.Ab
open Go.Proofs
attribute [local congr] ACall.congr gd.congr Nx.congr
set_option maxRecDepth 20000
set_option maxHeartbeats 8000000
end Go.Ab
end
section
namespace Go.Ab
open Go.Proofs
attribute [local congr] ACall.congr gd.congr Nx.congr
set_option maxRecDepth 20000
set_option maxHeartbeats 16000000
end Go.Ab
end
section
namespace Go.Ab
open Go.Proofs
attribute [local congr] ACall.congr gd.congr Nx.congr
set_option maxRecDepth 10000
abbrev Pt:=Int × Int
def eP (p:Pt):AV:= .agg [.d (.sc (.int .i64 p.1)), .d (.sc (.int .i64 p.2))]
def rP (p:Pt):List D:= [.sc (.int .i64 p.1), .sc (.int .i64 p.2)]
attribute [go_sem] eP
def xC (p:Pt):Prop:=(-262144≤p.1∧p.1≤262144)∧(-262144≤p.2∧p.2≤262144)
def A9 (a b:Int):Int:=if a<b then -1 else if b<a then 1 else 0
def Ch (a b n:Int):Bool:=decide (min a b≤n)&&decide (n≤max a b)
def tm (a b c d:Pt):Int:=(b.1 - a.1)*(d.2 - c.2) - (b.2 - a.2)*(d.1 - c.1)
def sd (a b c:Pt):Int:=A9 (tm a b a c) 0
def H9 (a b c:Pt):Bool:=decide (sd a b c=0)&&Ch a.1 b.1 c.1&&Ch a.2 b.2 c.2
end Go.Ab
end
section
namespace Go.Ab
open Go.Proofs
attribute [local congr] ACall.congr gd.congr Nx.congr
set_option maxRecDepth 10000
def TN (p:Pt):Bool:=decide (262144<max p.1 p.2)||decide (min p.1 p.2< -262144)
theorem getD_rP (ps:List Pt) (i:Nat):(ps.map rP).getD i [.sc (.int .i64 0), .sc (.int .i64 0)]=rP (ps.getD i (0,0)):=by
 simp only [List.getD_eq_getElem?_getD,List.getElem?_map]
 cases ps[i]? <;>rfl
theorem rP_eq (p:Pt):rP p= [.sc (.int .i64 p.1), .sc (.int .i64 p.2)]:=rfl
attribute [go_sem] getD_rP rP_eq Int.toNat_natCast
end Go.Ab
end
section
namespace Go.Ab
open Go.Proofs
attribute [local congr] ACall.congr gd.congr Nx.congr
set_option maxRecDepth 10000
instance (p:Pt):Decidable (xC p):=by unfold xC;infer_instance
def Rl (a b c:Pt):Int:=if xC a∧xC b∧xC c then sd a b c else 0
def TO (a b c:Pt):Bool:=decide (xC a∧xC b∧xC c)&&H9 a b c
end Go.Ab
end
section
namespace Go.Ab
open Go.Proofs
attribute [local congr] ACall.congr gd.congr Nx.congr
set_option maxRecDepth 10000
def uB (a b c:Pt):Int:=a.1*b.2 - a.2*b.1+b.1*c.2 - b.2*c.1+c.1*a.2 - c.2*a.1
def qg (a b p:Pt):Int:=(p.1 - a.1)*(b.1 - a.1)+(p.2 - a.2)*(b.2 - a.2)
def Gm (a b c:Pt):Bool:=decide (xC a∧xC b∧xC c)&&(decide (uB a b c=0)&&decide ((a.1 - c.1)*(b.1 - c.1)+(a.2 - c.2)*(b.2 - c.2)≤0))
end Go.Ab
end
section
namespace Go.Ab
open Go.Proofs
attribute [local congr] ACall.congr gd.congr Nx.congr
set_option maxRecDepth 10000
set_option maxHeartbeats 2000000
def U5:OT:=(.br 0 (.br 1 (.br 2 (.br 3 (.br 4 (.br 5 (.br 6 .nil .nil) .nil) .nil) (.br 4 (.br 3 (.br 5 (.br 6 .nil .nil) .nil) (.br 5 (.br 3 (.br 6 .nil .nil) .nil) .nil)) .nil)) (.br 4 (.br 2 (.br 3 (.br 5 (.br 6 .nil .nil) .nil) (.br 5 (.br 3 (.br 6 .nil .nil) .nil) .nil)) (.br 5 (.br 2 (.br 3 (.br 6 .nil .nil) .nil) .nil) .nil)) .nil)) .nil) (.br 1 (.br 0 (.br 2 (.br 3 (.br 4 (.br 5 (.br 6 .nil .nil) .nil) .nil) (.br 4 (.br 3 (.br 5 (.br 6 .nil .nil) .nil) (.br 5 (.br 3 (.br 6 .nil .nil) .nil) .nil)) .nil)) (.br 4 (.br 2 (.br 3 (.br 5 (.br 6 .nil .nil) .nil) (.br 5 (.br 3 (.br 6 .nil .nil) .nil) .nil)) (.br 5 (.br 2 (.br 3 (.br 6 .nil .nil) .nil) .nil) .nil)) .nil)) .nil) .nil))
def MJ (a b c d:Pt):Int:=
 if xC a∧xC b∧xC c∧xC d then
  if a=b then (if Gm c d a=true then 1 else 0)
  else if c=d then (if Gm a b c=true then 1 else 0)
  else if A9 (uB a b c) 0=0∧A9 (uB a b d) 0=0 then
   let lo:=max (qg a b a) (min (qg a b c) (qg a b d))
   let hi:=min (qg a b b) (max (qg a b c) (qg a b d))
   if hi<lo then 0 else if lo=hi then 1 else 2
  else if A9 (uB a b c) 0*A9 (uB a b d) 0≤0∧A9 (uB c d a) 0*A9 (uB c d b) 0≤0 then 1 else 0
 else 0
end Go.Ab
end
section
namespace Go.Ab
open Go.Proofs
attribute [local congr] ACall.congr gd.congr Nx.congr
set_option maxRecDepth 10000
set_option maxHeartbeats 2000000
theorem mval_touch (es:List (List Int × Int)) (k:List Int):ez (dU es k) k=ez es k:=by
 unfold dU
 cases h:bY es k with
 |some i=>rfl
 |none=>
  have hn:=j8 h
  have:bY (es++ [(k,0)]) k=some es.length:=by
   unfold bY
   rw [List.findIdx?_eq_some_iff_getElem]
   refine ⟨by simp,by simp,fun j hj=> ?_⟩
   rw [List.getElem_append_left hj]
   have:=hn es[j] (List.getElem_mem hj)
   simpa using fun e=>this e.symm
  simp [ez,h,this]
def TP (es:List (List Int × Int)) (k:List Int):List (List Int × Int):=j0 (dU es k) (iA es k) (ez es k+1)
theorem mB (es:List (List Int × Int)) (i:Nat) (v:Int):(j0 es i v).map (·.1)=es.map (·.1):=by
 apply List.ext_getElem?
 intro j
 rw [List.getElem?_map,List.getElem?_map]
 unfold j0
 rw [List.getElem?_modify]
 split<;>cases es[j]? <;>rfl
def Ia (p:Pt) (ks:List (List Int)):List (List Int):=if [p.1,p.2]∈ks then ks else ks++ [[p.1,p.2]]
def BE (n:Int) (es:List (List Int × Int)):Prop:=∀p∈es,0≤p.2∧p.2≤n
end Go.Ab
end
section
namespace Go.Ab
open Go.Proofs
attribute [local congr] ACall.congr gd.congr Nx.congr
set_option maxRecDepth 10000
set_option maxHeartbeats 4000000
attribute [go_sem] mval_touch
def K1 (a _b c d:Pt):List (List Int):=if H9 c d a=true then Ia a [] else []
def K2 (a b c d:Pt):List (List Int):=if H9 c d b=true then Ia b (K1 a b c d) else K1 a b c d
def K3 (a b c d:Pt):List (List Int):=if H9 a b c=true then Ia c (K2 a b c d) else K2 a b c d
def K4 (a b c d:Pt):List (List Int):=if H9 a b d=true then Ia d (K3 a b c d) else K3 a b c d
def Rm (a b c d:Pt):Int:=
 if xC a∧xC b∧xC c∧xC d then
  if 0<(K4 a b c d).length then min ((K4 a b c d).length:Int) 2
  else if sd a b c*sd a b d<0∧sd c d a*sd c d b<0 then 1 else 0
 else 0
def RS (A B C:List (List Int)) (p:Nat × List (List Int × Int)) (n:Int):Prop:=
 (p.1=0∧p.2.map (·.1)=A∧BE n p.2)∨(p.1=1∧p.2.map (·.1)=B∧BE (n+1) p.2)∨(p.1=2∧p.2.map (·.1)=C∧BE (n+2) p.2)
def bx (p:Pt):AObj:= .box [.d (.sc (.int .i64 p.1)), .d (.sc (.int .i64 p.2))]
attribute [go_sem] bx
def U6 (a b c d:Pt) (i:Nat × List (List Int × Int)):ASt:=
 ⟨[(9, .mref 21),(4, .ptr 4 0),(5, .ptr 5 0),(6, .ptr 6 0),(7, .ptr 7 0),(24, .agg [eN a.1,eN a.2,eN b.1,eN b.2]),(25,eN i.1)],
   [(4,bx a),(5,bx b),(6,bx c),(7,bx d),(21, .mp 2 i.2)]⟩
def U7 (a b c d:Pt) (i:Nat × List (List Int × Int)):ASt:=
 ⟨[(9, .mref 21),(4, .ptr 4 0),(5, .ptr 5 0),(6, .ptr 6 0),(7, .ptr 7 0),(41, .agg [eN c.1,eN c.2,eN d.1,eN d.2]),(42,eN i.1)],
   [(4,bx a),(5,bx b),(6,bx c),(7,bx d),(21, .mp 2 i.2)]⟩
end Go.Ab
end
section
namespace Go.Ab
open Go.Proofs
attribute [local congr] ACall.congr gd.congr Nx.congr
set_option maxRecDepth 10000
def key (p:Pt):List Int:= [p.1,p.2]
def U8 (a b c d p:Pt):Prop:=(H9 c d a=true∧p=a)∨(H9 c d b=true∧p=b)∨(H9 a b c=true∧p=c)∨(H9 a b d=true∧p=d)
def Ro (a b c d:Pt):Int:=if 0<(K4 a b c d).length then min ((K4 a b c d).length:Int) 2 else if sd a b c*sd a b d<0∧sd c d a*sd c d b<0 then 1 else 0
section
variable {a b:Pt}
end
end Go.Ab
end
section
namespace Go.Ab
open Go.Proofs
attribute [local congr] ACall.congr gd.congr Nx.congr
set_option maxRecDepth 10000
abbrev Pc:=Pt × Pt
def rQ (q:Pc):List D:= [.sc (.int .i64 q.1.1), .sc (.int .i64 q.1.2), .sc (.int .i64 q.2.1), .sc (.int .i64 q.2.2)]
def eQ (q:Pc):AV:= .agg [.d (.sc (.int .i64 q.1.1)), .d (.sc (.int .i64 q.1.2)), .d (.sc (.int .i64 q.2.1)), .d (.sc (.int .i64 q.2.2))]
def sQ (qs:List Pc):D:= .sl 4 (qs.map rQ)
def sP (ps:List Pt):D:= .sl 2 (ps.map rP)
def vP (ls:List (List Pt)):List (List D):=ls.map fun l=> [sP l]
def sLn (ls:List (List Pt)):D:= .sl 1 (vP ls)
def eLn (l:List Pt):AV:= .d (sP l)
theorem getD_rQ (ps:List Pc) (i:Nat):(ps.map rQ).getD i [.sc (.int .i64 0), .sc (.int .i64 0), .sc (.int .i64 0), .sc (.int .i64 0)]=rQ (ps.getD i ((0,0),(0,0))):=by
 simp only [List.getD_eq_getElem?_getD,List.getElem?_map]
 cases ps[i]? <;>rfl
theorem rQ_eq (q:Pc):rQ q= [.sc (.int .i64 q.1.1), .sc (.int .i64 q.1.2), .sc (.int .i64 q.2.1), .sc (.int .i64 q.2.2)]:=rfl
theorem vP_length (ls:List (List Pt)):(vP ls).length=ls.length:=by simp [vP]
theorem vP_getD (ls:List (List Pt)) (i:Nat):(vP ls).getD i [.sl 2 []]= [sP (ls.getD i [])]:=by
 simp only [vP,List.getD_eq_getElem?_getD,List.getElem?_map]
 cases ls[i]? <;>rfl
attribute [go_sem] getD_rQ rQ_eq eQ sQ sP sLn eLn vP_length vP_getD
end Go.Ab
end
section
namespace Go.Ab
open Go.Proofs
attribute [local congr] ACall.congr gd.congr Nx.congr
set_option maxRecDepth 10000
structure Dr where
 pts:List Pt
 ls:List (List Pt)
def eDr (d:Dr):AV:= .agg [.d (sP d.pts), .d (sLn d.ls)]
def lkO (g:Gr) (d:Dr):AObj:= .rob [eN g.n, .d (sE g.es), .d (sP d.pts), .d (sLn d.ls)]
attribute [go_sem] eDr lkO
def TQ (l:List Pt) (k:Nat):List Pc:=(List.range k).map fun i=>(l.getD i (0,0),l.getD (i+1) (0,0))
def Rp (l:List Pt):List Pc:=TQ l (l.length - 1)
def robPt (p:Pt):List (Nat × AObj):= [(10000, .rob [eN p.1,eN p.2])]
attribute [go_sem] robPt
def TR (l:List Pt) (p:Pt):Bool:=(Rp l).any fun q=>TO q.1 q.2 p
def Rq (l:List Pt):Bool:= !(Rp l).any fun q=>decide (q.2.2≤q.1.2)
structure MK (g:Gr) (d:Dr):Prop where
 may:aL g=true
 np:(d.pts.length:Int)=g.n
 nl:d.ls.length=g.es.length
 mM:∀l∈d.ls,2≤l.length∧l.length≤8
theorem MK.line {g:Gr} {d:Dr} (h:MK g d) {i:Nat} (hi:i<g.es.length):2≤(d.ls.getD i []).length∧(d.ls.getD i []).length≤8:=h.mM _ (aU (by rw [h.nl];exact hi))
def TS (g:Gr) (d:Dr) (i:Nat):Bool:=decide ((d.ls.getD i []).getD 0 (0,0)=d.pts.getD (g.es.getD i (0,0)).1.toNat (0,0))&&decide ((d.ls.getD i []).getD ((d.ls.getD i []).length - 1) (0,0)=d.pts.getD (g.es.getD i (0,0)).2.toNat (0,0))
def TT (l:List Pt) (x:Pt):Int:=bP (fun y=>decide (x=y)) l
def Qb (d:Dr) (x:Nat):Bool:= !decide (d.pts.getD x (0,0)∈d.pts.take x)
def ML (g:Gr) (d:Dr) (i k:Nat):Bool:=(List.range k).all fun x=>decide ((x:Int)=(g.es.getD i (0,0)).1)||decide ((x:Int)=(g.es.getD i (0,0)).2)|| !TR (d.ls.getD i []) (d.pts.getD x (0,0))
def Rr (g:Gr) (d:Dr) (i:Nat):Bool:=ML g d i d.pts.length
end Go.Ab
end
section
namespace Go.Ab
open Go.Proofs
attribute [local congr] ACall.congr gd.congr Nx.congr
set_option maxRecDepth 20000
set_option maxHeartbeats 8000000
def Ci (xs ys:List Int) (v:Nat):Pt:=(xs.getD v 0,ys.getD v 0)
def zy (N:Int) (bs xs ys:List Int) (i:Nat):List Pt:=if (i:Int)∈bs then [Ci xs ys (N+(bs.idxOf (i:Int):Nat)).toNat] else []
def Gn (g:Gr) (N:Int) (bs xs ys:List Int) (i:Nat):List Pt:=Ci xs ys (tl g i).toNat::(zy N bs xs ys i++ [Ci xs ys (hd g i).toNat])
def o8 (xs ys:List Int) (k:Nat):List Pt:=(List.range k).map (Ci xs ys)
def qh (g:Gr) (N:Int) (bs xs ys:List Int) (k:Nat):List (List Pt):=(List.range k).map (Gn g N bs xs ys)
def Ib (g:Gr) (N:Int) (bs xs ys:List Int):Dr:=⟨o8 xs ys g.n.toNat,qh g N bs xs ys g.es.length⟩
theorem Gp {xs ys:List Int} {k:Nat} :o8 xs ys (k+1)=o8 xs ys k++ [Ci xs ys k]:=by simp [o8,List.range_succ]
theorem xD {xs ys:List Int} {k:Nat} :(o8 xs ys k).length=k:=by simp [o8]
theorem J8 {xs ys:List Int} {k v:Nat} (h:v<k):(o8 xs ys k).getD v (0,0)=Ci xs ys v:=by simp [o8,List.getD_eq_getElem?_getD,List.getElem?_range h]
theorem Gq {g:Gr} {N:Int} {bs xs ys:List Int} {k:Nat} :qh g N bs xs ys (k+1)=qh g N bs xs ys k++ [Gn g N bs xs ys k]:=by simp [qh,List.range_succ]
theorem Cj {g:Gr} {N:Int} {bs xs ys:List Int} {k:Nat} :(qh g N bs xs ys k).length=k:=by simp [qh]
def dz:Dr:=⟨[], []⟩
noncomputable def gG (g:Gr) (p:Pl) (rev:Bool):List Int:=ee (aI (ah g p) (cR (ah g p))) (AU (ah g p) (bH g p) (cR (ah g p))) rev ((ah g p).n+(cR (ah g p)).length).toNat
noncomputable def Ck (b:Bool) (g:Gr) (p:Pl):Dr × Int:=
 if (lK b g p).2.2≠0 then (dz,(lK b g p).2.2) else if 64<(ah g p).n+(cR (ah g p)).length∨128<(ah g p).es.length+(cR (ah g p)).length then (dz,10) else (Ib g (ah g p).n (cR (ah g p)) (gG g p false) (gG g p true),0)
theorem Gs {g:Gr} {p:Pl} (h:aX g p):p.ord.length≤64∧p.outs.length≤64∧∀l∈p.outs,l.length≤128:=by
 have hn:=aG (aj h.1)
 have h1:=aP h.2.1
 have h2:=h.2.1.1
 refine ⟨by omega,by omega,fun l hl=> ?_⟩
 obtain ⟨k,hk,rfl⟩:=List.mem_iff_getElem.1 hl
 have h3:=(h.2.1.2.2 k (by omega)).length_eq
 rw [List.getD_eq_getElem?_getD,List.getElem?_eq_getElem hk,Option.getD_some] at h3
 have h4:(cu g (k:Int)).length≤g.es.length:=jJ
 omega
theorem xE {g:Gr} {p:Pl} (h:aX g p):oR p:=by
 obtain ⟨h1,h2,h3⟩:=Gs h
 exact ⟨by omega,by omega,fun l hl=>by have:=h3 l hl;omega⟩
theorem o9 {g:Gr} {p:Pl} (h:aX g p):(true=true)↔(cg g).1=0∧bg g p:=⟨fun _=>⟨h.1,h.2.1⟩,fun _=>rfl⟩
structure Room (g:Gr) (p:Pl):Prop where
 ok:mN g p
 h1:(ah g p).n+(cR (ah g p)).length≤64
 h2:(ah g p).es.length+(cR (ah g p)).length≤128
theorem zA {g:Gr} {p:Pl} (h:Room g p):aX (aI (ah g p) (cR (ah g p))) (AU (ah g p) (bH g p) (cR (ah g p))):=HT (lM h.ok) qf (B7 (lM h.ok) qf) h.h1 h.h2
theorem Ic {g:Gr} {p:Pl} (h:Room g p):vu (aI (ah g p) (cR (ah g p)))=true:=J1 (lM h.ok) qf (B7 (lM h.ok) qf) h.h1 h.h2 (F4 h.ok)
theorem Gt {b:Bool} {g:Gr} {p:Pl} (hr:b=true↔(cg g).1=0∧bg g p) (h:(Ck b g p).2=0):Room g p∧Ck b g p=(Ib g (ah g p).n (cR (ah g p)) (gG g p false) (gG g p true),0):=by
 unfold Ck at h ⊢
 split at h
 ·rename_i hc;exact absurd h hc
 rename_i h0
 split at h
 ·cases h
 rename_i h1
 rw [if_neg h0,if_neg h1]
 have h0:(lK b g p).2.2=0:=by simpa using h0
 exact ⟨⟨(Cc hr h0).1,by omega,by omega⟩,rfl⟩
theorem Cl {g:Gr} {p:Pl} {rev:Bool} :(gG g p rev).length=((ah g p).n+(cR (ah g p)).length).toNat:=by unfold gG;exact mo
theorem zB {g:Gr} {bs:List Int} (hb:bs.Nodup) {i:Int} :bY (kZ g bs bs.length) [i]=if i∈bs then some (bs.idxOf i) else none:=by
 by_cases h:i∈bs
 ·rw [if_pos h]
  obtain ⟨h1,h2⟩:=kO h
  unfold bY
  rw [List.findIdx?_eq_some_iff_getElem]
  refine ⟨by simp [kZ,h1], ?_,fun j hj=> ?_⟩
  ·simp only [kZ,List.getElem_map,List.getElem_range,decide_eq_true_eq,h2]
  ·simp only [kZ,List.getElem_map,List.getElem_range,decide_eq_true_eq]
   intro e
   have e:i=bs.getD j 0:=by simpa using e
   have:=eo hb (i:=j) (by omega)
   rw [← e] at this
   omega
 ·rw [if_neg h]
  unfold bY
  rw [List.findIdx?_eq_none_iff]
  intro q hq
  obtain ⟨j,hj,rfl⟩:=lP.1 hq
  rw [decide_eq_false_iff_not]
  intro e
  have e:i=bs.getD j 0:=by simpa using e
  rw [e] at h
  exact h (aU hj)
theorem Ie {g:Gr} {bs:List Int} (hb:bs.Nodup) {i:Int} (h:i∈bs):ez (kZ g bs bs.length) [i]=g.n+(bs.idxOf i:Nat):=by
 unfold ez
 rw [zB hb,if_pos h]
 have:=(kO h).1
 simp [kZ,List.getElem?_range this]
end Go.Ab
end
section
namespace Go.Ab
open Go.Proofs
set_option maxRecDepth 10000
set_option linter.unusedSectionVars false
section
variable {g:Gr} {bs:List Int} (hm:aL g=true) (hb:xu g bs)
include hm hb
theorem Gu {i:Nat} (hi:i<g.es.length):tl (aI g bs) i=tl g i∧hd (aI g bs) i=if (i:Int)∈bs then uH g bs i else hd g i:=by
 have:=cF (g:=g) (bs:=bs) (e:=(i:Int)) (by omega) (by omega)
 exact this
theorem Gv {k:Nat} (hk:k<bs.length):tl (aI g bs) (g.es.length+k)=g.n+(k:Int)∧hd (aI g bs) (g.es.length+k)=hd g (bs.getD k 0).toNat:=by
 have:=gr (g:=g) (bs:=bs) hk
 exact this
end
theorem Cm {g:Gr} :xu g (cR g):=by
 unfold cR
 split
 ·refine ⟨?_,fun i hi=> ?_⟩
  ·unfold zT
   exact List.Pairwise.map _ (fun a b hab=>by omega) (List.nodup_range.filter _)
  ·simp only [zT,List.mem_map,List.mem_filter,List.mem_range] at hi
   obtain ⟨j,⟨h1,_⟩,rfl⟩:=hi
   omega
 ·exact ⟨List.nodup_nil,by simp⟩
end Go.Ab
end
section
namespace Go.Ab
open Go.Proofs
set_option maxRecDepth 10000
set_option linter.unusedSectionVars false
def ky (t:It):Bool × Int × Int:=(decide (0≤t.1),t.2)
structure Alike (G G':Gr) (P P':Pl):Prop where
 n:G'.n=G.n
 need:∀x,aY G' x=aY G x
 out:∀x,(cj P' x).map (dI G')=(cj P x).map (dI G)
 o1:∀x,∀e∈cj P x,0≤e
 o2:∀x,∀e∈cj P' x,0≤e
structure U9 (f f':Fr):Prop where
 row:f'.row.map ky=f.row.map ky
 pl:f'.pl=f.pl
section
variable {G G':Gr} {P P':Pl} (hA:Alike G G' P P')
include hA
end
section
variable {G G':Gr} {P P':Pl} (hA:Alike G G' P P') (hm:aL G=true) (hm':aL G'=true)
include hA hm hm'
end
section
variable {G G':Gr} {P P':Pl} (hA:Alike G G' P P') (h:aX G P) (h':aX G' P')
include hA h h'
end
end Go.Ab
end
section
namespace Go.Ab
open Go.Proofs
set_option maxRecDepth 10000
set_option linter.unusedSectionVars false
section
variable {g:Gr} {p:Pl} (h:mN g p)
include h
end
end Go.Ab
end
section
namespace Go.Ab
open Go.Proofs
set_option maxRecDepth 10000
set_option linter.unusedSectionVars false
def MM (l:List Int):Nat→List (List Int × Int)
 |0=> []
 |j+1=>pq (MM l j) [l.getD j 0] (ez (MM l j) [l.getD j 0]+1)
theorem Ig {ag:List (List Int × Int)} {k:List Int} {v:Int} (hn:(ag.map (·.1)).Nodup) (h:(k,v)∈ag):ez ag k=v:=by
 unfold ez
 cases hf:bY ag k with
 |none=>exact absurd rfl (j8 hf _ h)
 |some i=>
  obtain ⟨p,hp,e⟩:=iD hf
  obtain ⟨j,hj,e2⟩:=List.mem_iff_getElem.1 h
  have hi:=(List.getElem?_eq_some_iff.1 hp).1
  have:i=j:=by
   have h1:(ag.map (·.1))[i]'(by simpa using hi)=(ag.map (·.1))[j]'(by simpa using hj):=by
    rw [List.getElem_map,List.getElem_map,e2]
    have:=(List.getElem?_eq_some_iff.1 hp).2
    rw [this,e]
   exact (List.getElem_inj hn).1 h1
  subst this
  simp only [hp,Option.map_some,Option.getD_some]
  have h2:=(List.getElem?_eq_some_iff.1 hp).2
  rw [e2] at h2
  rw [← h2]
theorem vR {ag:List (List Int × Int)} {k:List Int} (h:∀p∈ag,p.1≠k):ez ag k=0:=by
 unfold ez
 cases hf:bY ag k with
 |none=>rfl
 |some i=>
  obtain ⟨p,hp,e⟩:=iD hf
  exact absurd e (h p (List.mem_of_getElem? hp))
theorem zC {ag:List (List Int × Int)} {i:Nat} {v:Int} {p:List Int × Int} (h:p∈j0 ag i v):p∈ag∨p.2=v:=by
 obtain ⟨j,hj,e⟩:=List.mem_iff_getElem.1 h
 have h1:(j0 ag i v)[j]? =some p:=by rw [List.getElem?_eq_getElem hj,e]
 rw [j0,List.getElem?_modify] at h1
 cases hq:ag[j]? with
 |none=>rw [hq] at h1;simp at h1
 |some q=>
  rw [hq] at h1
  by_cases hij:i=j
  ·simp [hij] at h1;right;rw [← h1]
  ·simp [hij] at h1;left;rw [← h1];exact List.mem_of_getElem? hq
structure zD (ag:List (List Int × Int)) (j:Nat) (S:Int→Prop):Prop where
 nd:(ag.map (·.1)).Nodup
 mem:∀k,k∈ag.map (·.1)↔∃x,S x∧k= [x]
 mM:∀p∈ag,1≤p.2∧p.2≤j
theorem zD.val {ag:List (List Int × Int)} {j:Nat} {S:Int→Prop} (h:zD ag j S) (x:Int):0≤ez ag [x]∧ez ag [x]≤j∧(S x→1≤ez ag [x]):=by
 by_cases hx:S x
 ·have:=(h.mem [x]).2 ⟨x,hx,rfl⟩
  obtain ⟨p,hp,e⟩:=List.mem_map.1 this
  have hr:=h.mM p hp
  have hv:ez ag [x]=p.2:=Ig h.nd (by rw [← e];exact hp)
  rw [hv]
  exact ⟨by omega,hr.2,fun _=>hr.1⟩
 ·have:ez ag [x]=0:=vR fun p hp e=>by
   obtain ⟨y,hy,e2⟩:=(h.mem p.1).1 (List.mem_map.2 ⟨p,hp,rfl⟩)
   rw [e] at e2
   have:x=y:=by injection e2
   subst this;exact hx hy
  rw [this]
  exact ⟨by omega,by omega,fun h=>absurd h hx⟩
theorem zD.step {ag:List (List Int × Int)} {j:Nat} {S:Int→Prop} (h:zD ag j S) (x:Int):zD (pq ag [x] (ez ag [x]+1)) (j+1) (fun y=>S y∨y=x):=by
 obtain ⟨v1,v2,v3⟩:=h.val x
 unfold pq dU iA
 cases hf:bY ag [x] with
 |some i=>
  simp only
  obtain ⟨p,hp,e⟩:=iD hf
  have hx:S x:=by
   obtain ⟨y,hy,e2⟩:=(h.mem p.1).1 (List.mem_map.2 ⟨p,List.mem_of_getElem? hp,rfl⟩)
   rw [e] at e2
   have:x=y:=by injection e2
   subst this;exact hy
  refine ⟨by rw [mB];exact h.nd,fun k=> ?_,fun q hq=> ?_⟩
  ·rw [mB,h.mem]
   constructor
   ·rintro ⟨y,hy,e⟩;exact ⟨y, .inl hy,e⟩
   ·rintro ⟨y,hy|hy,e⟩
    ·exact ⟨y,hy,e⟩
    ·subst hy;exact ⟨y,hx, ‹k= [y]›⟩
  ·rcases zC hq with h1|h1
   ·have:=h.mM q h1;omega
   ·omega
 |none=>
  simp only
  have hnk:([x]:List Int)∉ag.map (·.1):=fun hm=>by
   obtain ⟨p,hp,e⟩:=List.mem_map.1 hm
   exact j8 hf p hp e
  refine ⟨?_,fun k=> ?_,fun q hq=> ?_⟩
  ·rw [mB,List.map_append,List.nodup_append]
   exact ⟨h.nd,by simp,fun a ha b hb e=>by
    simp only [List.map_cons,List.map_nil,List.mem_singleton] at hb
    subst hb;subst e;exact hnk ha⟩
  ·rw [mB,List.map_append,List.mem_append,h.mem]
   simp only [List.map_cons,List.map_nil,List.mem_singleton]
   constructor
   ·rintro (⟨y,hy,e⟩|e)
    ·exact ⟨y, .inl hy,e⟩
    ·exact ⟨x, .inr rfl,e⟩
   ·rintro ⟨y,hy|rfl,e⟩
    ·exact .inl ⟨y,hy,e⟩
    ·exact .inr e
  ·rcases zC hq with h1|h1
   ·rw [List.mem_append,List.mem_singleton] at h1
    rcases h1 with h1|rfl
    ·have:=h.mM q h1;omega
    ·
     exfalso
     obtain ⟨i,hi,e⟩:=List.mem_iff_getElem.1 hq
     have h2:(j0 (ag++ [([x],0)]) ag.length (ez ag [x]+1))[i]? =some ([x],0):=by rw [List.getElem?_eq_getElem hi,e]
     rw [j0,List.getElem?_modify] at h2
     by_cases hie:ag.length=i
     ·subst hie;simp at h2;omega
     ·simp only [hie,if_false] at h2
      rcases Nat.lt_or_ge i ag.length with h3|h3
      ·rw [List.getElem?_append_left h3] at h2
       have h4:(([x],0):List Int × Int)∈ag:=by
        simp at h2;exact List.mem_of_getElem? h2
       exact hnk (List.mem_map.2 ⟨_,h4,rfl⟩)
      ·rw [List.getElem?_eq_none (by simp;omega)] at h2;simp at h2
   ·omega
end Go.Ab
end
section
namespace Go.Ab
open Go.Proofs
set_option maxRecDepth 10000
set_option linter.unusedSectionVars false
structure Ih (G:Gr) (R:List Int):Prop where
 mM:∀u:Nat,u<G.n.toNat→0≤R.getD u 0∧R.getD u 0<G.n
 inj:∀u v:Nat,u<G.n.toNat→v<G.n.toNat→R.getD u 0=R.getD v 0→u=v
 up:∀i:Nat,i<G.es.length→R.getD (tl G i).toNat 0<R.getD (hd G i).toNat 0
theorem MN {G:Gr} {Q:Pl} (h:aX G Q) (rev:Bool):Ih G (ee G Q rev G.n.toNat):=by
 have hW:=vo h rev
 have uG:=hW.2.1
 have hm:=aj h.1
 have hn:=aG hm
 have hl:(iN G Q rev).length=G.n.toNat:=aP uG
 have bV:(iN G Q rev).Nodup:=cn uG
 have mE:=fun j (hj:j<G.n.toNat)=>BS h rev (Nat.le_refl _) j hj
 have hall:∀u:Nat,u<G.n.toNat→∃k,k<G.n.toNat∧(iN G Q rev).getD k 0=(u:Int):=fun u hu=>fI uG (by omega) (by omega)
 have pI:∀u:Nat,u<G.n.toNat→∃k:Nat,k<G.n.toNat∧(iN G Q rev).getD k 0=(u:Int)∧(ee G Q rev G.n.toNat).getD u 0=k:=fun u hu=>by
  obtain ⟨k,hk,e⟩:=hall u hu
  have:=mE k hk
  rw [e,Int.toNat_natCast] at this
  exact ⟨k,hk,e,this⟩
 refine ⟨fun u hu=> ?_,fun u v hu hv e=> ?_,fun i hi=> ?_⟩
 ·obtain ⟨k,hk,_,e⟩:=pI u hu
  rw [e];omega
 ·obtain ⟨k,hk,e1,e2⟩:=pI u hu
  obtain ⟨k',hk',TU,TV⟩:=pI v hv
  rw [e2,TV] at e
  have:k=k':=by omega
  subst this
  rw [e1] at TU
  omega
 ·have ht:=bn hm hi
  have hh:=bw hm hi
  have hf:=um hW (e:=(i:Int)) (by omega) (by omega)
  have e1:dW G (i:Int)=tl G i:=rfl
  have e2:dI G (i:Int)=hd G i:=rfl
  rw [e1,e2] at hf
  obtain ⟨k,hk,k1,k2⟩:=pI (tl G i).toNat (by omega)
  obtain ⟨k',hk',NM,NN⟩:=pI (hd G i).toNat (by omega)
  rw [k2,NN]
  have i1:(iN G Q rev).idxOf (tl G i)=k:=by
   have:=eo bV (i:=k) (by omega)
   rw [k1] at this
   rw [show ((tl G i).toNat:Int)=tl G i by omega] at this
   exact this
  have i2:(iN G Q rev).idxOf (hd G i)=k':=by
   have:=eo bV (i:=k') (by omega)
   rw [NM] at this
   rw [show ((hd G i).toNat:Int)=hd G i by omega] at this
   exact this
  have hf':(iN G Q rev).idxOf (tl G i)<(iN G Q rev).idxOf (hd G i):=hf
  omega
noncomputable def bv (g:Gr) (p:Pl) (i:Nat):Nat:=((ah g p).n+((cR (ah g p)).idxOf (i:Int):Nat)).toNat
noncomputable def bL (g:Gr) (p:Pl):Nat→List Nat
 |0=> []
 |k+1=>bL g p k++if (k:Int)∈cR (ah g p) then [bv g p k] else []
def gU (R:List Int) (vs:List Nat):List (List Int × Int):=vs.map fun v=>([R.getD v 0],1)
theorem Gw {R:List Int} {a b:List Nat} :gU R (a++b)=gU R a++gU R b:=by simp [gU]
theorem rL {R:List Int} {vs:List Nat} {v:Nat} (h:∀u∈vs,R.getD u 0≠R.getD v 0):ez (gU R vs) [R.getD v 0]=0∧pq (gU R vs) [R.getD v 0] 1=gU R (vs++ [v]):=by
 have hk:∀p∈gU R vs,p.1≠ [R.getD v 0]:=fun p hp e=>by
  obtain ⟨u,hu,rfl⟩:=List.mem_map.1 hp
  exact h u hu (by simpa using e)
 exact ⟨vR hk,by rw [zu (fun p hp e=>hk p hp e.symm),Gw];rfl⟩
section
variable {g:Gr} {p:Pl} (h:Room g p)
include h
theorem xF (rev:Bool):Ih (aI (ah g p) (cR (ah g p))) (gG g p rev):=by
 have h1:=MN (zA h) rev
 have e:(aI (ah g p) (cR (ah g p))).n.toNat=((ah g p).n+(cR (ah g p)).length).toNat:=rfl
 rw [e] at h1
 exact h1
theorem Ba:g.n.toNat≤(ah g p).n.toNat∧(ah g p).n.toNat+(cR (ah g p)).length=(aI (ah g p) (cR (ah g p))).n.toNat∧(aI (ah g p) (cR (ah g p))).n≤64:=by
 have hn:=aG (aj h.ok.run.1)
 have:=ef (g:=g) (p:=p)
 have e:(aI (ah g p) (cR (ah g p))).n=(ah g p).n+(cR (ah g p)).length:=rfl
 have:=h.h1
 omega
theorem MO {k:Nat} :(∀v∈bL g p k,(ah g p).n.toNat≤v∧v<(aI (ah g p) (cR (ah g p))).n.toNat∧∃i,i<k∧(i:Int)∈cR (ah g p)∧v=bv g p i):=by
 obtain ⟨n1,n2,n3⟩:=Ba h
 have hn:=aG (aj h.ok.run.1)
 have hN:=ef (g:=g) (p:=p)
 induction k with
 |zero=>intro v hv;cases hv
 |succ k ih=>
  intro v hv
  rw [bL,List.mem_append] at hv
  rcases hv with hv|hv
  ·obtain ⟨h1,h2,i,h3,h4⟩:=ih v hv
   exact ⟨h1,h2,i,by omega,h4⟩
  ·split at hv
   ·rename_i hk
    rw [List.mem_singleton] at hv
    subst hv
    have Nj:=(kO hk).1
    refine ⟨?_, ?_,k,by omega,hk,rfl⟩
    ·unfold bv;omega
    ·unfold bv;omega
   ·cases hv
theorem J9 {i j:Nat} (hi:(i:Int)∈cR (ah g p)) (hj:(j:Int)∈cR (ah g p)) (e:bv g p i=bv g p j):i=j:=by
 have hn:=aG (aj h.ok.run.1)
 have hN:=ef (g:=g) (p:=p)
 unfold bv at e
 have h1:=(kO hi).2
 have h2:=(kO hj).2
 have:(cR (ah g p)).idxOf (i:Int)=(cR (ah g p)).idxOf (j:Int):=by omega
 rw [this,h2] at h1
 omega
theorem Cn {i:Nat} (hi:i<g.es.length) (rev:Bool):(tl g i).toNat<g.n.toNat∧(hd g i).toNat<g.n.toNat∧
 ((i:Int)∈cR (ah g p)→bv g p i<(aI (ah g p) (cR (ah g p))).n.toNat∧(ah g p).n.toNat≤bv g p i∧(gG g p rev).getD (tl g i).toNat 0<(gG g p rev).getD (bv g p i) 0∧(gG g p rev).getD (bv g p i) 0<(gG g p rev).getD (hd g i).toNat 0)∧
 ((i:Int)∉cR (ah g p)→(gG g p rev).getD (tl g i).toNat 0<(gG g p rev).getD (hd g i).toNat 0):=by
 obtain ⟨n1,n2,n3⟩:=Ba h
 have hm:=aj h.ok.run.1
 have hn:=aG hm
 have hN:=ef (g:=g) (p:=p)
 have ht:=bn hm hi
 have hh:=bw hm hi
 have TW:i<(ah g p).es.length:=by
  show i<(g.es++aZ g p).length
  rw [List.length_append];omega
 have et:tl (ah g p) i=tl g i:=by unfold tl;rw [nv i hi]
 have eh:hd (ah g p) i=hd g i:=by unfold hd;rw [nv i hi]
 obtain ⟨r1,r2⟩:=Gu (g:=ah g p) (bs:=cR (ah g p)) (oV h.ok) Cm TW
 rw [et] at r1
 rw [eh] at r2
 have hk:=xF h rev
 have hu:=hk.up i (by rw [ew];omega)
 rw [r1,r2] at hu
 refine ⟨by omega,by omega,fun hmem=> ?_,fun hmem=> ?_⟩
 ·rw [if_pos hmem] at hu
  obtain ⟨q1,q2⟩:=kO hmem
  obtain ⟨s1,s2⟩:=Gv (g:=ah g p) (bs:=cR (ah g p)) (oV h.ok) Cm q1
  have MP:=hk.up ((ah g p).es.length+(cR (ah g p)).idxOf (i:Int)) (by rw [ew];omega)
  rw [s1,s2,q2,Int.toNat_natCast,eh] at MP
  have e1:uH (ah g p) (cR (ah g p)) (i:Int)=(ah g p).n+((cR (ah g p)).idxOf (i:Int):Nat):=rfl
  rw [e1] at hu
  exact ⟨by unfold bv;omega,by unfold bv;omega,hu,MP⟩
 ·rw [if_neg hmem] at hu
  exact hu
end
end Go.Ab
end
section
namespace Go.Ab
open Go.Proofs
attribute [local congr] ACall.congr gd.congr Nx.congr
set_option maxRecDepth 20000
set_option maxHeartbeats 8000000
theorem Ii (xs ys:List Int) (v:Nat) (h1:v<xs.length) (h2:v<ys.length) (hx:xs.length≤1000) (hy:ys.length≤1000):Spec Tryz.prog 60 (Args [eN v, .ptr 10001 0, .ptr 10002 0]) [(10001, .rob [.d (sI xs)]),(10002, .rob [.d (sI ys)])] (.agg [eN (xs.getD v 0),eN (ys.getD v 0)]) [(10001, .rob [.d (sI xs)]),(10002, .rob [.d (sI ys)])]:=by
 (refine Spec.hd (C:=T.cfg [] []) (rs:= [.c 4 54]) (T.ai _ _) Tryz.func60 rfl rfl Tryz.ntmps60 Tryz.results60 (by simp [AObj.isNest]) (by simp [AObj.isNest]) (by kernel_rfl) T.mixed fun X hX hP hC aQ cy=> ?_)
 repeat' (first|refine Rn.p ?_|(with_reducible apply And.intro)|((first|(refine hK _ ?_;clear hK K)|with_reducible intro K hK|refine Rs.p ?_|((with_reducible first|apply oP|apply oQ);exact rfl));try simp only [go_sem,simprocAttr])|((with_reducible refine oD ?_ ?_);kernel_rfl)|((with_reducible intro h);try simp only [go_sem,simprocAttr] at h)|omega|intro h)
end Go.Ab
end
section
namespace Go.Ab
open Go.Proofs
attribute [local congr] ACall.congr gd.congr Nx.congr
set_option maxRecDepth 20000
set_option maxHeartbeats 16000000
theorem vS (g:Gr) (hl:g.es.length≤1000) (p:Pl) (hp:oR p) (hp1:p.ord.length≤1000) (hp2:p.outs.length≤1000) (PL:∀l∈p.outs,l.length≤1000) (b:Bool) (hr:b=true↔(cg g).1=0∧bg g p):
 Spec Tryz.prog 20 (Args [eG g,ePl p]) [] (.tup [eDr (Ck b g p).1,eN (Ck b g p).2]) []:=by
 have Ny:=xj g hl p hp hp1 hp2 PL b hr
 by_cases h0:(lK b g p).2.2=0
 rotate_left
 ·have MQ:Ck b g p=(dz,(lK b g p).2.2):=if_pos h0
  have hb0:decide ((lK b g p).2.2=0)=false:=decide_eq_false h0
  rw [MQ]
  (refine Spec.hd (C:=T.cfg [] []) (rs:= [.c 4 50, .t 5]) (T.ai _ _) Tryz.func20 rfl rfl Tryz.ntmps20 Tryz.results20 (by simp [AObj.isNest]) (by simp [AObj.isNest]) (by kernel_rfl) T.mixed fun X hX hP hC aQ cy=> ?_)
  repeat' (first|refine Rn.p ?_|(with_reducible apply And.intro)|((first|(refine hK _ ?_;clear hK K)|with_reducible intro K hK|refine Rs.p ?_|((with_reducible first|apply oP|apply oQ);exact rfl)|refine aa hX hC hP (Ny) rfl rfl rfl (by simp only [go_sem,simprocAttr,hb0,dz]) rfl ?_);try simp only [go_sem,simprocAttr,hb0,dz])|((with_reducible refine oD ?_ ?_);kernel_rfl)|((with_reducible intro h);try simp only [go_sem,simprocAttr,hb0,dz] at h)|omega|intro h)
  all_goals rfl
 obtain ⟨hO,hE⟩:=Cc hr h0
 rw [hE] at Ny
 have KA:=lM hO
 have Rt:=F4 hO
 have TX:(cq true (ah g p) (bH g p)).2.1=0:=by rw [nF (o9 KA) KA]
 by_cases h1:64<(ah g p).n+(cR (ah g p)).length∨128<(ah g p).es.length+(cR (ah g p)).length
 ·have MQ:Ck b g p=(dz,10):=by unfold Ck;rw [if_neg (by rw [h0];simp),if_pos h1]
  have hN:=A6 (ah g p) (by have:=hO.es;omega) (bH g p) (xE KA) true (o9 KA) TX Rt h1
  rw [MQ]
  (refine Spec.hd (C:=T.cfg [] []) (rs:= [.c 4 50, .t 5]) (T.ai _ _) Tryz.func20 rfl rfl Tryz.ntmps20 Tryz.results20 (by simp [AObj.isNest]) (by simp [AObj.isNest]) (by kernel_rfl) T.mixed fun X hX hP hC aQ cy=> ?_)
  repeat' (first|refine Rn.p ?_|(with_reducible apply And.intro)|((first|(refine hK _ ?_;clear hK K)|with_reducible intro K hK|refine Rs.p ?_|((with_reducible first|apply oP|apply oQ);exact rfl)|refine aa hX hC hP (Ny) rfl rfl rfl (by simp only [go_sem,simprocAttr,dz]) rfl ?_|refine aa hX hC hP (hN) rfl rfl rfl (by simp only [go_sem,simprocAttr,dz]) rfl ?_);try simp only [go_sem,simprocAttr,dz])|((with_reducible refine oD ?_ ?_);kernel_rfl)|((with_reducible intro h);try simp only [go_sem,simprocAttr,dz] at h)|omega|intro h)
  all_goals rfl
 have MQ:Ck b g p=(Ib g (ah g p).n (cR (ah g p)) (gG g p false) (gG g p true),0):=by unfold Ck;rw [if_neg (by rw [h0];simp),if_neg h1]
 have Gx:Room g p:=⟨hO,by omega,by omega⟩
 rw [MQ]
 have hN:=DH (ah g p) (by have:=hO.es;omega) (bH g p) (xE KA) KA Rt (cR (ah g p)) rfl (by omega) (by omega)
 have Nz:=zA Gx
 have hk:=A5 (aI (ah g p) (cR (ah g p))) (by rw [ew];omega) (AU (ah g p) (bH g p) (cR (ah g p))) (xE Nz) true (o9 Nz)
 have pI:J5 true (aI (ah g p) (cR (ah g p))) (AU (ah g p) (bH g p) (cR (ah g p)))=(gG g p false,gG g p true,0):=if_pos ⟨by rw [nF (o9 Nz) Nz],Ic Gx⟩
 rw [pI] at hk
 simp only at hk
 have hm:=aj hO.run.1
 have hn:=aG hm
 have JV:=ef (g:=g) (p:=p)
 have lx:(gG g p false).length=((ah g p).n+(cR (ah g p)).length).toNat:=Cl
 have ly:(gG g p true).length=((ah g p).n+(cR (ah g p)).length).toNat:=Cl
 have Az:=qf (g:=ah g p)
 have hfind:=fun i=>zB (g:=ah g p) Az.nd (i:=i)
 have hval:=fun i hi=>Ie (g:=ah g p) Az.nd (i:=i) hi
 have Nj:∀i∈cR (ah g p),(cR (ah g p)).idxOf i<(cR (ah g p)).length:=fun i hi=>(kO hi).1
 generalize gG g p false=xs at*
 generalize gG g p true=ys at*
 generalize cR (ah g p)=bs at*
 have dR:aI (ah g p) bs=⟨(ah g p).n+bs.length,iX (ah g p) bs⟩:=rfl
 have M7:AU (ah g p) (bH g p) bs=⟨dP (ah g p) bs bs.length (bH g p).ord,(bH g p).outs++iY (ah g p) bs.length⟩:=rfl
 rw [dR,M7] at hk
 have Va:(ah g p).n≤64:=hO.n
 generalize kZ (ah g p) bs bs.length=ag at*
 generalize iX (ah g p) bs=E at*
 generalize dP (ah g p) bs bs.length (bH g p).ord=RO at*
 generalize (bH g p).outs++iY (ah g p) bs.length=RL at*
 generalize bH g p=AP at*
 obtain ⟨AN,zE⟩:∃AN:Nat,(ah g p).n=AN:=⟨(ah g p).n.toNat,by omega⟩
 generalize Vb:ah g p=A at*
 have mE:∀v:Nat,v<AN+bs.length→Spec Tryz.prog 60 (Args [eN v, .ptr 10001 0, .ptr 10002 0]) [(10001, .rob [.d (sI xs)]),(10002, .rob [.d (sI ys)])] (.agg [eN (xs.getD v 0),eN (ys.getD v 0)]) [(10001, .rob [.d (sI xs)]),(10002, .rob [.d (sI ys)])]:=fun v hv=>Ii xs ys v (by omega) (by omega) (by omega) (by omega)
 (refine Spec.hd (C:=T.cfg [] []) (rs:= [.c 4 50, .t 5]) (T.ai _ _) Tryz.func20 rfl rfl Tryz.ntmps20 Tryz.results20 (by simp [AObj.isNest]) (by simp [AObj.isNest]) (by kernel_rfl) T.mixed fun X hX hP hC aQ cy=> ?_)
 repeat' (first|(show cr _ (.seq (.region 7 _ _) _) _ _;(refine qV hX 301 rfl (.inl rfl) ?_;simp only [go_sem,simprocAttr,iZ,zE]);(refine qV hX 302 rfl (.inl rfl) ?_;simp only [go_sem,simprocAttr,iZ,zE]);(refine qV hX 303 rfl (.inl rfl) ?_;simp only [go_sem,simprocAttr,iZ,zE]))|(show cr _ (.seq (.region 10 _ _) _) _ _;(refine jz hX 14 0 401 (.tip 54 2 []) rfl rfl rfl (by simp only [go_sem,simprocAttr,iZ,zE]) (by decide) (by simp [go_sem,simprocAttr,iZ,zE]) ⟨54,2,by decide, .inr rfl⟩ ?_;simp only [List.set_cons_zero,List.set_cons_succ,go_sem,simprocAttr,iZ,zE]);(refine jz hX 14 1 402 (.tip 47 1 []) rfl rfl rfl (by simp only [go_sem,simprocAttr,iZ,zE]) (by decide) (by simp [go_sem,simprocAttr,iZ,zE]) ⟨47,1,by decide, .inr rfl⟩ ?_;simp only [List.set_cons_zero,List.set_cons_succ,go_sem,simprocAttr,iZ,zE]))|refine Rn.p ?_|(with_reducible apply And.intro)|((first|(refine hK _ ?_;clear hK K)|with_reducible intro K hK|refine Rs.p ?_|((with_reducible first|apply oP|apply oQ);exact rfl)|refine aa hX hC hP (Ny) rfl rfl rfl (by simp only [go_sem,simprocAttr,iZ,zE]) rfl ?_|(refine an hX hC hP [(10000,300),(10001,301),(10002,302),(10003,303),(10004,304)] (hN) rfl rfl rfl ?_ ?_ ?_ ?_ ?_ ?_ ?_ ?_ ?_ ?_ ?_ ?_ ?_ ?_;(focus (simp only [go_sem,simprocAttr,iZ,zE];done));(iterate 12 (focus (simp [go_sem,simprocAttr,iZ,zE];done)));try simp only [List.map_cons,List.map_nil])|(refine cD hX hC hP (hk) rfl rfl rfl ?_ ?_ rfl ?_;iterate 2 (focus (simp only [go_sem,simprocAttr,iZ,zE];done))));try simp only [go_sem,simprocAttr,iZ,zE])|((with_reducible refine oD ?_ ?_);kernel_rfl)|((with_reducible intro h);try simp only [go_sem,simprocAttr,iZ,zE] at h)|omega|intro h)
 refine ak (fun k:Nat=>k≤g.n.toNat) (fun k=>⟨[(2, .ptr 2 0),(4, .ptr 4 0),(5,eN 0),(9, .ptr 300 0),(13, .fn 60 [] [.ptr 10 0, .ptr 11 0]),(14, .ptr 14 0),(58,eN g.n),(59,eN k)], [(2, .box [eN g.n, .d (sE g.es)]),(4, .box [.nil 54, .nil 47]),(10, .box [.d (sI xs)]),(11, .box [.d (sI ys)]),(14, .box [.ref 401, .ref 402]),(300, .box [eN ((AN:Int)+(bs.length:Int)), .d (sE E), .d (sI RO), .d (.sl 1 (vI RL)), .mref 304]),(304, .mp 0 ag),(401, .tip 54 2 ((o8 xs ys k).map rP)),(402, .tip 47 1 [])]⟩) (fun k=>g.n.toNat - k) 0 (by omega) ?_ ?_
 ·refine Le.of ?_ ?_<;>simp [go_sem,simprocAttr,o8,zE]
 rintro k hk
 rcases Nat.lt_or_ge k g.n.toNat with hlt|hge
 ·have hb:decide ((k:Int)<g.n)=true:=decide_eq_true (by omega)
  have hc:=mE k (by omega)
  have dS:=Gp (xs:=xs) (ys:=ys) (k:=k)
  have cx:=xD (xs:=xs) (ys:=ys) (k:=k)
  generalize TY:o8 xs ys (k+1)=P2 at dS
  generalize o8 xs ys k=P1 at dS cx
  repeat' (first|(show cr _ (.region 14 _ _) _ _;(refine dy hX 14 0 68 401 rfl rfl rfl (by first|exact .inl rfl|exact .inr rfl) (by decide) (by decide) ?_;simp only [List.set_cons_zero,List.set_cons_succ,go_sem,simprocAttr,hb,cx]))|refine Rn.p ?_|(with_reducible apply And.intro)|((first|(refine hK _ ?_;clear hK K)|with_reducible intro K hK|refine Rs.p ?_|((with_reducible first|apply oP|apply oQ);exact rfl)|(refine bu hX hC hP [(10001,10),(10002,11)] (hc) rfl rfl rfl ?_ ?_ ?_ ?_ ?_ ?_ rfl rfl ?_ ?_;(focus (simp only [go_sem,simprocAttr,hb,cx];done));(iterate 6 (focus (simp [go_sem,simprocAttr,hb,cx];done)));try simp only [List.map_cons,List.map_nil]));try simp only [go_sem,simprocAttr,hb,cx])|((with_reducible refine oD ?_ ?_);kernel_rfl)|((with_reducible intro h);try simp only [go_sem,simprocAttr,hb,cx] at h)|omega|intro h)
  refine ⟨k+1,by omega, ?_,by omega⟩
  rw [TY,dS]
  refine Le.of ?_ ?_<;>simp [go_sem,simprocAttr,hb,cx,Ci,rP]
 have hb:decide ((k:Int)<g.n)=false:=decide_eq_false (by omega)
 obtain rfl:k=g.n.toNat:=by omega
 repeat' (first|refine Rn.p ?_|(with_reducible apply And.intro)|((first|(refine hK _ ?_;clear hK K)|with_reducible intro K hK|refine Rs.p ?_|((with_reducible first|apply oP|apply oQ);exact rfl));try simp only [go_sem,simprocAttr,hb])|((with_reducible refine oD ?_ ?_);kernel_rfl)|((with_reducible intro h);try simp only [go_sem,simprocAttr,hb] at h)|omega|intro h)
 have TZ:Ib g (AN:Int) bs xs ys=⟨o8 xs ys g.n.toNat,qh g (AN:Int) bs xs ys g.es.length⟩:=rfl
 have cx:=xD (xs:=xs) (ys:=ys) (k:=g.n.toNat)
 rw [TZ]
 generalize o8 xs ys g.n.toNat=PT at cx
 refine ak (fun i:Nat=>i≤g.es.length) (fun i=>⟨[(2, .ptr 2 0),(4, .ptr 4 0),(5,eN 0),(9, .ptr 300 0),(13, .fn 60 [] [.ptr 10 0, .ptr 11 0]),(14, .ptr 14 0),(72, .d (sE g.es)),(73,eN g.es.length),(74,eN i)], [(2, .box [eN g.n, .d (sE g.es)]),(4, .box [.nil 54, .nil 47]),(10, .box [.d (sI xs)]),(11, .box [.d (sI ys)]),(14, .box [.ref 401, .ref 402]),(300, .box [eN ((AN:Int)+(bs.length:Int)), .d (sE E), .d (sI RO), .d (.sl 1 (vI RL)), .mref 304]),(304, .mp 0 ag),(401, .tip 54 2 (PT.map rP)),(402, .tip 47 1 (vP (qh g (AN:Int) bs xs ys i)))]⟩) (fun i=>g.es.length - i) 0 (by omega) ?_ ?_
 ·refine Le.of ?_ ?_<;>simp [go_sem,simprocAttr,qh,vP]
 rintro i hi
 rcases Nat.lt_or_ge i g.es.length with hil|Ru
 ·have hb:decide ((i:Int)<(g.es.length:Int))=true:=decide_eq_true (by omega)
  have t1:=bn hm hil
  have t2:=bw hm hil
  obtain ⟨u,hu⟩:∃u:Nat,(g.es.getD i (0,0)).1=u:=⟨(g.es.getD i (0,0)).1.toNat,by have:=t1.1;unfold tl at this;omega⟩
  obtain ⟨w,hw⟩:∃w:Nat,(g.es.getD i (0,0)).2=w:=⟨(g.es.getD i (0,0)).2.toNat,by have:=t2.1;unfold hd at this;omega⟩
  have MP:tl g i=u:=hu
  have Rv:hd g i=w:=hw
  have hc1:=mE u (by omega)
  have BH:=mE w (by omega)
  have dS:=Gq (g:=g) (N:=(AN:Int)) (bs:=bs) (xs:=xs) (ys:=ys) (k:=i)
  have gy:=Cj (g:=g) (N:=(AN:Int)) (bs:=bs) (xs:=xs) (ys:=ys) (k:=i)
  have Rw:∀l1 l2,vP (l1++ [l2])=vP l1++ [[sP l2]]:=fun l1 l2=>by simp [vP]
  have uR:=hfind (i:Int)
  generalize Rx:qh g (AN:Int) bs xs ys (i+1)=L2 at dS
  generalize qh g (AN:Int) bs xs ys i=L1 at dS gy
  by_cases hin:(i:Int)∈bs
  ·rw [if_pos hin] at uR
   have DI:=hval (i:Int) hin
   have hq:=Nj (i:Int) hin
   have Fq:Gn g (AN:Int) bs xs ys i= [Ci xs ys u,Ci xs ys (AN+bs.idxOf (i:Int)),Ci xs ys w]:=by
    unfold Gn zy
    rw [if_pos hin,MP,Rv,Int.toNat_natCast,Int.toNat_natCast,show ((AN:Int)+(bs.idxOf (i:Int):Nat)).toNat=AN+bs.idxOf (i:Int) by omega]
    rfl
   generalize bs.idxOf (i:Int)=q at uR DI hq Fq
   rw [zE,show (AN:Int)+(q:Int)=((AN+q:Nat):Int) by omega] at DI
   have HA:=mE (AN+q) (by omega)
   generalize AN+q=qq at DI Fq HA
   repeat' (first|(show cr _ (.region 23 _ _) _ _;(refine dy hX 14 1 110 402 rfl rfl rfl (by first|exact .inl rfl|exact .inr rfl) (by decide) (by decide) ?_;simp only [List.set_cons_zero,List.set_cons_succ,go_sem,simprocAttr,hb,hu,hw,uR,DI,vP_length,gy,Option.isSome_some]))|refine Rn.p ?_|(with_reducible apply And.intro)|((first|(refine hK _ ?_;clear hK K)|with_reducible intro K hK|refine Rs.p ?_|((with_reducible first|apply oP|apply oQ);exact rfl)|(refine bu hX hC hP [(10001,10),(10002,11)] (hc1) rfl rfl rfl ?_ ?_ ?_ ?_ ?_ ?_ rfl rfl ?_ ?_;(focus (simp only [go_sem,simprocAttr,hb,hu,hw,uR,DI,vP_length,gy,Option.isSome_some];done));(iterate 6 (focus (simp [go_sem,simprocAttr,hb,hu,hw,uR,DI,vP_length,gy,Option.isSome_some];done)));try simp only [List.map_cons,List.map_nil])|(refine bu hX hC hP [(10001,10),(10002,11)] (BH) rfl rfl rfl ?_ ?_ ?_ ?_ ?_ ?_ rfl rfl ?_ ?_;(focus (simp only [go_sem,simprocAttr,hb,hu,hw,uR,DI,vP_length,gy,Option.isSome_some];done));(iterate 6 (focus (simp [go_sem,simprocAttr,hb,hu,hw,uR,DI,vP_length,gy,Option.isSome_some];done)));try simp only [List.map_cons,List.map_nil])|(refine bu hX hC hP [(10001,10),(10002,11)] (HA) rfl rfl rfl ?_ ?_ ?_ ?_ ?_ ?_ rfl rfl ?_ ?_;(focus (simp only [go_sem,simprocAttr,hb,hu,hw,uR,DI,vP_length,gy,Option.isSome_some];done));(iterate 6 (focus (simp [go_sem,simprocAttr,hb,hu,hw,uR,DI,vP_length,gy,Option.isSome_some];done)));try simp only [List.map_cons,List.map_nil]));try simp only [go_sem,simprocAttr,hb,hu,hw,uR,DI,vP_length,gy,Option.isSome_some])|((with_reducible refine oD ?_ ?_);kernel_rfl)|((with_reducible intro h);try simp only [go_sem,simprocAttr,hb,hu,hw,uR,DI,vP_length,gy,Option.isSome_some] at h)|omega|intro h)
   refine ⟨i+1,by omega, ?_,by omega⟩
   rw [Rx,dS,Fq,Rw]
   refine Le.of ?_ ?_<;>simp [go_sem,simprocAttr,hb,hu,hw,uR,DI,vP_length,gy,Option.isSome_some,Ci,rP,sP]
  ·rw [if_neg hin] at uR
   have Fq:Gn g (AN:Int) bs xs ys i= [Ci xs ys u,Ci xs ys w]:=by
    unfold Gn zy
    rw [if_neg hin,MP,Rv,Int.toNat_natCast,Int.toNat_natCast]
    rfl
   repeat' (first|(show cr _ (.region 23 _ _) _ _;(refine dy hX 14 1 110 402 rfl rfl rfl (by first|exact .inl rfl|exact .inr rfl) (by decide) (by decide) ?_;simp only [List.set_cons_zero,List.set_cons_succ,go_sem,simprocAttr,hb,hu,hw,uR,vP_length,gy,Option.isSome_none]))|refine Rn.p ?_|(with_reducible apply And.intro)|((first|(refine hK _ ?_;clear hK K)|with_reducible intro K hK|refine Rs.p ?_|((with_reducible first|apply oP|apply oQ);exact rfl)|(refine bu hX hC hP [(10001,10),(10002,11)] (hc1) rfl rfl rfl ?_ ?_ ?_ ?_ ?_ ?_ rfl rfl ?_ ?_;(focus (simp only [go_sem,simprocAttr,hb,hu,hw,uR,vP_length,gy,Option.isSome_none];done));(iterate 6 (focus (simp [go_sem,simprocAttr,hb,hu,hw,uR,vP_length,gy,Option.isSome_none];done)));try simp only [List.map_cons,List.map_nil])|(refine bu hX hC hP [(10001,10),(10002,11)] (BH) rfl rfl rfl ?_ ?_ ?_ ?_ ?_ ?_ rfl rfl ?_ ?_;(focus (simp only [go_sem,simprocAttr,hb,hu,hw,uR,vP_length,gy,Option.isSome_none];done));(iterate 6 (focus (simp [go_sem,simprocAttr,hb,hu,hw,uR,vP_length,gy,Option.isSome_none];done)));try simp only [List.map_cons,List.map_nil]));try simp only [go_sem,simprocAttr,hb,hu,hw,uR,vP_length,gy,Option.isSome_none])|((with_reducible refine oD ?_ ?_);kernel_rfl)|((with_reducible intro h);try simp only [go_sem,simprocAttr,hb,hu,hw,uR,vP_length,gy,Option.isSome_none] at h)|omega|intro h)
   refine ⟨i+1,by omega, ?_,by omega⟩
   rw [Rx,dS,Fq,Rw]
   refine Le.of ?_ ?_<;>simp [go_sem,simprocAttr,hb,hu,hw,uR,vP_length,gy,Option.isSome_none,Ci,rP,sP]
 have hb:decide ((i:Int)<(g.es.length:Int))=false:=decide_eq_false (by omega)
 obtain rfl:i=g.es.length:=by omega
 repeat' (first|refine Rn.p ?_|(with_reducible apply And.intro)|((first|(refine hK _ ?_;clear hK K)|with_reducible intro K hK|refine Rs.p ?_|((with_reducible first|apply oP|apply oQ);exact rfl));try simp only [go_sem,simprocAttr,hb])|((with_reducible refine oD ?_ ?_);kernel_rfl)|((with_reducible intro h);try simp only [go_sem,simprocAttr,hb] at h)|omega|intro h)
end Go.Ab
end
section
namespace Go.Ab
open Go.Proofs
attribute [local congr] ACall.congr gd.congr Nx.congr
set_option maxRecDepth 20000
set_option maxHeartbeats 8000000
theorem zF (d:Dr) (h1:d.pts.length≤9223372036854775807) (h2:d.ls.length≤9223372036854775807) (h3:∀l∈d.ls,l.length≤9223372036854775807):Spec Tryz.prog 56 (Args [eDr d,eDr d]) [] (eB true) []:=by
 (refine Spec.hd (C:=T.cfg [] []) (rs:= [.t 4]) (T.ai _ _) Tryz.func56 rfl rfl Tryz.ntmps56 Tryz.results56 (by simp [AObj.isNest]) (by simp [AObj.isNest]) (by kernel_rfl) T.mixed fun X hX hP hC aQ cy=> ?_)
 repeat' (first|refine Rn.p ?_|(with_reducible apply And.intro)|((first|(refine hK _ ?_;clear hK K)|with_reducible intro K hK|refine Rs.p ?_|((with_reducible first|apply oP|apply oQ);exact rfl));try simp only [go_sem,simprocAttr,decide_true])|((with_reducible refine oD ?_ ?_);kernel_rfl)|((with_reducible intro h);try simp only [go_sem,simprocAttr,decide_true] at h)|omega|intro h)
 refine ak (fun k:Nat=>k≤d.pts.length) (fun k=>⟨[(2, .ptr 2 0),(3, .ptr 3 0),(4,eB false),(5,eN k)], [(2, .box [.d (sP d.pts), .d (sLn d.ls)]),(3, .box [.d (sP d.pts), .d (sLn d.ls)])]⟩) (fun k=>d.pts.length - k) 0 (by omega) ?_ ?_
 ·refine Le.of ?_ ?_<;>simp [go_sem,simprocAttr,decide_true]
 rintro k hk
 rcases Nat.lt_or_ge k d.pts.length with hlt|hge
 ·have hb:decide ((k:Int)<(d.pts.length:Int))=true:=decide_eq_true (by omega)
  repeat' (first|refine Rn.p ?_|(with_reducible apply And.intro)|((first|(refine hK _ ?_;clear hK K)|with_reducible intro K hK|refine Rs.p ?_|((with_reducible first|apply oP|apply oQ);exact rfl));try simp only [go_sem,simprocAttr,decide_true,hb])|((with_reducible refine oD ?_ ?_);kernel_rfl)|((with_reducible intro h);try simp only [go_sem,simprocAttr,decide_true,hb] at h)|omega|intro h)
  refine ⟨k+1,by omega, ?_,by omega⟩
  refine Le.of ?_ ?_<;>simp [go_sem,simprocAttr,decide_true,hb]
 have hb:decide ((k:Int)<(d.pts.length:Int))=false:=decide_eq_false (by omega)
 repeat' (first|refine Rn.p ?_|(with_reducible apply And.intro)|((first|(refine hK _ ?_;clear hK K)|with_reducible intro K hK|refine Rs.p ?_|((with_reducible first|apply oP|apply oQ);exact rfl));try simp only [go_sem,simprocAttr,decide_true,hb])|((with_reducible refine oD ?_ ?_);kernel_rfl)|((with_reducible intro h);try simp only [go_sem,simprocAttr,decide_true,hb] at h)|omega|intro h)
 refine ak (fun i:Nat=>i≤d.ls.length) (fun i=>⟨[(2, .ptr 2 0),(3, .ptr 3 0),(4,eB false),(6,eN i)], [(2, .box [.d (sP d.pts), .d (sLn d.ls)]),(3, .box [.d (sP d.pts), .d (sLn d.ls)])]⟩) (fun i=>d.ls.length - i) 0 (by omega) ?_ ?_
 ·refine Le.of ?_ ?_<;>simp [go_sem,simprocAttr,decide_true,hb]
 rintro i hi
 rcases Nat.lt_or_ge i d.ls.length with hil|Ru
 ·have hb2:decide ((i:Int)<(d.ls.length:Int))=true:=decide_eq_true (by omega)
  have QW:=vP_getD d.ls i
  have T0:=h3 _ (aU (d:= []) hil)
  generalize hl:d.ls.getD i []=l at QW T0
  repeat' (first|refine Rn.p ?_|(with_reducible apply And.intro)|((first|(refine hK _ ?_;clear hK K)|with_reducible intro K hK|refine Rs.p ?_|((with_reducible first|apply oP|apply oQ);exact rfl));try simp only [go_sem,simprocAttr,decide_true,hb2,hl,vP_length])|((with_reducible refine oD ?_ ?_);kernel_rfl)|((with_reducible intro h);try simp only [go_sem,simprocAttr,decide_true,hb2,hl,vP_length] at h)|omega|intro h)
  refine ak (fun j:Nat=>j≤l.length) (fun j=>⟨[(2, .ptr 2 0),(3, .ptr 3 0),(4,eB false),(6,eN i),(7,eN j)], [(2, .box [.d (sP d.pts), .d (sLn d.ls)]),(3, .box [.d (sP d.pts), .d (sLn d.ls)])]⟩) (fun j=>l.length - j) 0 (by omega) ?_ ?_
  ·refine Le.of ?_ ?_<;>simp [go_sem,simprocAttr,decide_true,hb2,hl,vP_length]
  rintro j hj
  rcases Nat.lt_or_ge j l.length with hjl|Vc
  ·have hb3:decide ((j:Int)<(l.length:Int))=true:=decide_eq_true (by omega)
   repeat' (first|refine Rn.p ?_|(with_reducible apply And.intro)|((first|(refine hK _ ?_;clear hK K)|with_reducible intro K hK|refine Rs.p ?_|((with_reducible first|apply oP|apply oQ);exact rfl));try simp only [go_sem,simprocAttr,decide_true,hb2,hl,vP_length,hb3])|((with_reducible refine oD ?_ ?_);kernel_rfl)|((with_reducible intro h);try simp only [go_sem,simprocAttr,decide_true,hb2,hl,vP_length,hb3] at h)|omega|intro h)
   refine ⟨j+1,by omega, ?_,by omega⟩
   refine Le.of ?_ ?_<;>simp [go_sem,simprocAttr,decide_true,hb2,hl,vP_length,hb3]
  have hb3:decide ((j:Int)<(l.length:Int))=false:=decide_eq_false (by omega)
  repeat' (first|refine Rn.p ?_|(with_reducible apply And.intro)|((first|(refine hK _ ?_;clear hK K)|with_reducible intro K hK|refine Rs.p ?_|((with_reducible first|apply oP|apply oQ);exact rfl));try simp only [go_sem,simprocAttr,decide_true,hb2,hl,vP_length,hb3])|((with_reducible refine oD ?_ ?_);kernel_rfl)|((with_reducible intro h);try simp only [go_sem,simprocAttr,decide_true,hb2,hl,vP_length,hb3] at h)|omega|intro h)
  refine ⟨i+1,by omega, ?_,by omega⟩
  refine Le.of ?_ ?_<;>simp [go_sem,simprocAttr,decide_true,hb2,hl,vP_length,hb3]
 have hb2:decide ((i:Int)<(d.ls.length:Int))=false:=decide_eq_false (by omega)
 repeat' (first|refine Rn.p ?_|(with_reducible apply And.intro)|((first|(refine hK _ ?_;clear hK K)|with_reducible intro K hK|refine Rs.p ?_|((with_reducible first|apply oP|apply oQ);exact rfl));try simp only [go_sem,simprocAttr,decide_true,hb2])|((with_reducible refine oD ?_ ?_);kernel_rfl)|((with_reducible intro h);try simp only [go_sem,simprocAttr,decide_true,hb2] at h)|omega|intro h)
def zG:Gr:=⟨3, [(0,1),(1,2),(0,2)]⟩
def GL:Pl:=⟨[0,1,2], [[0,2], [1], []]⟩
def d21:Dr:=⟨[(0,0),(1,2),(3,3)], [[(0,0),(1,2)], [(1,2),(3,3)], [(0,0),(2,1),(3,3)]]⟩
theorem Js:(true=true)↔(cg zG).1=0∧bg zG GL:=⟨fun _=>⟨by decide,⟨rfl,by decide,by decide⟩⟩,fun _=>rfl⟩
theorem Qc:cR zG= [2]:=by
 have hm:aL zG=true:=by decide
 have h0:DU zG 0=false:=by rw [← uA hm (by decide)];decide
 have h1:DU zG 1=false:=by rw [← uA hm (by decide)];decide
 have h2:DU zG 2=true:=by rw [← uA hm (by decide)];decide
 unfold cR
 rw [if_pos hm]
 show zT zG 3= [2]
 rw [o6,if_pos h2,o6,if_neg (by rw [h1];decide),o6,if_neg (by rw [h0];decide)]
 rfl
theorem Qd:Ck true zG GL=(d21,0):=by
 have a1:lK true zG GL=(zG,GL,0):=rfl
 have a2:ah zG GL=zG:=rfl
 have a3:bH zG GL=GL:=rfl
 unfold Ck gG
 rw [a1,a2,a3,Qc,if_neg (by simp),if_neg (by decide)]
 rfl
end Go.Ab
end
section
namespace Go.Ab
open Go.Proofs
attribute [local congr] ACall.congr gd.congr Nx.congr
set_option maxRecDepth 10000
set_option maxHeartbeats 8000000
def Vd (rev:Bool) (row:List It) (i:Nat):Int:=((jf rev row).getD i (0,0,0)).2.2
def Ry (g:Gr) (f:Fr) (rev:Bool):Int:=match (jf rev f.row).find? (fun t=>az g f t.2.2) with
 |some t=>t.2.2
 |none=>match (List.range g.n.toNat).find? (fun x:Nat=>az g f (x:Int)) with
  |some x=>(x:Int)
  |none=> -1
end Go.Ab
end
section
namespace Go.Ab
open Go.Proofs
attribute [local congr] ACall.congr gd.congr Nx.congr
set_option maxRecDepth 20000
set_option maxHeartbeats 16000000
end Go.Ab
end
section
namespace Go.Ab
set_option maxRecDepth 10000
set_option linter.unusedSectionVars false
variable {P:PS}
structure PS.Hi (P:PS) (R:Int→Int) (f0 f1:Int) (hi:Int→Int):Prop where
 mid:∀ {x u a b v},P.ins x=u++a::b::v→hi (R a)=x
 h0:hi f0=P.L9
 h1:hi f1=P.L9
def PS.Ve (P:PS) (a:Int):Prop:=∃x u b v,P.outs x=u++a::b::v
section
variable (h:P.Ok) {L R:Int→Int} {f0 f1:Int} {low:Int→Int} (F:P.jA L R f0 f1 low)
include h F
theorem PS.Hi.DN {hi:Int→Int} (H:P.Hi R f0 f1 hi):P.DN.Hi L f1 f0 hi:=
 {mid:=fun {x u a b v} e=>by
   have e:=gZ (show (P.ins x).reverse=_ from e)
   rw [← F.Ax e];exact H.mid e
  h0:=H.h1
  h1:=H.h0}
variable {L' R':Int→Int} {T1 T6:Int} {low':Int→Int} (F':P.jA L' R' T1 T6 low')
include F'
end
section
variable (h:P.Ok) {L R:Int→Int} {f0 f1:Int} {low:Int→Int} (F:P.jA L R f0 f1 low)
include h F
variable {hi:Int→Int} (H:P.Hi R f0 f1 hi)
include H
end
def Qe (t h:Int→Int) (l:List Int) (x:Int):Int:=match l.find? (fun i=>decide (t i=x)) with
 |some i=>h i
 |none=>x
def Qf (t h:Int→Int) (l:List Int) (x:Int):Nat→Int
 |0=>x
 |k+1=>Qe t h l (Qf t h l x k)
section
variable (h:P.Ok) {L R:Int→Int} {f0 f1:Int} {low:Int→Int} (F:P.jA L R f0 f1 low) {hi:Int→Int} (H:P.Hi R f0 f1 hi)
include h F H
end
end Go.Ab
end
section
namespace Go.Ab
open Go.Proofs
set_option maxRecDepth 10000
set_option linter.unusedSectionVars false
section
variable (g:Gr) (p:Pl)
def cK:Nat→Nat
 |0=>1
 |k+1=>cK k+((cj p (aE p k)).length - 1)
def NA (e:Int):Nat:=(cj p (dW g e)).findIdx (fun i=>decide (i=e))
def zH (x:Int):Int:=(mF g p x).headD 0
def MR (x:Int):Int:=(mF g p x).getLastD 0
def LK:Nat→Int→Int
 |0,_=>0
 |k+1,e=>if dW g e=aE p k then (if NA g p e=0 then (if k=0 then 0 else LK k (zH g p (aE p k))) else (cK p k:Int)+NA g p e - 1) else LK k e
def RK (r:Int):Nat→Int→Int
 |0,_=>0
 |k+1,e=>if dW g e=aE p k then (if NA g p e+1<(cj p (aE p k)).length then (cK p k:Int)+NA g p e else (if k=0 then r else RK r k (MR g p (aE p k)))) else RK r k e
def Ka:Nat→List Int
 |0=> [aE p 0]
 |k+1=>Ka k++List.replicate ((cj p (aE p k)).length - 1) (aE p k)
end
section
variable {g:Gr} {p:Pl}
variable (h:aX g p)
include h
def WK (g:Gr) (p:Pl) (k:Nat):List Int:=(fu (fK g p k).row).map (·.1)
end
end Go.Ab
end
section
namespace Go.Ab
open Go.Proofs
attribute [local congr] ACall.congr gd.congr Nx.congr
set_option maxRecDepth 10000
set_option maxHeartbeats 8000000
def Co (A o:List Int) (f:Nat→Int):Nat→List Int
 |0=>A
 |j+1=>(Co A o f j).set (o.getD j 0).toNat (f j)
def Rz (A o:List Int) (left:Int) (c:Nat) (j:Nat):List Int:=Co A o (fun j=>if j=0 then left else (c:Int)+j - 1) j
def RA (A o:List Int) (right:Int) (c:Nat) (j:Nat):List Int:=Co A o (fun j=>if j+1<o.length then (c:Int)+j else right) j
def IN (c k:Nat):List Int:=(List.range k).map fun i:Nat=>((c+i:Nat):Int)
def Vf (left:Int) (c d j:Nat):Int:=if min j (d - 1)=0 then left else (c:Int)+(min j (d - 1):Nat) - 1
def Vg (ed gp:D) (A B lo hi:List Int):List (Nat × AObj):= [(10000, .box [.d ed, .d gp, .ref 10001, .ref 10002, .ref 10003, .ref 10004]),(10001, .own 3 1 (A.map rI)),(10002, .own 3 1 (B.map rI)),(10003, .tip 3 1 (lo.map rI)),(10004, .own 3 1 (hi.map rI))]
def Vh (ed gp:D) (A B lo hi:List Int):List (Nat × AObj):= [(10000, .box [.d ed, .d gp, .ref 10001, .ref 10002, .ref 10005, .ref 10006]),(10001, .own 3 1 (A.map rI)),(10002, .own 3 1 (B.map rI)),(10005, .tip 3 1 (lo.map rI)),(10006, .own 3 1 (hi.map rI))]
end Go.Ab
end
section
namespace Go.Ab
open Go.Proofs
attribute [local congr] ACall.congr gd.congr Nx.congr
set_option maxRecDepth 10000
set_option maxHeartbeats 8000000
def MT (A fs:List Int) (x:Int) (j:Nat):List Int:=Co A fs (fun _=>x) j
end Go.Ab
end
section
namespace Go.Ab
open Go.Proofs
set_option maxRecDepth 10000
set_option linter.unusedSectionVars false
def arr (f:Int→Int) (m:Nat):List Int:=(List.range m).map fun i:Nat=>f (i:Int)
section
variable {g:Gr} {p:Pl} (h:aX g p)
include h
end
section
variable (g:Gr) (p:Pl)
def Bb:Nat→List Int
 |0=>cj p (aE p 0)
 |j+1=>if cj p (aE p (j+1))= [] then Bb j else (Bb j).take (fU (Bb j) (zH g p (aE p (j+1)))).toNat++cj p (aE p (j+1))++(Bb j).drop ((fU (Bb j) (zH g p (aE p (j+1)))).toNat+(mF g p (aE p (j+1))).length)
def MU:Nat→List Int
 |0=> [0]++IN 1 ((cj p (aE p 0)).length - 1)++ [-1]
 |j+1=>(MU j).take ((fU (Bb g p j) (zH g p (aE p (j+1)))).toNat+1)++IN (cK p (j+1)) ((cj p (aE p (j+1))).length - 1)++(MU j).drop ((fU (Bb g p j) (zH g p (aE p (j+1)))).toNat+(mF g p (aE p (j+1))).length)
def MV (k:Nat):List Int:=((mF g p (aE p k)).dropLast).map (RK g p (-1) k)
def Qg:Nat→List Int
 |0=> [aE p (g.n.toNat - 1)]
 |k+1=>MT (Qg k) (MV g p k) (aE p k) (MV g p k).length++List.replicate ((cj p (aE p k)).length - 1) 0
end
section
variable {g:Gr} {p:Pl}
variable (h:aX g p)
include h
end
end Go.Ab
end
section
namespace Go.Ab
open Go.Proofs
attribute [local congr] ACall.congr gd.congr Nx.congr
set_option maxRecDepth 60000
set_option maxHeartbeats 8000000
structure Fc where
 L:List Int
 R:List Int
 lo:List Int
 hi:List Int
def Qh (g:Gr) (p:Pl) (f:Int):Int:=if f= -1 then (cK p g.n.toNat:Int) else f
def T7 (g:Gr) (p:Pl):Fc:=⟨arr (LK g p g.n.toNat) g.es.length,(arr (RK g p (-1) g.n.toNat) g.es.length).map (Qh g p),Ka p g.n.toNat++ [aE p 0],Qg g p g.n.toNat++ [aE p (g.n.toNat - 1)]⟩
def T8:Fc:=⟨[], [], [], []⟩
def Vi (b:Bool) (g:Gr) (p:Pl):Fc × Int:=if ((cq b g p).2.1=0∧vu g=true)∧0<g.es.length then (T7 g p,0) else (T8,1)
def Vj (f:Fc):AV:= .agg [.d (sI f.L), .d (sI f.R), .d (sI f.lo), .d (sI f.hi)]
def Ua (l:List Int) (f:Int→Int) (j:Nat):List Int:=(l.take j).map f++l.drop j
end Go.Ab
end
section
namespace Go.Ab
open Go.Proofs
set_option maxRecDepth 10000
set_option linter.unusedSectionVars false
section
variable (g:Gr) (p:Pl)
def cN:Nat:=cK p g.n.toNat
def Lf (e:Int):Int:=LK g p g.n.toNat e
def Rf (e:Int):Int:=RK g p (cN g p) g.n.toNat e
def Ub:List Int:=Ka p g.n.toNat++ [aE p 0]
def Uc:List Int:=Qg g p g.n.toNat++ [aE p (g.n.toNat - 1)]
def Vk (f:Int):Int:=(Ub g p).getD f.toNat 0
def Vl (f:Int):Int:=(Uc g p).getD f.toNat 0
end
section
variable {g:Gr} {p:Pl}
variable (h:aX g p) (hI:vu g=true)
include h hI
end
end Go.Ab
end
section
namespace Go.Ab
open Go.Proofs
set_option maxRecDepth 10000
set_option linter.unusedSectionVars false
def Ud (s:Nat) (x:Int):Bool:=decide (0≤x)&&decide (x<64)&&s.testBit x.toNat
section
variable {P:PS} (h:P.Ok) {L R:Int→Int} {f0 f1:Int} {low:Int→Int} (F:P.jA L R f0 f1 low)
def Ue (P:PS) (R:Int→Int) (f:Int):Nat→Nat
 |0=>0
 |j+1=>if R (P.sh j)=f then j+1 else Ue P R f j
include h F
end
section
variable (g:Gr) (p:Pl)
def Vm:Gr:=⟨(cN g p:Int)+1,(List.range g.es.length).map fun i:Nat=>(Lf g p i,Rf g p i)⟩
end
section
variable {g:Gr} {p:Pl}
variable (h:aX g p) (hI:vu g=true)
include h hI
end
end Go.Ab
end
section
namespace Go.Ab
open Go.Proofs
attribute [local congr] ACall.congr gd.congr Nx.congr
set_option maxRecDepth 20000
set_option maxHeartbeats 8000000
end Go.Ab
end
section
namespace Go.Ab
open Go.Proofs
attribute [local congr] ACall.congr gd.congr Nx.congr
set_option maxRecDepth 20000
set_option maxHeartbeats 8000000
def Vn (f:Fc) (k:Nat):List Edge:=(List.range k).map fun i:Nat=>(f.L.getD i 0,f.R.getD i 0)
def Uf (b:Bool) (g:Gr) (p:Pl):Bool:= !tY g p&&vu g&&decide ((cq b g p).2.1=0)&&decide (0<(g.es.length:Int))&&decide ((g.es.length:Int)≤60)
def Vo:Gr:=⟨4, [(0,1),(1,3),(0,2),(2,3)]⟩
def Vp:Pl:=⟨[0,1,2,3], [[0,2], [1], [3], []]⟩
end Go.Ab
end
section
namespace Go.Ab
open Go.Proofs
attribute [local congr] ACall.congr gd.congr Nx.congr
set_option maxRecDepth 20000
set_option maxHeartbeats 8000000
theorem js:Spec Tryz.prog 18 (Args []) [] (eB true) []:=by
 have Qi:=vS zG (by decide) GL ⟨by decide,by decide,by decide⟩ (by decide) (by decide) (by decide) true Js
 rw [Qd] at Qi
 simp only at Qi
 have Ug:=zF d21 (by decide) (by decide) (by decide)
 have e1:zG.es.map rE= [[.sc (.int .i64 0), .sc (.int .i64 1)], [.sc (.int .i64 1), .sc (.int .i64 2)], [.sc (.int .i64 0), .sc (.int .i64 2)]]:=rfl
 have e2:GL.ord.map rI= [[.sc (.int .i64 0)], [.sc (.int .i64 1)], [.sc (.int .i64 2)]]:=rfl
 have e3:vI GL.outs= [[.sl 1 [[.sc (.int .i64 0)], [.sc (.int .i64 2)]]], [.sl 1 [[.sc (.int .i64 1)]]], [.sl 1 []]]:=rfl
 have e4:zG.n=3:=rfl
 have e5:d21.pts.map rP= [[.sc (.int .i64 0), .sc (.int .i64 0)], [.sc (.int .i64 1), .sc (.int .i64 2)], [.sc (.int .i64 3), .sc (.int .i64 3)]]:=rfl
 have e6:vP d21.ls= [[.sl 2 [[.sc (.int .i64 0), .sc (.int .i64 0)], [.sc (.int .i64 1), .sc (.int .i64 2)]]], [.sl 2 [[.sc (.int .i64 1), .sc (.int .i64 2)], [.sc (.int .i64 3), .sc (.int .i64 3)]]], [.sl 2 [[.sc (.int .i64 0), .sc (.int .i64 0)], [.sc (.int .i64 2), .sc (.int .i64 1)], [.sc (.int .i64 3), .sc (.int .i64 3)]]]]:=rfl
 (refine Spec.hd (C:=T.cfg [] []) (rs:= [.t 0]) (T.ai _ _) Tryz.func18 rfl rfl Tryz.ntmps18 Tryz.results18 (by simp [AObj.isNest]) (by simp [AObj.isNest]) (by kernel_rfl) T.mixed fun X hX hP hC aQ cy=> ?_)
 repeat' (first|refine Rn.p ?_|(with_reducible apply And.intro)|((first|(refine hK _ ?_;clear hK K)|with_reducible intro K hK|refine Rs.p ?_|((with_reducible first|apply oP|apply oQ);exact rfl)|(refine cD hX hC hP (Qi) rfl rfl rfl ?_ ?_ rfl ?_;iterate 2 (focus (simp only [go_sem,simprocAttr,e1,e2,e3,e4,e5,e6,List.map_cons,List.map_nil,rI,decide_true];done)))|(refine cD hX hC hP (Ug) rfl rfl rfl ?_ ?_ rfl ?_;iterate 2 (focus (simp only [go_sem,simprocAttr,e1,e2,e3,e4,e5,e6,List.map_cons,List.map_nil,rI,decide_true];done))));try simp only [go_sem,simprocAttr,e1,e2,e3,e4,e5,e6,List.map_cons,List.map_nil,rI,decide_true])|((with_reducible refine oD ?_ ?_);kernel_rfl)|((with_reducible intro h);try simp only [go_sem,simprocAttr,e1,e2,e3,e4,e5,e6,List.map_cons,List.map_nil,rI,decide_true] at h)|omega|intro h)
end Go.Ab
end
section
namespace Go.Ab
open Go.Proofs
attribute [local congr] ACall.congr gd.congr Nx.congr
set_option maxRecDepth 40000
set_option maxHeartbeats 32000000
structure Qj (p:Prop):Prop where
 run:p
theorem hold {p:Prop} (h:Qj p):p:=h.run
theorem IP (E1 E2:List (List Int × Int)):Over (asN [(10000,47),(10001,48)]) [(47, .mp 0 E1),(48, .mp 0 E2)] [(10000, .mp 0 E1),(10001, .mp 0 E2)] [(10000, .mp 0 E1),(10001, .mp 0 E2)] (.tup []):=by
 refine ⟨by simp [asN,AObj.ren],by simp [nodupM,look],by simp [nodupM,look],by simp [AObj.isNest],by simp [AObj.isNest],fun l l' h h' e=> ?_,by simp [look],by simp [AObj.ro],by simp [AObj.ro],by simp [AV.ids,AV.idss],by simp [AObj.ids]⟩
 have mem:∀l,(look [(10000,AObj.mp 0 E1),(10001,AObj.mp 0 E2)] l≠none∨look [(10000,AObj.mp 0 E1),(10001,AObj.mp 0 E2)] l≠none)→l=10000∨l=10001:=fun l hl=>by
  simp only [look] at hl
  by_cases e1:10000=l
  ·exact .inl e1.symm
  ·by_cases e2:10001=l
   ·exact .inr e2.symm
   ·rw [if_neg e1,if_neg e2] at hl
    exact absurd rfl (hl.elim id id)
 rcases mem l h with rfl|rfl<;>rcases mem l' h' with rfl|rfl<;>first|rfl|(simp [asN] at e)
theorem RB (E1 E2:List (List Int × Int)) (k:Nat):∀l∈(get [(7,AV.mref 10000),(8,AV.mref 10001)] k).ids,bC [(10000,AObj.mp 0 E1),(10001,AObj.mp 0 E2)] l≠none:=by
 intro l hl
 simp only [get] at hl
 by_cases e1:7=k
 ·rw [if_pos e1] at hl
  simp only [AV.ids,List.mem_singleton] at hl
  subst hl
  rw [bZ (by omega)];simp [look]
 ·rw [if_neg e1] at hl
  by_cases e2:8=k
  ·rw [if_pos e2] at hl
   simp only [AV.ids,List.mem_singleton] at hl
   subst hl
   rw [bZ (by omega)];simp [look]
  ·rw [if_neg e2] at hl;simp [AV.ids] at hl
theorem RC {t:List (Nat × AV)} (h1:get t 7= .mref 47) (h2:get t 8= .mref 48) (k:Nat):(get [(7,AV.mref 10000),(8,AV.mref 10001)] k).ren (asN [(10000,47),(10001,48)])=get t k∨get [(7,AV.mref 10000),(8,AV.mref 10001)] k= .fm:=by
 simp only [get]
 by_cases e1:7=k
 ·subst e1;left;rw [h1];simp [AV.ren,asN]
 ·by_cases e2:8=k
  ·subst e2;left;rw [h2];simp [AV.ren,asN]
  ·right;rw [if_neg e1,if_neg e2]
theorem uC (g:Gr) (p:Pl) (hl:g.es.length≤9223372036854775807) (hp:FR p):Spec Tryz.prog 5 (Args [eG g,ePl p]) [] (eB true) []:=by
 have hG:=xk g p hl hp
 cases hB:tY g p with
 |true=>
  rw [hB] at hG
  (refine Spec.hd (C:=T.cfg [] []) (rs:= [.t 4]) (T.ai _ _) Tryz.func5 rfl rfl Tryz.ntmps5 Tryz.results5 (by simp [AObj.isNest]) (by simp [AObj.isNest]) (by kernel_rfl) T.mixed fun X hX hP hC aQ cy=> ?_)
  repeat' (first|refine Rn.p ?_|(with_reducible apply And.intro)|((first|(refine hK _ ?_;clear hK K)|with_reducible intro K hK|refine Rs.p ?_|((with_reducible first|apply oP|apply oQ);exact rfl)|refine aa hX hC hP (js) rfl rfl rfl (by simp only [go_sem,simprocAttr]) rfl ?_|refine aa hX hC hP (hG) rfl rfl rfl (by simp only [go_sem,simprocAttr]) rfl ?_);try simp only [go_sem,simprocAttr])|((with_reducible refine oD ?_ ?_);kernel_rfl)|((with_reducible intro h);try simp only [go_sem,simprocAttr] at h)|omega|intro h)
 |false=>
 rw [hB] at hG
 obtain ⟨b1,b2,b3,b4⟩:=BX hB
 obtain ⟨b,hr⟩:=TF g p
 have MW:=vS g (by omega) p (FQ hB) (by omega) (by omega) (fun l hl=>by have:=b4 l hl;omega) b hr
 by_cases h0:(Ck b g p).2=0
 rotate_left
 ·have MX:decide ((Ck b g p).2=0)=false:=decide_eq_false h0
  (refine Spec.hd (C:=T.cfg [] []) (rs:= [.t 4]) (T.ai _ _) Tryz.func5 rfl rfl Tryz.ntmps5 Tryz.results5 (by simp [AObj.isNest]) (by simp [AObj.isNest]) (by kernel_rfl) T.mixed fun X hX hP hC aQ cy=> ?_)
  repeat' (first|refine Rn.p ?_|(with_reducible apply And.intro)|((first|(refine hK _ ?_;clear hK K)|with_reducible intro K hK|refine Rs.p ?_|((with_reducible first|apply oP|apply oQ);exact rfl)|refine aa hX hC hP (js) rfl rfl rfl (by simp only [go_sem,simprocAttr,MX]) rfl ?_|refine aa hX hC hP (hG) rfl rfl rfl (by simp only [go_sem,simprocAttr,MX]) rfl ?_|refine aa hX hC hP (MW) rfl rfl rfl (by simp only [go_sem,simprocAttr,MX]) rfl ?_);try simp only [go_sem,simprocAttr,MX])|((with_reducible refine oD ?_ ?_);kernel_rfl)|((with_reducible intro h);try simp only [go_sem,simprocAttr,MX] at h)|omega|intro h)
 obtain ⟨Gx,hE⟩:=Gt hr h0
 rw [hE] at MW
 simp only at MW
 have hm:=aj Gx.ok.run.1
 have hn:=aG hm
 obtain ⟨n1,n2,n3⟩:=Ba Gx
 have kx:=xF Gx false
 have ky:=xF Gx true
 have Qk:=fun i hi=>Cn Gx (i:=i) hi false
 have Ql:=fun i hi=>Cn Gx (i:=i) hi true
 have nK:=fun k=>MO Gx (k:=k)
 have GK:=fun i j hi hj=>J9 Gx (i:=i) (j:=j) hi hj
 have MI:∀k,bL g p (k+1)=bL g p k++if (k:Int)∈cR (ah g p) then [bv g p k] else []:=fun _=>rfl
 have hb0:bL g p 0= []:=rfl
 have hls:∀i,i<g.es.length→(Ib g (ah g p).n (cR (ah g p)) (gG g p false) (gG g p true)).ls.getD i []=Gn g (ah g p).n (cR (ah g p)) (gG g p false) (gG g p true) i:=fun i hi=>by
  show (qh _ _ _ _ _ _).getD i []=_
  simp [qh,List.getD_eq_getElem?_getD,List.getElem?_range hi]
 have Kb:∀i:Nat,(i:Int)∈cR (ah g p)→Gn g (ah g p).n (cR (ah g p)) (gG g p false) (gG g p true) i= [((gG g p false).getD (tl g i).toNat 0,(gG g p true).getD (tl g i).toNat 0),((gG g p false).getD (bv g p i) 0,(gG g p true).getD (bv g p i) 0),((gG g p false).getD (hd g i).toNat 0,(gG g p true).getD (hd g i).toNat 0)]:=fun i hi=>by
  unfold Gn zy;rw [if_pos hi];rfl
 have Kc:∀i:Nat,(i:Int)∉cR (ah g p)→Gn g (ah g p).n (cR (ah g p)) (gG g p false) (gG g p true) i= [((gG g p false).getD (tl g i).toNat 0,(gG g p true).getD (tl g i).toNat 0),((gG g p false).getD (hd g i).toNat 0,(gG g p true).getD (hd g i).toNat 0)]:=fun i hi=>by
  unfold Gn zy;rw [if_neg hi];rfl
 have cx:(Ib g (ah g p).n (cR (ah g p)) (gG g p false) (gG g p true)).pts.length=g.n.toNat:=xD
 have gy:(Ib g (ah g p).n (cR (ah g p)) (gG g p false) (gG g p true)).ls.length=g.es.length:=Cj
 have hpa:∀v,v<g.n.toNat→(Ib g (ah g p).n (cR (ah g p)) (gG g p false) (gG g p true)).pts.getD v (0,0)=((gG g p false).getD v 0,(gG g p true).getD v 0):=fun v hv=>J8 hv
 obtain ⟨N,hN⟩:∃N:Nat,g.n=N:=⟨g.n.toNat,by omega⟩
 have Uh:g.n.toNat=N:=by omega
 rw [Uh] at cx hpa
 generalize (aI (ah g p) (cR (ah g p)))=RG at*
 generalize Ib g (ah g p).n (cR (ah g p)) (gG g p false) (gG g p true)=D at*
 generalize gG g p false=xs at*
 generalize gG g p true=ys at*
 obtain ⟨M,hM⟩:∃M,RG.n.toNat=M:=⟨_,rfl⟩
 have Ui:RG.n≤64:=n3
 have FL:eG g= .agg [eN N, .d (sE g.es)]:=by rw [eG,hN]
 rw [FL] at hG MW
 have JV:decide ((N:Int)=(N:Int))=true:=decide_eq_true rfl
 have hmm:decide ((g.es.length:Int)=(g.es.length:Int))=true:=decide_eq_true rfl
 (refine Spec.hd (C:=T.cfg [] []) (rs:= [.t 4]) (T.ai _ _) Tryz.func5 rfl rfl Tryz.ntmps5 Tryz.results5 (by simp [AObj.isNest]) (by simp [AObj.isNest]) (by kernel_rfl) T.mixed fun X hX hP hC aQ cy=> ?_)
 repeat' (first|refine Rn.p ?_|(with_reducible apply And.intro)|((first|(refine hK _ ?_;clear hK K)|with_reducible intro K hK|refine Rs.p ?_|((with_reducible first|apply oP|apply oQ);exact rfl)|refine aa hX hC hP (js) rfl rfl rfl (by simp only [go_sem,simprocAttr,cx,gy,JV,hmm,hN]) rfl ?_|refine aa hX hC hP (hG) rfl rfl rfl (by simp only [go_sem,simprocAttr,cx,gy,JV,hmm,hN]) rfl ?_|refine aa hX hC hP (MW) rfl rfl rfl (by simp only [go_sem,simprocAttr,cx,gy,JV,hmm,hN]) rfl ?_);try simp only [go_sem,simprocAttr,cx,gy,JV,hmm,hN])|((with_reducible refine oD ?_ ?_);kernel_rfl)|((with_reducible intro h);try simp only [go_sem,simprocAttr,cx,gy,JV,hmm,hN] at h)|omega|intro h)
 refine ak (fun k:Nat=>k≤N) (fun k=>⟨[(2, .ptr 2 0),(5, .ptr 5 0),(7, .mref 47),(8, .mref 48),(50, .d (sP D.pts)),(51,eN N),(52,eN k)], [(2, .box [eN N, .d (sE g.es)]),(5, .box [.d (sP D.pts), .d (sLn D.ls)]),(47, .mp 0 (gU xs (List.range k))),(48, .mp 0 (gU ys (List.range k)))]⟩) (fun k=>N - k) 0 (by omega) ?_ ?_
 ·refine Le.of ?_ ?_<;>simp [go_sem,simprocAttr,gU]
 rintro k hk
 rcases Nat.lt_or_ge k N with cw|Im
 ·have hb:decide ((k:Int)<(N:Int))=true:=decide_eq_true (by omega)
  have hpk:=hpa k cw
  obtain ⟨m1,m2⟩:=rL (R:=xs) (vs:=List.range k) (v:=k) (fun u hu e=>by have:=List.mem_range.1 hu;have:=kx.inj u k (by omega) (by omega) e;omega)
  obtain ⟨m3,m4⟩:=rL (R:=ys) (vs:=List.range k) (v:=k) (fun u hu e=>by have:=List.mem_range.1 hu;have:=ky.inj u k (by omega) (by omega) e;omega)
  rw [← List.range_succ] at m2 m4
  generalize Qm:gU xs (List.range k)=E1 at m1 m2 ⊢
  generalize x5:gU ys (List.range k)=E2 at m3 m4 ⊢
  generalize Vq:xs.getD k 0=X1 at hpk m1 m2
  generalize Vr:ys.getD k 0=Y1 at hpk m3 m4
  repeat' (first|refine Rn.p ?_|(with_reducible apply And.intro)|((first|(refine hK _ ?_;clear hK K)|with_reducible intro K hK|refine Rs.p ?_|((with_reducible first|apply oP|apply oQ);exact rfl));try simp only [go_sem,simprocAttr,hb,hpk,cx,m1,m3,m2,m4,Int.zero_add])|((with_reducible refine oD ?_ ?_);kernel_rfl)|((with_reducible intro h);try simp only [go_sem,simprocAttr,hb,hpk,cx,m1,m3,m2,m4,Int.zero_add] at h)|omega|intro h)
  refine ⟨k+1,by omega, ?_,by omega⟩
  refine Le.of ?_ ?_<;>simp [go_sem,simprocAttr,hb,hpk,cx,m1,m3,m2,m4,Int.zero_add]
 have hb:decide ((k:Int)<(N:Int))=false:=decide_eq_false (by omega)
 obtain rfl:N=k:=by omega
 repeat' (first|refine Rn.p ?_|(with_reducible apply And.intro)|((first|(refine hK _ ?_;clear hK K)|with_reducible intro K hK|refine Rs.p ?_|((with_reducible first|apply oP|apply oQ);exact rfl));try simp only [go_sem,simprocAttr,hb,gy])|((with_reducible refine oD ?_ ?_);kernel_rfl)|((with_reducible intro h);try simp only [go_sem,simprocAttr,hb,gy] at h)|omega|intro h)
 refine ak (fun i:Nat=>i≤g.es.length) (fun i=>⟨[(2, .ptr 2 0),(5, .ptr 5 0),(7, .mref 47),(8, .mref 48),(68, .d (sLn D.ls)),(69,eN g.es.length),(70,eN i)], [(2, .box [eN N, .d (sE g.es)]),(5, .box [.d (sP D.pts), .d (sLn D.ls)]),(47, .mp 0 (gU xs (List.range N++bL g p i))),(48, .mp 0 (gU ys (List.range N++bL g p i)))]⟩) (fun i=>g.es.length - i) 0 (by omega) ?_ ?_
 ·refine Le.of ?_ ?_<;>simp [go_sem,simprocAttr,hb0,List.append_nil]
 rintro i hi
 rcases Nat.lt_or_ge i g.es.length with hil|Ru
 ·have Bc:decide ((i:Int)<(g.es.length:Int))=true:=decide_eq_true (by omega)
  obtain ⟨x1,x2,x3,x4⟩:=Qk i hil
  obtain ⟨_,_,y3,y4⟩:=Ql i hil
  have htr:=bn hm hil
  have Uj:=bw hm hil
  obtain ⟨t,ht⟩:∃t:Nat,tl g i=t:=⟨(tl g i).toNat,by omega⟩
  obtain ⟨h',hh⟩:∃h':Nat,hd g i=h':=⟨(hd g i).toNat,by omega⟩
  have NB:g.es.getD i (0,0)=((t:Int),(h':Int)):=Prod.ext ht hh
  have Gy:=hls i hil
  have hpt:=hpa t (by omega)
  have NC:=hpa h' (by omega)
  have hyes:=Kb i
  have hno:=Kc i
  simp only [ht,hh,Int.toNat_natCast] at x1 x2 x3 x4 y3 y4 hyes hno htr Uj
  have Gz:=MI i
  have hvs:=nK i
  by_cases hb1:(i:Int)∈cR (ah g p)
  ·rw [if_pos hb1] at Gz
   rw [hyes hb1] at Gy
   obtain ⟨z1,z2,z3,z4⟩:=x3 hb1
   obtain ⟨_,_,z5,z6⟩:=y3 hb1
   have iB:∀ {R:List Int},Ih RG R→∀u∈List.range N++bL g p i,R.getD u 0≠R.getD (bv g p i) 0:=fun hR u hu e=>by
    rw [List.mem_append] at hu
    rcases hu with hu|hu
    ·have:=List.mem_range.1 hu
     have:=hR.inj u _ (by omega) z1 e
     omega
    ·obtain ⟨g1,g2,j,g3,g4,rfl⟩:=hvs u hu
     have:=GK _ _ g4 hb1 (hR.inj _ _ g2 z1 e)
     omega
   obtain ⟨m1,m2⟩:=rL (iB kx)
   obtain ⟨m3,m4⟩:=rL (iB ky)
   rw [List.append_assoc, ← Gz] at m2 m4
   clear Qk Ql nK GK MI Kb Kc hyes hno x3 x4 y3 y4 iB hvs Gz hls
   generalize Qm:gU xs (List.range N++bL g p i)=E1 at m1 m2 ⊢
   generalize x5:gU ys (List.range N++bL g p i)=E2 at m3 m4 ⊢
   generalize Uk:gU xs (List.range N++bL g p (i+1))=F1 at m2
   generalize Ul:gU ys (List.range N++bL g p (i+1))=F2 at m4
   generalize xs.getD (bv g p i) 0=Xb at*
   generalize ys.getD (bv g p i) 0=Yb at*
   generalize xs.getD t 0=Xt at*
   generalize ys.getD t 0=Yt at*
   generalize xs.getD h' 0=Xh at*
   generalize ys.getD h' 0=Yh at*
   generalize Ke:D.ls.getD i []=l at*
   have l3:l.length=3:=by rw [Gy];rfl
   have q0:l.getD 0 (0,0)=(Xt,Yt):=by rw [Gy];rfl
   have q1:l.getD 1 (0,0)=(Xb,Yb):=by rw [Gy];rfl
   have q2:l.getD 2 (0,0)=(Xh,Yh):=by rw [Gy];rfl
   have d1:decide (Xb≤Xt)=false:=decide_eq_false (by omega)
   have d2:decide (Yb≤Yt)=false:=decide_eq_false (by omega)
   have d3:decide (Xh≤Xb)=false:=decide_eq_false (by omega)
   have d4:decide (Yh≤Yb)=false:=decide_eq_false (by omega)
   clear Gy
   repeat' (first|refine Rn.p ?_|(with_reducible apply And.intro)|((first|(refine hK _ ?_;clear hK K)|with_reducible intro K hK|refine Rs.p ?_|((with_reducible first|apply oP|apply oQ);exact rfl));try simp only [go_sem,simprocAttr,Bc,gy,cx,NB,hpt,NC,l3,q0,q1,q2,vP_length,Ke])|((with_reducible refine oD ?_ ?_);kernel_rfl)|((with_reducible intro h);try simp only [go_sem,simprocAttr,Bc,gy,cx,NB,hpt,NC,l3,q0,q1,q2,vP_length,Ke] at h)|omega|intro h)
   refine ak (fun k:Nat=>k≤3) (fun k=>⟨[(2, .ptr 2 0),(5, .ptr 5 0),(7, .mref 47),(8, .mref 48),(68, .d (sLn D.ls)),(69,eN g.es.length),(70,eN i),(11,eN i),(12, .d (sP l)),(118, .d (sP l)),(119, .d (.sc (.int .i64 3))),(120,eN k)], [(2, .box [eN N, .d (sE g.es)]),(5, .box [.d (sP D.pts), .d (sLn D.ls)]),(47, .mp 0 (if k≤1 then E1 else F1)),(48, .mp 0 (if k≤1 then E2 else F2))]⟩) (fun k=>3 - k) 0 (by omega) ?_ ?_
   ·refine Le.of ?_ ?_<;>simp [go_sem,simprocAttr,Ke]
   rintro k hk
   obtain rfl|rfl|rfl|rfl:k=0∨k=1∨k=2∨k=3:=by omega
   ·rw [if_pos (by omega),if_pos (by omega)]
    repeat' (first|refine Rn.p ?_|(with_reducible apply And.intro)|((first|(refine hK _ ?_;clear hK K)|with_reducible intro K hK|refine Rs.p ?_|((with_reducible first|apply oP|apply oQ);exact rfl));try simp only [go_sem,simprocAttr,l3,q0,q1,q2])|((with_reducible refine oD ?_ ?_);kernel_rfl)|((with_reducible intro h);try simp only [go_sem,simprocAttr,l3,q0,q1,q2] at h)|omega|intro h)
    refine ⟨1,by omega, ?_,by omega⟩
    rw [if_pos (by omega),if_pos (by omega)]
    refine Le.of ?_ ?_<;>simp [go_sem,simprocAttr,l3,q0,q1,q2]
   ·rw [if_pos (by omega),if_pos (by omega)]
    repeat' (first|refine Rn.p ?_|(with_reducible apply And.intro)|((first|(refine hK _ ?_;clear hK K)|with_reducible intro K hK|refine Rs.p ?_|((with_reducible first|apply oP|apply oQ);exact rfl));try simp only [go_sem,simprocAttr,l3,q0,q1,q2,d1,d2,m1,m2,m3,m4,Int.zero_add])|((with_reducible refine oD ?_ ?_);kernel_rfl)|((with_reducible intro h);try simp only [go_sem,simprocAttr,l3,q0,q1,q2,d1,d2,m1,m2,m3,m4,Int.zero_add] at h)|omega|intro h)
    refine ⟨2,by omega, ?_,by omega⟩
    rw [if_neg (by omega),if_neg (by omega)]
    refine Le.of ?_ ?_<;>simp [go_sem,simprocAttr,l3,q0,q1,q2,d1,d2,m1,m2,m3,m4,Int.zero_add]
   ·rw [if_neg (by omega),if_neg (by omega)]
    repeat' (first|refine Rn.p ?_|(with_reducible apply And.intro)|((first|(refine hK _ ?_;clear hK K)|with_reducible intro K hK|refine Rs.p ?_|((with_reducible first|apply oP|apply oQ);exact rfl));try simp only [go_sem,simprocAttr,l3,q0,q1,q2,d3,d4])|((with_reducible refine oD ?_ ?_);kernel_rfl)|((with_reducible intro h);try simp only [go_sem,simprocAttr,l3,q0,q1,q2,d3,d4] at h)|omega|intro h)
    refine ⟨3,by omega, ?_,by omega⟩
    rw [if_neg (by omega),if_neg (by omega)]
    refine Le.of ?_ ?_<;>simp [go_sem,simprocAttr,l3,q0,q1,q2,d3,d4]
   ·rw [if_neg (by omega),if_neg (by omega)]
    repeat' (first|refine Rn.p ?_|(with_reducible apply And.intro)|((first|(refine hK _ ?_;clear hK K)|with_reducible intro K hK|refine Rs.p ?_|((with_reducible first|apply oP|apply oQ);exact rfl));try simp only [go_sem,simprocAttr,l3])|((with_reducible refine oD ?_ ?_);kernel_rfl)|((with_reducible intro h);try simp only [go_sem,simprocAttr,l3] at h)|omega|intro h)
    refine ⟨i+1,by omega, ?_,by omega⟩
    rw [Uk,Ul]
    refine Le.of ?_ ?_<;>simp [go_sem,simprocAttr,l3]
  ·rw [if_neg hb1,List.append_nil] at Gz
   rw [hno hb1] at Gy
   have z3:=x4 hb1
   have z5:=y4 hb1
   clear Qk Ql nK GK MI Kb Kc hyes hno x3 x4 y3 y4 hvs hls
   rw [← Gz]
   generalize xs.getD t 0=Xt at*
   generalize ys.getD t 0=Yt at*
   generalize xs.getD h' 0=Xh at*
   generalize ys.getD h' 0=Yh at*
   generalize Ke:D.ls.getD i []=l at*
   have l3:l.length=2:=by rw [Gy];rfl
   have q0:l.getD 0 (0,0)=(Xt,Yt):=by rw [Gy];rfl
   have q1:l.getD 1 (0,0)=(Xh,Yh):=by rw [Gy];rfl
   have d1:decide (Xh≤Xt)=false:=decide_eq_false (by omega)
   have d2:decide (Yh≤Yt)=false:=decide_eq_false (by omega)
   clear Gy
   generalize Qm:gU xs (List.range N++bL g p (i+1))=E1
   generalize x5:gU ys (List.range N++bL g p (i+1))=E2
   repeat' (first|refine Rn.p ?_|(with_reducible apply And.intro)|((first|(refine hK _ ?_;clear hK K)|with_reducible intro K hK|refine Rs.p ?_|((with_reducible first|apply oP|apply oQ);exact rfl));try simp only [go_sem,simprocAttr,Bc,gy,cx,NB,hpt,NC,l3,q0,q1,vP_length,Ke])|((with_reducible refine oD ?_ ?_);kernel_rfl)|((with_reducible intro h);try simp only [go_sem,simprocAttr,Bc,gy,cx,NB,hpt,NC,l3,q0,q1,vP_length,Ke] at h)|omega|intro h)
   refine ak (fun k:Nat=>k≤2) (fun k=>⟨[(2, .ptr 2 0),(5, .ptr 5 0),(7, .mref 47),(8, .mref 48),(68, .d (sLn D.ls)),(69,eN g.es.length),(70,eN i),(11,eN i),(12, .d (sP l)),(118, .d (sP l)),(119, .d (.sc (.int .i64 2))),(120,eN k)], [(2, .box [eN N, .d (sE g.es)]),(5, .box [.d (sP D.pts), .d (sLn D.ls)]),(47, .mp 0 E1),(48, .mp 0 E2)]⟩) (fun k=>2 - k) 0 (by omega) ?_ ?_
   ·refine Le.of ?_ ?_<;>simp [go_sem,simprocAttr,Ke]
   rintro k hk
   obtain rfl|rfl|rfl:k=0∨k=1∨k=2:=by omega
   ·skip
    repeat' (first|refine Rn.p ?_|(with_reducible apply And.intro)|((first|(refine hK _ ?_;clear hK K)|with_reducible intro K hK|refine Rs.p ?_|((with_reducible first|apply oP|apply oQ);exact rfl));try simp only [go_sem,simprocAttr,l3,q0,q1])|((with_reducible refine oD ?_ ?_);kernel_rfl)|((with_reducible intro h);try simp only [go_sem,simprocAttr,l3,q0,q1] at h)|omega|intro h)
    refine ⟨1,by omega, ?_,by omega⟩
    refine Le.of ?_ ?_<;>simp [go_sem,simprocAttr,l3,q0,q1]
   ·skip
    repeat' (first|refine Rn.p ?_|(with_reducible apply And.intro)|((first|(refine hK _ ?_;clear hK K)|with_reducible intro K hK|refine Rs.p ?_|((with_reducible first|apply oP|apply oQ);exact rfl));try simp only [go_sem,simprocAttr,l3,q0,q1,d1,d2])|((with_reducible refine oD ?_ ?_);kernel_rfl)|((with_reducible intro h);try simp only [go_sem,simprocAttr,l3,q0,q1,d1,d2] at h)|omega|intro h)
    refine ⟨2,by omega, ?_,by omega⟩
    refine Le.of ?_ ?_<;>simp [go_sem,simprocAttr,l3,q0,q1,d1,d2]
   ·skip
    repeat' (first|refine Rn.p ?_|(with_reducible apply And.intro)|((first|(refine hK _ ?_;clear hK K)|with_reducible intro K hK|refine Rs.p ?_|((with_reducible first|apply oP|apply oQ);exact rfl));try simp only [go_sem,simprocAttr,l3])|((with_reducible refine oD ?_ ?_);kernel_rfl)|((with_reducible intro h);try simp only [go_sem,simprocAttr,l3] at h)|omega|intro h)
    refine ⟨i+1,by omega, ?_,by omega⟩
    rw [Qm,x5]
    refine Le.of ?_ ?_<;>simp [go_sem,simprocAttr,l3]
 have Bc:decide ((i:Int)<(g.es.length:Int))=false:=decide_eq_false (by omega)
 obtain rfl:i=g.es.length:=by omega
 repeat' (first|(show cr _ (.seq (.region 32 _ _) _) _ _;refine hold ?_)|refine Rn.p ?_|(with_reducible apply And.intro)|((first|(refine hK _ ?_;clear hK K)|with_reducible intro K hK|refine Rs.p ?_|((with_reducible first|apply oP|apply oQ);exact rfl));try simp only [go_sem,simprocAttr,Bc])|((with_reducible refine oD ?_ ?_);kernel_rfl)|((with_reducible intro h);try simp only [go_sem,simprocAttr,Bc] at h)|omega|intro h)
 have EZ:∀ {R:List Int},Ih RG R→∀q∈gU R (List.range N++bL g p g.es.length),q.2=1∧0≤q.1.getD 0 0∧q.1.getD 0 0<64:=fun {R} hR q hq=>by
  obtain ⟨v,hv,rfl⟩:=List.mem_map.1 hq
  have Um:v<RG.n.toNat:=by
   rw [List.mem_append] at hv
   rcases hv with hv|hv
   ·have:=List.mem_range.1 hv;omega
   ·exact (nK _ v hv).2.1
  have:=hR.mM v Um
  exact ⟨rfl,this.1,by have:=this.2;show R.getD v 0<64;omega⟩
 have hex:=EZ kx
 have RD:=EZ ky
 generalize gU xs (List.range N++bL g p g.es.length)=E1 at hex ⊢
 generalize gU ys (List.range N++bL g p g.es.length)=E2 at RD ⊢
 refine ⟨?_⟩
 refine sX hX (by rw [hP];exact Tryz.underlying45) (lc:=47) rfl (asN [(10000,47),(10001,48)]) [(47, .mp 0 E1),(48, .mp 0 E2)] [(10000, .mp 0 E1),(10001, .mp 0 E2)] [(7, .mref 10000),(8, .mref 10001)] 10000 E1 (IP E1 E2) (by simp [look]) (by simp) (RC rfl rfl) (RB E1 E2) rfl rfl (by simp [get]) (by decide) (by decide) ?_ ?_
 ·intro q hq X' v FF Ku Qn
  have Qo:Xc X' (T.cfg [] []):=⟨FF,by rw [Qn,hC],by rw [Ku,hP];exact hP ▸ aQ⟩
  obtain ⟨r1,r2,r3⟩:=hex q hq
  rw [r1]
  generalize q.1.getD 0 0=kx at r2 r3 ⊢
  have d1:decide (kx<0)=false:=decide_eq_false (by omega)
  have d2:decide (64≤kx)=false:=decide_eq_false (by omega)
  repeat' (first|refine Rn.p ?_|(with_reducible apply And.intro)|((first|(refine hK _ ?_;clear hK K)|with_reducible intro K hK|refine Rs.p ?_|((with_reducible first|apply oP|apply oQ);exact rfl));try simp only [go_sem,simprocAttr,d1,d2])|((with_reducible refine oD ?_ ?_);kernel_rfl)|((with_reducible intro h);try simp only [go_sem,simprocAttr,d1,d2] at h)|omega|intro h)
  all_goals (first|(show Le _ _;refine Le.of ?_ ?_<;>simp [go_sem,simprocAttr,d1,d2];done)|skip)
 simp only [go_sem,simprocAttr,killM,renM,sW,asN,AObj.ren,AV.rens,AV.ren]
 repeat' (first|(show cr _ (.seq (.region 37 _ _) _) _ _;refine hold ?_)|refine Rn.p ?_|(with_reducible apply And.intro)|((first|(refine hK _ ?_;clear hK K)|with_reducible intro K hK|refine Rs.p ?_|((with_reducible first|apply oP|apply oQ);exact rfl));try simp only [go_sem,simprocAttr,killM,renM,sW,asN,AObj.ren,AV.rens,AV.ren])|((with_reducible refine oD ?_ ?_);kernel_rfl)|((with_reducible intro h);try simp only [go_sem,simprocAttr,killM,renM,sW,asN,AObj.ren,AV.rens,AV.ren] at h)|omega|intro h)
 refine ⟨?_⟩
 refine sX hX (by rw [hP];exact Tryz.underlying45) (lc:=48) rfl (asN [(10000,47),(10001,48)]) [(47, .mp 0 E1),(48, .mp 0 E2)] [(10000, .mp 0 E1),(10001, .mp 0 E2)] [(7, .mref 10000),(8, .mref 10001)] 10001 E2 (IP E1 E2) (by simp [look]) (by simp) (RC rfl rfl) (RB E1 E2) rfl rfl (by simp [get]) (by decide) (by decide) ?_ ?_
 ·intro q hq X' v FF Ku Qn
  have Qo:Xc X' (T.cfg [] []):=⟨FF,by rw [Qn,hC],by rw [Ku,hP];exact hP ▸ aQ⟩
  obtain ⟨r1,r2,r3⟩:=RD q hq
  rw [r1]
  generalize q.1.getD 0 0=kx at r2 r3 ⊢
  have d1:decide (kx<0)=false:=decide_eq_false (by omega)
  have d2:decide (64≤kx)=false:=decide_eq_false (by omega)
  repeat' (first|refine Rn.p ?_|(with_reducible apply And.intro)|((first|(refine hK _ ?_;clear hK K)|with_reducible intro K hK|refine Rs.p ?_|((with_reducible first|apply oP|apply oQ);exact rfl));try simp only [go_sem,simprocAttr,d1,d2])|((with_reducible refine oD ?_ ?_);kernel_rfl)|((with_reducible intro h);try simp only [go_sem,simprocAttr,d1,d2] at h)|omega|intro h)
  all_goals (first|(show Le _ _;refine Le.of ?_ ?_<;>simp [go_sem,simprocAttr,d1,d2];done)|skip)
 simp only [go_sem,simprocAttr,killM,renM,sW,asN,AObj.ren,AV.rens,AV.ren]
 repeat' (first|refine Rn.p ?_|(with_reducible apply And.intro)|((first|(refine hK _ ?_;clear hK K)|with_reducible intro K hK|refine Rs.p ?_|((with_reducible first|apply oP|apply oQ);exact rfl));try simp only [go_sem,simprocAttr,killM,renM,sW,asN,AObj.ren,AV.rens,AV.ren])|((with_reducible refine oD ?_ ?_);kernel_rfl)|((with_reducible intro h);try simp only [go_sem,simprocAttr,killM,renM,sW,asN,AObj.ren,AV.rens,AV.ren] at h)|omega|intro h)
end Go.Ab
end
