/- A part of the proof. -/
import Derived.Test.YtchjjbfhlchpfaaGreatL5P17
set_option linter.unusedSimpArgs false
set_option linter.unusedVariables false
section
namespace Go.Ab
open Go.Proofs
attribute [local congr] ACall.congr gd.congr Nx.congr
set_option maxRecDepth 20000
set_option maxHeartbeats 8000000
theorem z2 (g:Gr) (hm:aK g=true) (both:Bool) (c:Nat→Bool) (F:Nat) (i0:Int) (hF:∀i:Nat,i<g.es.length→Spec Tryz.prog F (Args [eN i, .ptr 10001 0]) [(10001, .rob [eN i0])] (eB (c i)) [(10001, .rob [eN i0])]) (a0:List Nat) (h0:CV g both c a0):
 Spec Tryz.prog 65 (Args [eG g, .ref 10000,eB both, .fn F [] [.ptr 10001 0]]) [(10000, .own 49 1 (a0.map rU)),(10001, .box [eN i0])] (.tup []) [(10000, .own 49 1 ((zY g both c).map rU)),(10001, .box [eN i0])]:=by
 have hn:=aH hm
 obtain ⟨M,hM⟩:=GA (g:=g) (by omega) both c
 (refine Spec.hd (C:=T.cfg [] []) (rs:= []) (T.ah _ _) Tryz.func65 rfl rfl Tryz.ntmps65 Tryz.results65 (by simp [AObj.isNest]) (by simp [AObj.isNest]) (by kernel_rfl) T.mixed fun X hX hP hC aP ck=> ?_)
 repeat' (first|refine Rn.p ?_|(with_reducible apply And.intro)|((first|(refine hK _ ?_;clear hK K)|with_reducible intro K hK|refine Rs.p ?_|((with_reducible first|apply oP|apply oQ);exact rfl));try simp only [go_sem,simprocAttr])|((with_reducible refine oD ?_ ?_);kernel_rfl)|((with_reducible intro h);try simp only [go_sem,simprocAttr] at h)|omega|intro h)
 refine an (fun s:List Nat × Bool=>CV g both c s.1∧(s.2=false→s.1=zY g both c)) (fun s=>⟨[(1, .ref 10000),(2,eB both),(3, .fn F [] [.ptr 10001 0]),(4, .ptr 4 0),(8,eB s.2)], [(10000, .own 49 1 (s.1.map rU)),(10001, .box [eN i0]),(4, .box [eN g.n, .d (sE g.es)])]⟩) (fun s=>2*(M - tF s.1)+(if s.2=true then 1 else 0)) (a0,true) ⟨h0,by simp⟩ ?_ ?_
 ·refine Le.of ?_ ?_<;>simp [go_sem,simprocAttr]
 rintro ⟨a,more⟩ ⟨hG,pR⟩
 simp only at hG pR ⊢
 cases more with
 |false=>
  have:=pR rfl
  subst this
  repeat' (first|refine Rn.p ?_|(with_reducible apply And.intro)|((first|(refine hK _ ?_;clear hK K)|with_reducible intro K hK|refine Rs.p ?_|((with_reducible first|apply oP|apply oQ);exact rfl));try simp only [go_sem,simprocAttr])|((with_reducible refine oD ?_ ?_);kernel_rfl)|((with_reducible intro h);try simp only [go_sem,simprocAttr] at h)|omega|intro h)
 |true=>
 repeat' (first|refine Rn.p ?_|(with_reducible apply And.intro)|((first|(refine hK _ ?_;clear hK K)|with_reducible intro K hK|refine Rs.p ?_|((with_reducible first|apply oP|apply oQ);exact rfl));try simp only [go_sem,simprocAttr])|((with_reducible refine oD ?_ ?_);kernel_rfl)|((with_reducible intro h);try simp only [go_sem,simprocAttr] at h)|omega|intro h)
 refine an (fun k:Nat=>k≤g.es.length) (fun k=>⟨[(1, .ref 10000),(2,eB both),(3, .fn F [] [.ptr 10001 0]),(4, .ptr 4 0),(8,eB (bE g both c a k).2),(15, .d (sE g.es)),(16,eN g.es.length),(17,eN k)], [(10000, .own 49 1 ((bE g both c a k).1.map rU)),(10001, .box [eN i0]),(4, .box [eN g.n, .d (sE g.es)])]⟩) (fun k=>g.es.length - k) 0 (by omega) ?_ ?_
 ·refine Le.of ?_ ?_<;>simp [go_sem,simprocAttr,bE]
 rintro k hk
 rcases Nat.lt_or_ge k g.es.length with hlt|hge
 rotate_left
 ·have hb:decide ((k:Int)<(g.es.length:Int))=false:=decide_eq_false (by omega)
  obtain rfl:k=g.es.length:=by omega
  obtain ⟨i1,_⟩:=gU hm hG (Nat.le_refl g.es.length)
  have KR:=zZ hm hG
  have He:=iw (g:=g) (both:=both) (c:=c) (a:=a) (k:=g.es.length)
  have hdone:=Cw hm hG
  have Au:=hM _ i1
  generalize bE g both c a g.es.length=R at*
  repeat' (first|refine Rn.p ?_|(with_reducible apply And.intro)|((first|(refine hK _ ?_;clear hK K)|with_reducible intro K hK|refine Rs.p ?_|((with_reducible first|apply oP|apply oQ);exact rfl));try simp only [go_sem,simprocAttr,hb])|((with_reducible refine oD ?_ ?_);kernel_rfl)|((with_reducible intro h);try simp only [go_sem,simprocAttr,hb] at h)|omega|intro h)
  refine ⟨(R.1,R.2),⟨i1,fun hf=> ?_⟩, ?_, ?_⟩
  ·rw [(He hf).1];exact hdone hf
  ·refine Le.of ?_ ?_<;>simp [go_sem,simprocAttr,hb]
  ·cases OG:R.2 with
   |true=>have:=KR OG;simp;omega
   |false=>rw [(He OG).1];simp
 have hb:decide ((k:Int)<(g.es.length:Int))=true:=decide_eq_true (by omega)
 obtain ⟨LI,_⟩:=gU hm hG (k:=k) (by omega)
 obtain ⟨ht,hh⟩:=dg hm hlt
 have KS:=hF k hlt
 have CW:=LI.len
 have Cr:=LI.lt (by omega)
 obtain ⟨x,hx⟩:∃x:Nat,(g.es.getD k (0,0)).1=x:=⟨(g.es.getD k (0,0)).1.toNat,by omega⟩
 obtain ⟨y,hy⟩:∃y:Nat,(g.es.getD k (0,0)).2=y:=⟨(g.es.getD k (0,0)).2.toNat,by omega⟩
 have htl:(tl g k).toNat=x:=by show ((g.es.getD k (0,0)).1).toNat=x;rw [hx];rfl
 have Ir:(hd g k).toNat=y:=by show ((g.es.getD k (0,0)).2).toNat=y;rw [hy];rfl
 have dN:bE g both c a (k+1)=if c k=true then ((((bE g both c a k).1.set x ((bE g both c a k).1.getD x 0 ||| (bE g both c a k).1.getD y 0)).set y (if both=true then (bE g both c a k).1.getD x 0 ||| (bE g both c a k).1.getD y 0 else (bE g both c a k).1.getD y 0)),(bE g both c a k).2||(decide ((bE g both c a k).1.getD x 0 ||| (bE g both c a k).1.getD y 0≠(bE g both c a k).1.getD x 0)||decide ((if both=true then (bE g both c a k).1.getD x 0 ||| (bE g both c a k).1.getD y 0 else (bE g both c a k).1.getD y 0)≠(bE g both c a k).1.getD y 0))) else bE g both c a k:=by
  simp only [bE,htl,Ir]
 generalize bE g both c a k=R at LI CW Cr dN
 obtain ⟨A,m1⟩:=R
 simp only at LI CW Cr dN ⊢
 have QW:=Cr x
 have QX:=Cr y
 cases hc:c k with
 |false=>
  rw [hc] at KS dN
  repeat' (first|refine Rn.p ?_|(with_reducible apply And.intro)|((first|(refine hK _ ?_;clear hK K)|with_reducible intro K hK|refine Rs.p ?_|((with_reducible first|apply oP|apply oQ);exact rfl)|(refine bt hX hC hP [(10001,10001)] (KS) rfl rfl rfl ?_ ?_ ?_ ?_ ?_ ?_ rfl rfl ?_ ?_;(focus (simp only [go_sem,simprocAttr,hb,hx,hy];done));(iterate 6 (focus (simp [go_sem,simprocAttr,hb,hx,hy];done)));try simp only [List.map_cons,List.map_nil]));try simp only [go_sem,simprocAttr,hb,hx,hy])|((with_reducible refine oD ?_ ?_);kernel_rfl)|((with_reducible intro h);try simp only [go_sem,simprocAttr,hb,hx,hy] at h)|omega|intro h)
  refine ⟨k+1,by omega, ?_,by omega⟩
  rw [dN]
  refine Le.of ?_ ?_<;>simp [go_sem,simprocAttr,hb,hx,hy]
 |true=>
  rw [hc] at KS dN
  rw [if_pos rfl] at dN
  have n1:=OF (a:=A.getD x 0 ||| A.getD y 0) (b:=A.getD x 0)
  have n2:=OF (a:=if both=true then A.getD x 0 ||| A.getD y 0 else A.getD y 0) (b:=A.getD y 0)
  have NL:A.getD x 0 ||| A.getD y 0<18446744073709551616:=Nat.or_lt_two_pow (n:=64) QW QX
  have D8:(A.set x (A.getD x 0 ||| A.getD y 0)).length=A.length:=List.length_set ..
  generalize zi:A.getD x 0 ||| A.getD y 0=t at n1 n2 dN NL D8
  generalize OH:decide (t≠A.getD x 0)=d1 at n1 dN
  cases both with
  |true=>
   rw [if_pos rfl] at n2 dN
   generalize wN:decide (t≠A.getD y 0)=d2 at n2 dN
   clear OH wN
   cases m1<;>cases d1<;>cases d2<;>simp only [Bool.or_false,Bool.or_true,Bool.false_or,Bool.true_or] at dN
   all_goals (repeat' (first|refine Rn.p ?_|(with_reducible apply And.intro)|((first|(refine hK _ ?_;clear hK K)|with_reducible intro K hK|refine Rs.p ?_|((with_reducible first|apply oP|apply oQ);exact rfl)|(refine bt hX hC hP [(10001,10001)] (KS) rfl rfl rfl ?_ ?_ ?_ ?_ ?_ ?_ rfl rfl ?_ ?_;(focus (simp only [go_sem,simprocAttr,hb,hx,hy,zi,n1,n2,CW,iX,List.length_set];done));(iterate 6 (focus (simp [go_sem,simprocAttr,hb,hx,hy,zi,n1,n2,CW,iX,List.length_set];done)));try simp only [List.map_cons,List.map_nil]));try simp only [go_sem,simprocAttr,hb,hx,hy,zi,n1,n2,CW,iX,List.length_set])|((with_reducible refine oD ?_ ?_);kernel_rfl)|((with_reducible intro h);try simp only [go_sem,simprocAttr,hb,hx,hy,zi,n1,n2,CW,iX,List.length_set] at h)|omega|intro h))
   all_goals (refine ⟨k+1,by omega, ?_,by omega⟩)
   all_goals (rw [dN])
   all_goals (refine Le.of ?_ ?_<;>simp [go_sem,simprocAttr,hb,hx,hy,zi,n1,n2,CW,iX,List.length_set])
  |false=>
   rw [if_neg (by simp)] at n2 dN
   have wN:decide (A.getD y 0≠A.getD y 0)=false:=decide_eq_false fun h=>h rfl
   rw [wN] at n2 dN
   clear OH
   cases m1<;>cases d1<;>simp only [Bool.or_false,Bool.or_true,Bool.false_or,Bool.true_or] at dN
   all_goals (repeat' (first|refine Rn.p ?_|(with_reducible apply And.intro)|((first|(refine hK _ ?_;clear hK K)|with_reducible intro K hK|refine Rs.p ?_|((with_reducible first|apply oP|apply oQ);exact rfl)|(refine bt hX hC hP [(10001,10001)] (KS) rfl rfl rfl ?_ ?_ ?_ ?_ ?_ ?_ rfl rfl ?_ ?_;(focus (simp only [go_sem,simprocAttr,hb,hx,hy,zi,n1,n2,CW,iX,List.length_set];done));(iterate 6 (focus (simp [go_sem,simprocAttr,hb,hx,hy,zi,n1,n2,CW,iX,List.length_set];done)));try simp only [List.map_cons,List.map_nil]));try simp only [go_sem,simprocAttr,hb,hx,hy,zi,n1,n2,CW,iX,List.length_set])|((with_reducible refine oD ?_ ?_);kernel_rfl)|((with_reducible intro h);try simp only [go_sem,simprocAttr,hb,hx,hy,zi,n1,n2,CW,iX,List.length_set] at h)|omega|intro h))
   all_goals (refine ⟨k+1,by omega, ?_,by omega⟩)
   all_goals (rw [dN])
   all_goals (refine Le.of ?_ ?_<;>simp [go_sem,simprocAttr,hb,hx,hy,zi,n1,n2,CW,iX,List.length_set])
theorem EY (i k:Int):Spec Tryz.prog 87 (Args [eN k, .ptr 10001 0]) [(10001, .rob [eN i])] (eB (!decide (k=i))) [(10001, .rob [eN i])]:=by
 (refine Spec.hd (C:=T.cfg [] []) (rs:= [.t 3]) (T.ah _ _) Tryz.func87 rfl rfl Tryz.ntmps87 Tryz.results87 (by simp [AObj.isNest]) (by simp [AObj.isNest]) (by kernel_rfl) T.mixed fun X hX hP hC aP ck=> ?_)
 repeat' (first|refine Rn.p ?_|(with_reducible apply And.intro)|((first|(refine hK _ ?_;clear hK K)|with_reducible intro K hK|refine Rs.p ?_|((with_reducible first|apply oP|apply oQ);exact rfl));try simp only [go_sem,simprocAttr])|((with_reducible refine oD ?_ ?_);kernel_rfl)|((with_reducible intro h);try simp only [go_sem,simprocAttr] at h)|omega|intro h)
def qa (i:Nat) (k:Nat):Bool:= !decide ((k:Int)=(i:Int))
noncomputable def wT (g:Gr) (i:Nat):Bool:=((zY g false (qa i)).getD (tl g i).toNat 0).testBit (hd g i).toNat
noncomputable def z6 (g:Gr) (k:Nat):List Int:=((List.range k).filter fun i=>wT g i).map fun i:Nat=>(i:Int)
noncomputable def gE (g:Gr):List Int:=if aK g=true then z6 g g.es.length else []
theorem nW {g:Gr} {k:Nat} :z6 g (k+1)=if wT g k=true then z6 g k++ [(k:Int)] else z6 g k:=by
 unfold z6
 rw [List.range_succ,List.filter_append,List.map_append]
 cases h:wT g k with
 |true=>rw [if_pos rfl,List.filter_cons,if_pos h];rfl
 |false=>rw [if_neg (by simp),List.filter_cons,if_neg (by rw [h];decide)];simp
theorem Be {g:Gr} {k:Nat} :(z6 g k).length≤k:=by
 unfold z6
 rw [List.length_map]
 exact Nat.le_trans (List.length_filter_le _ _) (by simp)
theorem Bf (g:Gr) (hl:g.es.length≤9223372036854775807):Spec Tryz.prog 42 (Args [eG g]) [] (.d (sI (gE g))) []:=by
 have hE:=z1 g hl
 (refine Spec.hd (C:=T.cfg [200,34,33] []) (rs:= [.t 2]) (T.ah _ _) Tryz.func42 rfl rfl Tryz.ntmps42 Tryz.results42 (by simp [AObj.isNest]) (by simp [AObj.isNest]) (by kernel_rfl) T.mixed fun X hX hP hC aP ck=> ?_)
 repeat' (first|(show cj _ (.seq (.region 1 _ _) _) _ _;(refine c8 hX 2 200 (.own 3 1 []) ?_ ?_ (by decide) ⟨3,1,by decide, .inl rfl⟩ ?_;(iterate 2 (focus (simp only [go_sem,simprocAttr];done)));simp only [go_sem,simprocAttr]))|refine Rn.p ?_|(with_reducible apply And.intro)|((first|(refine hK _ ?_;clear hK K)|with_reducible intro K hK|refine Rs.p ?_|((with_reducible first|apply oP|apply oQ);exact rfl));try simp only [go_sem,simprocAttr])|((with_reducible refine oD ?_ ?_);kernel_rfl)|((with_reducible intro h);try simp only [go_sem,simprocAttr] at h)|omega|intro h)
 have hm0:aK g=false→gE g= []:=fun h=>by unfold gE;rw [h];rfl
 cases hm:aK g with
 |false=>
  have hU:iR g= []:=by unfold iR;rw [hm];rfl
  rw [hU] at hE
  rw [hm0 hm]
  cases yZ:g.es with
  |nil=>
   refine an (fun k:Nat=>k=0) (fun _=>⟨[(1, .ptr 1 0),(2, .ref 200),(7, .d (sE [])),(8,eN 0),(9,eN 0)], [(1, .box [eN g.n, .d (sE [])]),(200, .own 3 1 [])]⟩) (fun _=>0) 0 rfl ?_ ?_
   ·refine Le.of ?_ ?_<;>simp [go_sem,simprocAttr,yZ]
   rintro k rfl
   repeat' (first|refine Rn.p ?_|(with_reducible apply And.intro)|((first|(refine hK _ ?_;clear hK K)|with_reducible intro K hK|refine Rs.p ?_|((with_reducible first|apply oP|apply oQ);exact rfl));try simp only [go_sem,simprocAttr])|((with_reducible refine oD ?_ ?_);kernel_rfl)|((with_reducible intro h);try simp only [go_sem,simprocAttr] at h)|omega|intro h)
  |cons q r=>
   have hq:g.es.length=r.length+1:=by rw [yZ];rfl
   have hb:decide ((0:Int)<((r.length+1:Nat):Int))=true:=decide_eq_true (by omega)
   refine an (fun k:Nat=>k=0) (fun _=>⟨[(1, .ptr 1 0),(2, .ref 200),(7, .d (sE g.es)),(8,eN ((r.length+1:Nat):Int)),(9,eN 0)], [(1, .box [eN g.n, .d (sE g.es)]),(200, .own 3 1 [])]⟩) (fun _=>0) 0 rfl ?_ ?_
   ·refine Le.of ?_ ?_<;>simp [go_sem,simprocAttr,yZ]
   rintro k rfl
   repeat' (first|refine Rn.p ?_|(with_reducible apply And.intro)|((first|(refine hK _ ?_;clear hK K)|with_reducible intro K hK|refine Rs.p ?_|((with_reducible first|apply oP|apply oQ);exact rfl)|(refine gv hX hC hP 15 (hE) rfl rfl rfl ?_ ?_ (by first|exact ⟨_,_,_,rfl,sy⟩|exact ⟨_,_,_,rfl,sC⟩|exact ⟨_,_,_,rfl,sG⟩) rfl (by decide) ?_;(iterate 2 (focus (simp only [go_sem,simprocAttr,hb];done)));simp only [go_sem,simprocAttr,hb]));try simp only [go_sem,simprocAttr,hb])|((with_reducible refine oD ?_ ?_);kernel_rfl)|((with_reducible intro h);try simp only [go_sem,simprocAttr,hb] at h)|omega|intro h)
 |true=>
  have hn:=aH hm
  have he:(iR g).length=g.n.toNat:=by unfold iR;rw [if_pos hm];exact tG
  have hb0:decide ((g.n.toNat:Int)=0)=false:=decide_eq_false (by omega)
  have hT:gE g=z6 g g.es.length:=if_pos hm
  rw [hT]
  have hG:=fun i:Nat=>z2 g hm false (qa i) 87 (i:Int) (fun k _=>EY (i:Int) (k:Int)) (iR g) (Cz hm)
  generalize iR g=U at hE he hG
  refine an (fun k:Nat=>k≤g.es.length) (fun k=>⟨[(1, .ptr 1 0),(2, .ref 200),(7, .d (sE g.es)),(8,eN g.es.length),(9,eN k)], [(1, .box [eN g.n, .d (sE g.es)]),(200, .own 3 1 ((z6 g k).map rI))]⟩) (fun k=>g.es.length - k) 0 (by omega) ?_ ?_
  ·refine Le.of ?_ ?_<;>simp [go_sem,simprocAttr,z6]
  rintro k hk
  rcases Nat.lt_or_ge k g.es.length with hlt|hge
  rotate_left
  ·have hb:decide ((k:Int)<(g.es.length:Int))=false:=decide_eq_false (by omega)
   obtain rfl:k=g.es.length:=by omega
   repeat' (first|refine Rn.p ?_|(with_reducible apply And.intro)|((first|(refine hK _ ?_;clear hK K)|with_reducible intro K hK|refine Rs.p ?_|((with_reducible first|apply oP|apply oQ);exact rfl));try simp only [go_sem,simprocAttr,hb])|((with_reducible refine oD ?_ ?_);kernel_rfl)|((with_reducible intro h);try simp only [go_sem,simprocAttr,hb] at h)|omega|intro h)
  have hb:decide ((k:Int)<(g.es.length:Int))=true:=decide_eq_true (by omega)
  have NM:=hG k
  have dN:=nW (g:=g) (k:=k)
  have Ec:=Be (g:=g) (k:=k)
  obtain ⟨ht,hh⟩:=dg hm hlt
  obtain ⟨x,hx⟩:∃x:Nat,(g.es.getD k (0,0)).1=x:=⟨(g.es.getD k (0,0)).1.toNat,by omega⟩
  obtain ⟨y,hy⟩:∃y:Nat,(g.es.getD k (0,0)).2=y:=⟨(g.es.getD k (0,0)).2.toNat,by omega⟩
  rw [hx] at ht
  rw [hy] at hh
  have Jg:wT g k=((zY g false (qa k)).getD x 0).testBit y:=by
   unfold wT
   rw [show (tl g k).toNat=x by show ((g.es.getD k (0,0)).1).toNat=x;rw [hx];rfl,show (hd g k).toNat=y by show ((g.es.getD k (0,0)).2).toNat=y;rw [hy];rfl]
  have hrl:(zY g false (qa k)).length=g.n.toNat:=qB
  have hH:=Cx ((zY g false (qa k)).getD x 0) (by
   rw [wR (by omega)]
   exact Nat.lt_of_lt_of_le Gy (Nat.pow_le_pow_right (by decide) (show g.n.toNat≤64 by omega))) (y:Int)
  rw [show (decide ((0:Int)≤(y:Int))&&decide ((y:Int)<64)&&((zY g false (qa k)).getD x 0).testBit ((y:Int)).toNat)=wT g k by
   rw [Jg,decide_eq_true (show (0:Int)≤(y:Int) by omega),decide_eq_true (show (y:Int)<64 by omega)];rfl] at hH
  generalize zY g false (qa k)=R at NM hrl hH
  generalize z6 g k=O at dN Ec
  cases hB:wT g k with
  |true=>
   rw [hB] at hH
   rw [hB,if_pos rfl] at dN
   repeat' (first|(show cj _ (.region 10 _ _) _ _;(refine DO hX 2 34 200 (by simp only [go_sem,simprocAttr,hb,hb0,he,hx,hy,hrl]) rfl (by first|exact .inl rfl|exact .inr rfl) (by decide) ?_;simp only [go_sem,simprocAttr,hb,hb0,he,hx,hy,hrl]))|refine Rn.p ?_|(with_reducible apply And.intro)|((first|(refine hK _ ?_;clear hK K)|with_reducible intro K hK|refine Rs.p ?_|((with_reducible first|apply oP|apply oQ);exact rfl)|(refine gv hX hC hP 15 (hE) rfl rfl rfl ?_ ?_ (by first|exact ⟨_,_,_,rfl,sy⟩|exact ⟨_,_,_,rfl,sC⟩|exact ⟨_,_,_,rfl,sG⟩) rfl (by decide) ?_;(iterate 2 (focus (simp only [go_sem,simprocAttr,hb,hb0,he,hx,hy,hrl];done)));simp only [go_sem,simprocAttr,hb,hb0,he,hx,hy,hrl])|(refine aj hX hC hP [(10000,15),(10001,3)] (NM) rfl rfl rfl ?_ ?_ ?_ ?_ ?_ ?_ ?_ ?_ ?_ ?_ ?_ ?_ ?_ ?_;(focus (simp only [go_sem,simprocAttr,hb,hb0,he,hx,hy,hrl];done));(iterate 12 (focus (simp [go_sem,simprocAttr,hb,hb0,he,hx,hy,hrl];done)));try simp only [List.map_cons,List.map_nil])|refine aa hX hC hP (hH) rfl rfl rfl (by simp only [go_sem,simprocAttr,hb,hb0,he,hx,hy,hrl]) rfl ?_);try simp only [go_sem,simprocAttr,hb,hb0,he,hx,hy,hrl])|((with_reducible refine oD ?_ ?_);kernel_rfl)|((with_reducible intro h);try simp only [go_sem,simprocAttr,hb,hb0,he,hx,hy,hrl] at h)|omega|intro h)
   refine ⟨k+1,by omega, ?_,by omega⟩
   rw [dN]
   refine Le.of ?_ ?_<;>simp [go_sem,simprocAttr,hb,hb0,he,hx,hy,hrl,rI]
  |false=>
   rw [hB] at hH
   rw [hB,if_neg (by simp)] at dN
   repeat' (first|refine Rn.p ?_|(with_reducible apply And.intro)|((first|(refine hK _ ?_;clear hK K)|with_reducible intro K hK|refine Rs.p ?_|((with_reducible first|apply oP|apply oQ);exact rfl)|(refine gv hX hC hP 15 (hE) rfl rfl rfl ?_ ?_ (by first|exact ⟨_,_,_,rfl,sy⟩|exact ⟨_,_,_,rfl,sC⟩|exact ⟨_,_,_,rfl,sG⟩) rfl (by decide) ?_;(iterate 2 (focus (simp only [go_sem,simprocAttr,hb,hb0,he,hx,hy,hrl];done)));simp only [go_sem,simprocAttr,hb,hb0,he,hx,hy,hrl])|(refine aj hX hC hP [(10000,15),(10001,3)] (NM) rfl rfl rfl ?_ ?_ ?_ ?_ ?_ ?_ ?_ ?_ ?_ ?_ ?_ ?_ ?_ ?_;(focus (simp only [go_sem,simprocAttr,hb,hb0,he,hx,hy,hrl];done));(iterate 12 (focus (simp [go_sem,simprocAttr,hb,hb0,he,hx,hy,hrl];done)));try simp only [List.map_cons,List.map_nil])|refine aa hX hC hP (hH) rfl rfl rfl (by simp only [go_sem,simprocAttr,hb,hb0,he,hx,hy,hrl]) rfl ?_);try simp only [go_sem,simprocAttr,hb,hb0,he,hx,hy,hrl])|((with_reducible refine oD ?_ ?_);kernel_rfl)|((with_reducible intro h);try simp only [go_sem,simprocAttr,hb,hb0,he,hx,hy,hrl] at h)|omega|intro h)
   refine ⟨k+1,by omega, ?_,by omega⟩
   rw [dN]
   refine Le.of ?_ ?_<;>simp [go_sem,simprocAttr,hb,hb0,he,hx,hy,hrl]
end Go.Ab
end
section
namespace Go.Ab
open Go.Proofs
attribute [local congr] ACall.congr gd.congr Nx.congr
set_option maxRecDepth 10000
set_option maxHeartbeats 8000000
def swapT (l:List It) (k:Nat):List It:=(List.range l.length).map fun p=>if p<k∨l.length - 1<p+k then l.getD (l.length - 1 - p) (0,0,0) else l.getD p (0,0,0)
theorem cE {l:List It} {k:Nat} :(swapT l k).length=l.length:=by simp [swapT]
theorem jF {l:List It} {k p:Nat} (h:p<l.length):(swapT l k)[p]? =some (if p<k∨l.length - 1<p+k then l.getD (l.length - 1 - p) (0,0,0) else l.getD p (0,0,0)):=by
 simp [swapT,List.getElem?_range h]
theorem tH {l:List It} {k p:Nat} (h:p<l.length) (d:It):(swapT l k).getD p d=if p<k∨l.length - 1<p+k then l.getD (l.length - 1 - p) (0,0,0) else l.getD p (0,0,0):=by
 rw [List.getD_eq_getElem?_getD,jF h];rfl
theorem z7 {l:List It} :swapT l 0=l:=by
 refine List.ext_getElem? fun i=> ?_
 by_cases hi:i<l.length
 ·rw [jF hi,if_neg (by omega),List.getD_eq_getElem?_getD,List.getElem?_eq_getElem hi];rfl
 ·rw [List.getElem?_eq_none (by rw [cE];omega),List.getElem?_eq_none (by omega)]
theorem CA {l:List It} {k:Nat} (h:l.length≤2*k+1):swapT l k=l.reverse:=by
 refine List.ext_getElem? fun i=> ?_
 by_cases hi:i<l.length
 ·rw [jF hi,List.getElem?_reverse hi]
  split
  ·rw [List.getD_eq_getElem?_getD,List.getElem?_eq_getElem (by omega)];rfl
  ·have:i=l.length - 1 - i:=by omega
   rw [← this,List.getD_eq_getElem?_getD,List.getElem?_eq_getElem hi];rfl
 ·rw [List.getElem?_eq_none (by rw [cE];omega),List.getElem?_eq_none (by rw [List.length_reverse];omega)]
theorem z8 {l:List It} {k:Nat} (h:k<l.length - 1 - k):((swapT l k).set k ((swapT l k).getD (l.length - 1 - k) (0,0,0))).set (l.length - 1 - k) ((swapT l k).getD k (0,0,0))=swapT l (k+1):=by
 refine List.ext_getElem? fun i=> ?_
 rw [List.getElem?_set,List.length_set,cE,List.getElem?_set,cE]
 by_cases hi:i<l.length
 ·rw [jF hi,jF hi,tH (by omega),tH (by omega)]
  by_cases h1:l.length - 1 - k=i
  ·rw [if_pos h1,if_pos (by omega),if_neg (by omega),if_pos (by omega)]
   congr 2;omega
  ·rw [if_neg h1]
   by_cases h2:k=i
   ·rw [if_pos h2,if_pos (by omega),if_neg (by omega),if_pos (by omega)]
    congr 2;omega
   ·rw [if_neg h2]
    congr 1
    by_cases h3:i<k∨l.length - 1<i+k
    ·rw [if_pos h3,if_pos (by omega)]
    ·rw [if_neg h3,if_neg (by omega)]
 ·rw [List.getElem?_eq_none (by rw [cE];omega),List.getElem?_eq_none (by rw [cE];omega),if_neg (by omega),if_neg (by omega)]
theorem EZ (l:List It) (k:Nat) (t:It):(l.map rT).set k [.sc (.int .i64 t.1), .sc (.int .i64 t.2.1), .sc (.int .i64 t.2.2)]=(l.set k t).map rT:=by
 rw [List.map_set];rfl
theorem tZ (l:List It) (hl:l.length≤1000000):Spec Tryz.prog 63 (Args [.ref 10000]) [(10000, .own 100 3 (l.map rT))] (.tup []) [(10000, .own 100 3 (l.reverse.map rT))]:=by
 (refine Spec.hd (C:=T.cfg [] []) (rs:= []) (T.ah _ _) Tryz.func63 rfl rfl Tryz.ntmps63 Tryz.results63 (by simp [AObj.isNest]) (by simp [AObj.isNest]) (by kernel_rfl) T.mixed fun X hX hP hC aP ck=> ?_)
 repeat' (first|refine Rn.p ?_|(with_reducible apply And.intro)|((first|(refine hK _ ?_;clear hK K)|with_reducible intro K hK|refine Rs.p ?_|((with_reducible first|apply oP|apply oQ);exact rfl));try simp only [go_sem,simprocAttr])|((with_reducible refine oD ?_ ?_);kernel_rfl)|((with_reducible intro h);try simp only [go_sem,simprocAttr] at h)|omega|intro h)
 refine an (fun k:Nat=>2*k≤l.length+1) (fun k=>⟨[(0, .ref 10000),(2,eN k),(3,eN ((l.length:Int) - 1 - k))], [(10000, .own 100 3 ((swapT l k).map rT))]⟩) (fun k=>l.length+1 - k) 0 (by omega) ?_ ?_
 ·refine Le.of ?_ ?_<;>simp [go_sem,simprocAttr,z7]
 rintro k hk
 rcases Nat.lt_or_ge (2*k+1) l.length with hlt|hge
 ·have hb:decide ((k:Int)<(l.length:Int) - 1 - (k:Int))=true:=decide_eq_true (by omega)
  have ht:((l.length:Int) - 1 - (k:Int)).toNat=l.length - 1 - k:=by omega
  repeat' (first|refine Rn.p ?_|(with_reducible apply And.intro)|((first|(refine hK _ ?_;clear hK K)|with_reducible intro K hK|refine Rs.p ?_|((with_reducible first|apply oP|apply oQ);exact rfl));try simp only [go_sem,simprocAttr,hb,ht,cE,EZ,List.length_cons,List.length_nil,List.drop_succ_cons,List.drop_zero,List.drop_nil])|((with_reducible refine oD ?_ ?_);kernel_rfl)|((with_reducible intro h);try simp only [go_sem,simprocAttr,hb,ht,cE,EZ,List.length_cons,List.length_nil,List.drop_succ_cons,List.drop_zero,List.drop_nil] at h)|omega|intro h)
  refine ⟨k+1,by omega, ?_,by omega⟩
  refine Le.of ?_ ?_<;>simp [go_sem,simprocAttr]
  ·omega
  ·rw [← z8 (by omega),List.map_set,List.map_set]
   simp only [List.getD_eq_getElem?_getD]
   rfl
 ·have hb:decide ((k:Int)<(l.length:Int) - 1 - (k:Int))=false:=decide_eq_false (by omega)
  repeat' (first|refine Rn.p ?_|(with_reducible apply And.intro)|((first|(refine hK _ ?_;clear hK K)|with_reducible intro K hK|refine Rs.p ?_|((with_reducible first|apply oP|apply oQ);exact rfl));try simp only [go_sem,simprocAttr,hb])|((with_reducible refine oD ?_ ?_);kernel_rfl)|((with_reducible intro h);try simp only [go_sem,simprocAttr,hb] at h)|omega|intro h)
  simp only [go_sem,simprocAttr,hb,CA hge]
theorem yI (ps:List It) (hl:ps.length≤1000000):
 Spec Tryz.prog 127 (Args [.d (sT ps)]) [] (.ref 10000) [(10000, .own 100 3 (ps.map rT))]:=by
 (refine Spec.rH (C:=T.cfg [5,7] []) (rs:= [.t 2]) [(10000,7)] (T.ah _ _) Tryz.func127 rfl rfl Tryz.ntmps127 Tryz.results127 (by simp [AObj.isNest]) (by simp [AObj.isNest]) (by first|(simp [look];done)|(simp [asN];done)|(intro l hl;simp only [asN];repeat (rw [if_neg (fun e=>by subst e;simp [look] at hl)]))) (by first|(simp [look];done)|(simp [asN];done)|(intro l hl;simp only [asN];repeat (rw [if_neg (fun e=>by subst e;simp [look] at hl)]))) (by kernel_rfl) T.mixed fun X hX hP hC aP ck=> ?_)
 repeat' (first|(show cj _ .ret _ _;(try simp only [go_sem,simprocAttr]);refine c8 hX 2 7 (.own 100 3 []) ?_ ?_ (by decide) ⟨100,3,by decide, .inl rfl⟩ ?_;(iterate 2 (focus (simp only [go_sem,simprocAttr];done)));simp only [go_sem,simprocAttr])|refine Rn.p ?_|(with_reducible apply And.intro)|((first|(refine hK _ ?_;clear hK K)|with_reducible intro K hK|refine Rs.p ?_|((with_reducible first|apply oP|apply oQ);exact rfl));try simp only [go_sem,simprocAttr])|((with_reducible refine oD ?_ ?_);kernel_rfl)|((with_reducible intro h);try simp only [go_sem,simprocAttr] at h)|omega|intro h)
 exact h.symm
theorem CB (ds:List D) (row:List It) (hr:row.length≤1000000):Spec Tryz.prog 84 (Args [.d (.pt (sT row::ds))]) [] (.ref 10000) [(10000, .own 100 3 (row.map rT))]:=by
 (refine Spec.rH (C:=T.cfg [] []) (rs:= [.t 2]) [(10000,7)] (T.ah _ _) Tryz.func84 rfl rfl Tryz.ntmps84 Tryz.results84 (by simp [AObj.isNest]) (by simp [AObj.isNest]) (by first|(simp [look];done)|(simp [asN];done)|(intro l hl;simp only [asN];repeat (rw [if_neg (fun e=>by subst e;simp [look] at hl)]))) (by first|(simp [look];done)|(simp [asN];done)|(intro l hl;simp only [asN];repeat (rw [if_neg (fun e=>by subst e;simp [look] at hl)]))) (by kernel_rfl) T.mixed fun X hX hP hC aP ck=> ?_)
 repeat' (first|refine Rn.p ?_|(with_reducible apply And.intro)|((first|(refine hK _ ?_;clear hK K)|with_reducible intro K hK|refine Rs.p ?_|((with_reducible first|apply oP|apply oQ);exact rfl)|(refine aj hX hC hP [(10000,7)] (yI row hr) rfl rfl rfl ?_ ?_ ?_ ?_ ?_ ?_ ?_ ?_ ?_ ?_ ?_ ?_ ?_ ?_;(focus (simp only [go_sem,simprocAttr];done));(iterate 12 (focus (simp [go_sem,simprocAttr];done)));try simp only [List.map_cons,List.map_nil]));try simp only [go_sem,simprocAttr])|((with_reducible refine oD ?_ ?_);kernel_rfl)|((with_reducible intro h);try simp only [go_sem,simprocAttr] at h)|omega|intro h)
def uZ (rs:List Int) (l:List It):Int:=match l.find? (fun t=>decide (t.2.2∈rs)) with
 |some t=>t.2.2
 |none=>rs.headD (-1)
theorem CC (rs:List Int) (l:List It) (hr:rs≠ []) (hrl:rs.length≤1000000) (hl:l.length≤1000000):Spec Tryz.prog 112 (Args [.d (sI rs), .d (sT l)]) [] (eN (uZ rs l)) []:=by
 generalize hH:uZ rs l=H
 (refine Spec.hd (C:=T.cfg [] []) (rs:= [.t 4]) (T.ah _ _) Tryz.func112 rfl rfl Tryz.ntmps112 Tryz.results112 (by simp [AObj.isNest]) (by simp [AObj.isNest]) (by kernel_rfl) T.mixed fun X hX hP hC aP ck=> ?_)
 repeat' (first|refine Rn.p ?_|(with_reducible apply And.intro)|((first|(refine hK _ ?_;clear hK K)|with_reducible intro K hK|refine Rs.p ?_|((with_reducible first|apply oP|apply oQ);exact rfl));try simp only [go_sem,simprocAttr])|((with_reducible refine oD ?_ ?_);kernel_rfl)|((with_reducible intro h);try simp only [go_sem,simprocAttr] at h)|omega|intro h)
 refine an (fun k:Nat=>k≤l.length∧∀j,j<k→(l.getD j (0,0,0)).2.2∉rs) (fun k=>⟨[(0, .d (sI rs)),(7, .d (sT l)),(8,eN l.length),(9,eN k)], []⟩) (fun k=>l.length - k) 0 (by simp) ?_ ?_
 ·(refine Le.of ?_ ?_<;>simp [go_sem,simprocAttr])
 rintro k ⟨hk,hg⟩
 rcases Nat.lt_or_ge k l.length with cm|Hv
 ·have hb:decide ((k:Int)<(l.length:Int))=true:=decide_eq_true (by omega)
  by_cases h1:(l.getD k (0,0,0)).2.2∈rs
  ·have hb1:decide ((l.getD k (0,0,0)).2.2∈rs)=true:=decide_eq_true h1
   have:(l.getD k (0,0,0)).2.2=H:=by
    rw [← hH];unfold uZ
    have:l.find? (fun t=>decide (t.2.2∈rs))=some (l.getD k (0,0,0)):=by
     rw [List.find?_eq_some_iff_getElem]
     refine ⟨hb1,k,cm,by rw [List.getD_eq_getElem?_getD,List.getElem?_eq_getElem cm];rfl,fun j hj=> ?_⟩
     have:=hg j hj
     rw [List.getD_eq_getElem?_getD,List.getElem?_eq_getElem (by omega)] at this
     simpa using this
    rw [this]
   have hb2:decide (H∈rs)=true:=by rw [← this];exact hb1
   repeat' (first|refine Rn.p ?_|(with_reducible apply And.intro)|((first|(refine hK _ ?_;clear hK K)|with_reducible intro K hK|refine Rs.p ?_|((with_reducible first|apply oP|apply oQ);exact rfl)|refine aa hX hC hP (aX rs H (by omega)) rfl rfl rfl (by simp only [go_sem,simprocAttr,hb,hb2,this]) rfl ?_);try simp only [go_sem,simprocAttr,hb,hb2,this])|((with_reducible refine oD ?_ ?_);kernel_rfl)|((with_reducible intro h);try simp only [go_sem,simprocAttr,hb,hb2,this] at h)|omega|intro h)
  ·have hb1:decide ((l.getD k (0,0,0)).2.2∈rs)=false:=decide_eq_false h1
   repeat' (first|refine Rn.p ?_|(with_reducible apply And.intro)|((first|(refine hK _ ?_;clear hK K)|with_reducible intro K hK|refine Rs.p ?_|((with_reducible first|apply oP|apply oQ);exact rfl)|refine aa hX hC hP (aX rs (l.getD k (0,0,0)).2.2 (by omega)) rfl rfl rfl (by simp only [go_sem,simprocAttr,hb,hb1]) rfl ?_);try simp only [go_sem,simprocAttr,hb,hb1])|((with_reducible refine oD ?_ ?_);kernel_rfl)|((with_reducible intro h);try simp only [go_sem,simprocAttr,hb,hb1] at h)|omega|intro h)
   refine ⟨k+1,⟨by omega,fun j hj=> ?_⟩, ?_,by omega⟩
   ·by_cases e:j=k
    ·subst e;exact h1
    ·exact hg j (by omega)
   ·(refine Le.of ?_ ?_<;>simp [go_sem,simprocAttr,hb,hb1])
 ·have hb:decide ((k:Int)<(l.length:Int))=false:=decide_eq_false (by omega)
  have hpos:=List.length_pos_iff.2 hr
  have:rs.getD 0 0=H:=by
   rw [← hH];unfold uZ
   have:l.find? (fun t=>decide (t.2.2∈rs))=none:=by
    rw [List.find?_eq_none]
    intro t ht
    obtain ⟨j,hj,rfl⟩:=List.mem_iff_getElem.1 ht
    have:=hg j (by omega)
    rw [List.getD_eq_getElem?_getD,List.getElem?_eq_getElem hj] at this
    simpa using this
   rw [this]
   match rs,hr with
   |a::_,_=>rfl
  repeat' (first|refine Rn.p ?_|(with_reducible apply And.intro)|((first|(refine hK _ ?_;clear hK K)|with_reducible intro K hK|refine Rs.p ?_|((with_reducible first|apply oP|apply oQ);exact rfl));try simp only [go_sem,simprocAttr,hb,this])|((with_reducible refine oD ?_ ?_);kernel_rfl)|((with_reducible intro h);try simp only [go_sem,simprocAttr,hb,this] at h)|omega|intro h)
end Go.Ab
end
section
namespace Go.Ab
open Go.Proofs
attribute [local congr] ACall.congr gd.congr Nx.congr
set_option maxRecDepth 10000
set_option maxHeartbeats 8000000
theorem GB {g:Gr} (hm:aK g=true) {f:Fr} (hi:fe g f) (rev:Bool):uZ (ef g f) (iL rev f.row)=iM g f rev:=by
 unfold uZ iM
 have:(fun t:It=>decide (t.2.2∈ef g f))=fun t:It=>az g f t.2.2:=by
  funext t
  cases h:az g f t.2.2 with
  |true=>exact decide_eq_true ((ga hm hi).2 h)
  |false=>exact decide_eq_false fun h2=>by rw [(ga hm hi).1 h2] at h;cases h
 rw [this]
 rfl
theorem Aa (row:List It):Spec Tryz.prog 62 (Args [.ref 10000]) [(10000, .own 100 3 (row.map rT))] (.tup []) [(10000, .own 100 3 ((iL false row).map rT))]:=by
 (refine Spec.hd (C:=T.cfg [] []) (rs:= []) (T.ah _ _) Tryz.func62 rfl rfl Tryz.ntmps62 Tryz.results62 (by simp [AObj.isNest]) (by simp [AObj.isNest]) (by kernel_rfl) T.mixed fun X hX hP hC aP ck=> ?_)
 repeat' (first|refine Rn.p ?_|(with_reducible apply And.intro)|((first|(refine hK _ ?_;clear hK K)|with_reducible intro K hK|refine Rs.p ?_|((with_reducible first|apply oP|apply oQ);exact rfl));try simp only [go_sem,simprocAttr,iL])|((with_reducible refine oD ?_ ?_);kernel_rfl)|((with_reducible intro h);try simp only [go_sem,simprocAttr,iL] at h)|omega|intro h)
theorem Ac (row:List It) (hl:row.length≤1000000):Spec Tryz.prog 63 (Args [.ref 10000]) [(10000, .own 100 3 (row.map rT))] (.tup []) [(10000, .own 100 3 ((iL true row).map rT))]:=tZ row hl
theorem u5 (g:Gr) (p:Pl) (h:aU g p) (rev:Bool) (F:Nat) (KT:∀row:List It,row.length≤1000000→Spec Tryz.prog F (Args [.ref 10000]) [(10000, .own 100 3 (row.map rT))] (.tup []) [(10000, .own 100 3 ((iL rev row).map rT))]):
 Spec Tryz.prog 61 (Args [eG g, .d (.sl 1 (vI p.outs)), .fn F [] []]) [] (.d (sI (fZ g p rev g.n.toNat))) []:=by
 have hm:=ai h.1
 have hn:=aH hm
 (refine Spec.hd (C:=T.cfg [] []) (rs:= [.t 6]) (T.ah _ _) Tryz.func61 rfl rfl Tryz.ntmps61 Tryz.results61 (by simp [AObj.isNest]) (by simp [AObj.isNest]) (by kernel_rfl) T.mixed fun X hX hP hC aP ck=> ?_)
 repeat' (first|(show cj _ (.seq (.region 3 _ _) _) _ _;(refine xL 15 0 3 rfl rfl rfl ?_;simp only [List.set_cons_zero,List.set_cons_succ,go_sem,simprocAttr]);(refine jd hX 15 2 200 (.tip 3 1 []) rfl rfl rfl (by simp only [go_sem,simprocAttr]) (by decide) (by simp [go_sem,simprocAttr]) ⟨3,1,by decide, .inr rfl⟩ ?_;simp only [List.set_cons_zero,List.set_cons_succ,go_sem,simprocAttr]))|refine Rn.p ?_|(with_reducible apply And.intro)|((first|(refine hK _ ?_;clear hK K)|with_reducible intro K hK|refine Rs.p ?_|((with_reducible first|apply oP|apply oQ);exact rfl)|(refine gY hX hC hP [(10000,15)] (oI g (by omega) h.1 hm) rfl rfl rfl ?_ ?_ ?_ ?_ ?_ ?_ ?_ ?_ ?_ ?_ ?_ ?_ ?_ ?_;(focus (simp only [go_sem,simprocAttr];done));(iterate 12 (focus (simp [go_sem,simprocAttr];done)));try simp only [List.map_cons,List.map_nil]));try simp only [go_sem,simprocAttr])|((with_reducible refine oD ?_ ?_);kernel_rfl)|((with_reducible intro h);try simp only [go_sem,simprocAttr] at h)|omega|intro h)
 have NN:List.replicate g.n.toNat [D.sc (.int .i64 0)]=(fZ g p rev 0).map rI:=by rw [fZ,List.map_replicate];rfl
 rw [NN]
 refine an (fun k:Nat=>k≤g.n.toNat) (fun k=>⟨[(1, .d (.sl 1 (vI p.outs))),(2, .fn F [] []),(7, .ptr 15 0),(9, .ref 20),(22,eN g.n),(23,eN k)], [(15, .box [.d (sT (bI g p rev k).row), .d (vw g), .ref 200]),(200, .tip 3 1 ((bI g p rev k).pl.map rI)),(20, .own 3 1 ((fZ g p rev k).map rI))]⟩) (fun k=>g.n.toNat - k) 0 (by omega) ?_ ?_
 ·refine Le.of ?_ ?_<;>simp [go_sem,simprocAttr,bI]
 rintro k hk
 obtain ⟨hi,cT,_,hrl⟩:=sV h rev hk
 have hmul:k*(g.es.length+1)≤64*129:=Nat.mul_le_mul (by omega) (by omega)
 rcases Nat.lt_or_ge k g.n.toNat with cm|Hv
 rotate_left
 ·have hb:decide ((k:Int)<g.n)=false:=decide_eq_false (by omega)
  obtain rfl:k=g.n.toNat:=by omega
  repeat' (first|refine Rn.p ?_|(with_reducible apply And.intro)|((first|(refine hK _ ?_;clear hK K)|with_reducible intro K hK|refine Rs.p ?_|((with_reducible first|apply oP|apply oQ);exact rfl));try simp only [go_sem,simprocAttr,hb])|((with_reducible refine oD ?_ ?_);kernel_rfl)|((with_reducible intro h);try simp only [go_sem,simprocAttr,hb] at h)|omega|intro h)
 have hb:decide ((k:Int)<g.n)=true:=decide_eq_true (by omega)
 obtain ⟨hR,hne⟩:=zS h rev cm
 have GW:=aC hR
 have je:(ef g (bI g p rev k)).length≤64:=by have:=sH (g:=g) (f:=bI g p rev k) (k:=g.n.toNat);unfold ef;omega
 have hpe:=GB hm hi.tofe rev
 have hlo:(iL rev (bI g p rev k).row).length=(bI g p rev k).row.length:=by unfold iL;split<;>simp
 have LJ:=CC (ef g (bI g p rev k)) (iL rev (bI g p rev k).row) hne (by omega) (by omega)
 rw [hpe] at LJ
 clear hpe
 have QY:=CB [vw g,sI (bI g p rev k).pl] (bI g p rev k).row (by omega)
 have OI:=KT (bI g p rev k).row (by omega)
 have OJ:=x5 g hm (bI g p rev k) (by omega) (by omega)
 have ID:=bH h.2.1 GW.1 GW.2.1
 have qg:=qv h.2.1 GW.1 GW.2.1
 have dN:bI g p rev (k+1)=(aA g (bI g p rev k) (iM g (bI g p rev k) rev) (bY p (iM g (bI g p rev k) rev))).2:=rfl
 have OK:fZ g p rev (k+1)=(fZ g p rev k).set (iM g (bI g p rev k) rev).toNat (k:Int):=rfl
 have tT:=oN (g:=g) (p:=p) (rev:=rev) (k:=k)
 generalize iM g (bI g p rev k) rev=x0 at*
 obtain ⟨x,rfl⟩:∃x:Nat,x0=x:=⟨x0.toNat,by omega⟩
 have hxl:x<p.outs.length:=by have:=h.2.1.1;omega
 have hv:=fc hxl
 have hla:bY p (x:Int)=p.outs.getD x []:=by unfold bY;rw [Int.toNat_natCast]
 rw [hla] at ID qg dN
 rw [Int.toNat_natCast] at OK
 have Cj:=pL g hm (bI g p rev k) hi (x:Int) (p.outs.getD x []) (by omega) (by omega) (by omega)
 have hpk:e9 g (bI g p rev k) (x:Int) (p.outs.getD x [])=aA g (bI g p rev k) (x:Int) (p.outs.getD x []):=by
  unfold e9
  rw [if_neg (by rw [hR];simp),if_neg]
  rintro (h|⟨i,h1,h2⟩)
  ·exact h ID.length_eq
  ·exact h2 (ID.mem_iff.2 h1)
 rw [hpk] at Cj
 generalize p.outs.getD x []=o at hv Cj dN
 generalize ef g (bI g p rev k)=L at LJ OJ je
 generalize iL rev (bI g p rev k).row=LR at LJ OI hlo
 generalize QZ:bI g p rev (k+1)=f' at dN
 generalize bI g p rev k=f at*
 generalize aA g f (x:Int) o=su at Cj dN
 repeat' (first|(show cj _ (.region 11 _ _) _ _;(refine dh hX 15 2 201 200 rfl rfl rfl (by first|exact .inl rfl|exact .inr rfl) (by decide) (by decide) ?_;simp only [List.set_cons_zero,List.set_cons_succ,go_sem,simprocAttr,hb,hv,tT,iB,oe,fm]))|refine Rn.p ?_|(with_reducible apply And.intro)|((first|(refine hK _ ?_;clear hK K)|with_reducible intro K hK|refine Rs.p ?_|((with_reducible first|apply oP|apply oQ);exact rfl)|(refine gv hX hC hP 29 (QY) rfl rfl rfl ?_ ?_ (by first|exact ⟨_,_,_,rfl,sy⟩|exact ⟨_,_,_,rfl,sC⟩|exact ⟨_,_,_,rfl,sG⟩) rfl (by decide) ?_;(iterate 2 (focus (simp only [go_sem,simprocAttr,hb,hv,tT,iB,oe,fm];done)));simp only [go_sem,simprocAttr,hb,hv,tT,iB,oe,fm])|(refine aj hX hC hP [(10000,29)] (OI) rfl rfl rfl ?_ ?_ ?_ ?_ ?_ ?_ ?_ ?_ ?_ ?_ ?_ ?_ ?_ ?_;(focus (simp only [go_sem,simprocAttr,hb,hv,tT,iB,oe,fm];done));(iterate 12 (focus (simp [go_sem,simprocAttr,hb,hv,tT,iB,oe,fm];done)));try simp only [List.map_cons,List.map_nil])|(refine kO hX hC hP 34 (OJ) rfl rfl rfl ?_ ?_ (by first|exact ⟨_,_,_,rfl,sy⟩|exact ⟨_,_,_,rfl,sC⟩|exact ⟨_,_,_,rfl,sG⟩) rfl (by decide) ?_;(iterate 2 (focus (simp only [go_sem,simprocAttr,hb,hv,tT,iB,oe,fm];done)));simp only [go_sem,simprocAttr,hb,hv,tT,iB,oe,fm])|(refine au hX hC hP (LJ) rfl rfl rfl ?_ ?_ ?_ ?_;iterate 3 (focus (simp only [go_sem,simprocAttr,hb,hv,tT,iB,oe,fm];done)))|(refine aj hX hC hP [(10000,15),(10001,200),(10002,201)] (Cj) rfl rfl rfl ?_ ?_ ?_ ?_ ?_ ?_ ?_ ?_ ?_ ?_ ?_ ?_ ?_ ?_;(focus (simp only [go_sem,simprocAttr,hb,hv,tT,iB,oe,fm];done));(iterate 12 (focus (simp [go_sem,simprocAttr,hb,hv,tT,iB,oe,fm];done)));try simp only [List.map_cons,List.map_nil]));try simp only [go_sem,simprocAttr,hb,hv,tT,iB,oe,fm])|((with_reducible refine oD ?_ ?_);kernel_rfl)|((with_reducible intro h);try simp only [go_sem,simprocAttr,hb,hv,tT,iB,oe,fm] at h)|omega|intro h)
 refine ⟨k+1,by omega, ?_,by omega⟩
 rw [OK,QZ,dN]
 refine Le.of ?_ ?_<;>simp [go_sem,simprocAttr,hb,hv,tT,iB,oe,fm,rI]
def IE (b:Bool) (g:Gr) (p:Pl):List Int × List Int × Int:=
 if (bQ b g p).2.1=0∧uM g=true then (fZ g p false g.n.toNat,fZ g p true g.n.toNat,0) else ([], [],1)
theorem Ad (g:Gr) (hl:g.es.length≤1000) (p:Pl) (hp:nN p) (b:Bool) (hr:b=true↔(bX g).1=0∧bh g p):
 Spec Tryz.prog 24 (Args [eG g,ePl p]) [] (.tup [.d (sI (IE b g p).1), .d (sI (IE b g p).2.1),eN (IE b g p).2.2]) []:=by
 have hO:=dQ g hl p hp b hr
 have hI:=mH g hl
 by_cases h0:(bQ b g p).2.1=0
 rotate_left
 ·have hK:IE b g p=([], [],1):=if_neg fun h=>h0 h.1
  have hb0:decide ((bQ b g p).2.1=0)=false:=decide_eq_false h0
  rw [hK]
  (refine Spec.hd (C:=T.cfg [] []) (rs:= [.t 4, .t 5, .t 6]) (T.ah _ _) Tryz.func24 rfl rfl Tryz.ntmps24 Tryz.results24 (by simp [AObj.isNest]) (by simp [AObj.isNest]) (by kernel_rfl) T.mixed fun X hX hP hC aP ck=> ?_)
  repeat' (first|refine Rn.p ?_|(with_reducible apply And.intro)|((first|(refine hK _ ?_;clear hK K)|with_reducible intro K hK|refine Rs.p ?_|((with_reducible first|apply oP|apply oQ);exact rfl)|refine aa hX hC hP (hO) rfl rfl rfl (by simp only [go_sem,simprocAttr,hb0]) rfl ?_);try simp only [go_sem,simprocAttr,hb0])|((with_reducible refine oD ?_ ?_);kernel_rfl)|((with_reducible intro h);try simp only [go_sem,simprocAttr,hb0] at h)|omega|intro h)
 obtain ⟨hrun,hR⟩:=jA hr h0
 rw [hR] at hO
 simp only at hO
 cases Hf:uM g with
 |false=>
  have hK:IE b g p=([], [],1):=if_neg fun h=>by rw [Hf] at h;cases h.2
  rw [hK]
  rw [Hf] at hI
  (refine Spec.hd (C:=T.cfg [] []) (rs:= [.t 4, .t 5, .t 6]) (T.ah _ _) Tryz.func24 rfl rfl Tryz.ntmps24 Tryz.results24 (by simp [AObj.isNest]) (by simp [AObj.isNest]) (by kernel_rfl) T.mixed fun X hX hP hC aP ck=> ?_)
  repeat' (first|refine Rn.p ?_|(with_reducible apply And.intro)|((first|(refine hK _ ?_;clear hK K)|with_reducible intro K hK|refine Rs.p ?_|((with_reducible first|apply oP|apply oQ);exact rfl)|refine aa hX hC hP (hO) rfl rfl rfl (by simp only [go_sem,simprocAttr]) rfl ?_|refine aa hX hC hP (hI) rfl rfl rfl (by simp only [go_sem,simprocAttr]) rfl ?_);try simp only [go_sem,simprocAttr])|((with_reducible refine oD ?_ ?_);kernel_rfl)|((with_reducible intro h);try simp only [go_sem,simprocAttr] at h)|omega|intro h)
 |true=>
  have hK:IE b g p=(fZ g p false g.n.toNat,fZ g p true g.n.toNat,0):=if_pos ⟨h0,Hf⟩
  rw [hK]
  rw [Hf] at hI
  have OL:=u5 g p hrun false 62 fun row _=>Aa row
  have OM:=u5 g p hrun true 63 fun row hl=>Ac row hl
  generalize fZ g p false g.n.toNat=R0 at OL
  generalize fZ g p true g.n.toNat=R1 at OM
  (refine Spec.hd (C:=T.cfg [] []) (rs:= [.t 4, .t 5, .t 6]) (T.ah _ _) Tryz.func24 rfl rfl Tryz.ntmps24 Tryz.results24 (by simp [AObj.isNest]) (by simp [AObj.isNest]) (by kernel_rfl) T.mixed fun X hX hP hC aP ck=> ?_)
  repeat' (first|refine Rn.p ?_|(with_reducible apply And.intro)|((first|(refine hK _ ?_;clear hK K)|with_reducible intro K hK|refine Rs.p ?_|((with_reducible first|apply oP|apply oQ);exact rfl)|refine aa hX hC hP (hO) rfl rfl rfl (by simp only [go_sem,simprocAttr]) rfl ?_|refine aa hX hC hP (hI) rfl rfl rfl (by simp only [go_sem,simprocAttr]) rfl ?_|refine aa hX hC hP (OL) rfl rfl rfl (by simp only [go_sem,simprocAttr]) rfl ?_|refine aa hX hC hP (OM) rfl rfl rfl (by simp only [go_sem,simprocAttr]) rfl ?_);try simp only [go_sem,simprocAttr])|((with_reducible refine oD ?_ ?_);kernel_rfl)|((with_reducible intro h);try simp only [go_sem,simprocAttr] at h)|omega|intro h)
end Go.Ab
end
section
namespace Go.Ab
open Go.Proofs
attribute [local congr] ACall.congr gd.congr Nx.congr
set_option maxRecDepth 10000
set_option maxHeartbeats 8000000
def ON (l:List Int) (k:Nat):List Int:=(List.range l.length).map fun p=>if p<k∨l.length - 1<p+k then l.getD (l.length - 1 - p) 0 else l.getD p 0
theorem wU (ps:List Int) (hl:ps.length≤1000000):
 Spec Tryz.prog 71 (Args [.d (sI ps)]) [] (.ref 10000) [(10000, .own 3 1 (ps.map rI))]:=by
 (refine Spec.rH (C:=T.cfg [5,7] []) (rs:= [.t 2]) [(10000,7)] (T.ah _ _) Tryz.func71 rfl rfl Tryz.ntmps71 Tryz.results71 (by simp [AObj.isNest]) (by simp [AObj.isNest]) (by first|(simp [look];done)|(simp [asN];done)|(intro l hl;simp only [asN];repeat (rw [if_neg (fun e=>by subst e;simp [look] at hl)]))) (by first|(simp [look];done)|(simp [asN];done)|(intro l hl;simp only [asN];repeat (rw [if_neg (fun e=>by subst e;simp [look] at hl)]))) (by kernel_rfl) T.mixed fun X hX hP hC aP ck=> ?_)
 repeat' (first|(show cj _ .ret _ _;(try simp only [go_sem,simprocAttr]);refine c8 hX 2 7 (.own 3 1 []) ?_ ?_ (by decide) ⟨3,1,by decide, .inl rfl⟩ ?_;(iterate 2 (focus (simp only [go_sem,simprocAttr];done)));simp only [go_sem,simprocAttr])|refine Rn.p ?_|(with_reducible apply And.intro)|((first|(refine hK _ ?_;clear hK K)|with_reducible intro K hK|refine Rs.p ?_|((with_reducible first|apply oP|apply oQ);exact rfl));try simp only [go_sem,simprocAttr])|((with_reducible refine oD ?_ ?_);kernel_rfl)|((with_reducible intro h);try simp only [go_sem,simprocAttr] at h)|omega|intro h)
 exact h.symm
end Go.Ab
end
section
namespace Go.Ab
open Go.Proofs
attribute [local congr] ACall.congr gd.congr Nx.congr
set_option maxRecDepth 20000
set_option maxHeartbeats 8000000
set_option linter.unusedSectionVars false
def kD (g:Gr) (bs:List Int) (k:Nat):List (List Int × Int):=(List.range k).map fun j:Nat=>([bs.getD j 0],g.n+(j:Int))
theorem CD {g:Gr} {bs:List Int} {k:Nat} :kD g bs (k+1)=kD g bs k++ [([bs.getD k 0],g.n+(k:Int))]:=by simp [kD,List.range_succ]
theorem k6 {g:Gr} {bs:List Int} {k:Nat} {p:List Int × Int} :p∈kD g bs k↔∃j:Nat,j<k∧p=([bs.getD j 0],g.n+(j:Int)):=by
 simp only [kD,List.mem_map,List.mem_range]
 constructor
 ·rintro ⟨j,h,rfl⟩;exact ⟨j,h,rfl⟩
 ·rintro ⟨j,h,rfl⟩;exact ⟨j,h,rfl⟩
theorem CE {g:Gr} {k:Nat} :iE g (k+1)=iE g k++ [[((g.es.length+k:Nat):Int)]]:=by simp [iE,List.range_succ]
theorem E1 {g:Gr} {bs:List Int} :(iD g bs).length=g.es.length+bs.length:=by simp [iD]
section
variable {g:Gr} {p:Pl} {bs:List Int} (h:aU g p) (hb:wz g bs) (hs1:g.n+bs.length≤64) (CP:g.es.length+bs.length≤128)
include h hb hs1 CP
theorem yJ:∀ {k:Nat},k≤bs.length→(dI g bs k p.ord).length=g.n.toNat+k
 |0,_=>by rw [uX,aI h.2.1];rfl
 |k+1,hk=>by
  have hm:=ai h.1
  have mG:∀u∈p.ord,u<g.n:=fun u hu=>by
   have:=h.2.1.2.1.mem_iff.1 hu
   simp only [cQ,List.mem_map,List.mem_range] at this
   obtain ⟨k,hk,e⟩:=this
   have e:(k:Int)=u:=e
   omega
  have tM:=hb.pV _ (aS (d:=0) hk)
  have NO:dM g (bs.getD k 0)∈p.ord:=by
   have htr:=aZ hm (i:=(bs.getD k 0).toNat) (by omega)
   obtain ⟨l,hl,e⟩:=fh h.2.1 htr.1 htr.2
   show tl g (bs.getD k 0).toNat∈p.ord
   rw [← e,aD,List.getD_eq_getElem?_getD,List.getElem?_eq_getElem (by rw [aI h.2.1];exact hl)]
   exact List.getElem_mem _
  obtain ⟨A,B,o1,o2,_,_⟩:=uY (k:=k) (bN h.2.1) mG NO
  have ih:=yJ (k:=k) (by omega)
  rw [o1] at ih
  rw [o2]
  simp only [List.length_append,List.length_cons] at ih ⊢
  omega
theorem E3 {k:Nat} (hk:k<bs.length):Spec Tryz.prog 118 (Args [.ptr 10000 0,eN (bs.getD k 0)]) (iF (g.n+(k:Int)) (iD g (bs.take k)) (dI g bs k p.ord) (p.outs++iE g k) (kD g bs k)) (.tup [])
 (EV (g.n+((k+1:Nat):Int)) (iD g (bs.take (k+1))) (dI g bs (k+1) p.ord) (p.outs++iE g (k+1)) (kD g bs (k+1))):=by
 have hm:=ai h.1
 have hn:=aH hm
 have cT:=h.2.1.1
 have bS:=bN h.2.1
 have tM:=hb.pV _ (aS (d:=0) hk)
 obtain ⟨e,he⟩:∃e:Nat,bs.getD k 0=(e:Int):=⟨(bs.getD k 0).toNat,by omega⟩
 obtain ⟨e1,e2,e3⟩:=Cq hb hk he
 have Q0:(bs.take k).length=k:=by simp;omega
 have Q1:(bs.take (k+1)).length=k+1:=by simp;omega
 have hel:(iD g (bs.take k)).length=g.es.length+k:=by rw [E1,Q0]
 have ht:dM g (bs.getD k 0)=tl g e:=by rw [he];rfl
 have mG:∀u∈p.ord,u<g.n:=fun u hu=>by
  have:=h.2.1.2.1.mem_iff.1 hu
  simp only [cQ,List.mem_map,List.mem_range] at this
  obtain ⟨k,hk,e⟩:=this
  have e:(k:Int)=u:=e
  omega
 have NO:dM g (bs.getD k 0)∈p.ord:=by
  rw [ht]
  have htr:=aZ hm e1
  obtain ⟨l,hl,e⟩:=fh h.2.1 htr.1 htr.2
  rw [← e,aD,List.getD_eq_getElem?_getD,List.getElem?_eq_getElem (by rw [aI h.2.1];exact hl)]
  exact List.getElem_mem _
 obtain ⟨A,B,o1,o2,o3,o4⟩:=uY (k:=k) bS mG NO
 rw [ht] at o1 o2 o3
 have oc:∀i,i<g.es.length→((iD g (bs.take (k+1))).getD i (0,0)).1=tl g i:=fun i hi=>by
  have:=(cD (g:=g) (bs:=bs.take (k+1)) (e:=(i:Int)) (by omega) (by omega)).1
  exact this
 have KU:(dI g bs k p.ord).length<1000:=by
  rw [yJ h hb hs1 CP (by omega)];omega
 have Q2:(iE g k).length=k:=by simp [iE]
 have hinj:∀j,j<bs.length→bs.getD j 0=bs.getD k 0→j=k:=fun j hj hjk=>by
  have a:=dK hb.nd hj
  have b:=dK hb.nd hk
  rw [hjk] at a
  omega
 have key:=Cu (g.n+(k:Int)) (iD g (bs.take k)) (p.outs++iE g k) (kD g bs k) e A (mJ g bs k (tl g e)) B (tl g e) (by omega) (by omega) (by omega) (by rw [List.length_append,cT,Q2];omega) (by rw [← o1];exact KU)
  (fun q hq=> ?_) (fun q hq=> ?_) (by rw [e2]) o3 (fun u hu=> ?_) (fun u r hB=> ?_)
 ·rw [e2,show ((tl g e,hd g e):Edge).2=hd g e from rfl, ← e3, ← o1, ← o2,hel] at key
  rw [he,CE,CD,he, ← List.append_assoc,show g.n+((k+1:Nat):Int)=g.n+(k:Int)+1 by omega]
  exact key
 ·obtain ⟨j,hj,rfl⟩:=k6.1 hq
  have:=hb.pV _ (aS (d:=0) (show j<bs.length by omega))
  simp only [List.getD_cons_zero]
  omega
 ·obtain ⟨j,hj,rfl⟩:=k6.1 hq
  intro e'
  simp only [List.cons.injEq,and_true] at e'
  have:=hinj j (by omega) (by rw [he];exact e'.symm)
  omega
 ·obtain ⟨j,j1,j2,rfl⟩:=fR.1 hu
  rw [e2,show ((tl g e,hd g e):Edge).2=hd g e from rfl, ← e3]
  have xB:=hb.pV _ (aS (d:=0) (show j<bs.length by omega))
  unfold tE
  rw [List.any_eq_true]
  refine ⟨([bs.getD j 0],g.n+(j:Int)),List.mem_append_left _ (k6.2 ⟨j,j1,rfl⟩), ?_⟩
  simp only [dO,List.getD_cons_zero,Bool.and_eq_true,decide_eq_true_eq]
  refine ⟨⟨trivial,fun e'=> ?_⟩, ?_⟩
  ·have:=hinj j (by omega) (by rw [he];omega)
   omega
  ·rw [oc _ (by omega),oc _ e1]
   exact j2
 ·rw [e2,show ((tl g e,hd g e):Edge).2=hd g e from rfl, ← e3]
  have hu:=o4 u r hB
  unfold tE
  rw [List.any_eq_false]
  intro q hq
  have IQ:g.n≤q.2:=by
   rcases List.mem_append.1 hq with hq|hq
   ·obtain ⟨j,hj,rfl⟩:=k6.1 hq
    show g.n≤g.n+(j:Int)
    omega
   ·rw [List.mem_singleton] at hq
    subst hq
    show g.n≤g.n+(k:Int)
    omega
  simp only [dO,Bool.and_eq_true,decide_eq_true_eq]
  rintro ⟨⟨h1,_⟩,_⟩
  omega
end
end Go.Ab
end
section
namespace Go.Ab
open Go.Proofs
attribute [local congr] ACall.congr gd.congr Nx.congr
set_option maxRecDepth 10000
set_option maxHeartbeats 8000000
theorem mL {b:Bool} {g:Gr} {p:Pl} (hr:b=true↔(bX g).1=0∧bh g p) (h:aU g p):bQ b g p=((fN g p g.n.toNat,aV g p),(0,0)):=by
 obtain rfl:b=true:=hr.2 ⟨h.1,h.2.1⟩
 unfold bQ
 rw [if_neg (by simp),fO.2 h.2.2]
 rfl
theorem GC {b:Bool} {g:Gr} {p:Pl} (hr:b=true↔(bX g).1=0∧bh g p) (h:(j8 b g p).2.2=0):kj g p∧j8 b g p=(ak g p,bD g p,0):=by
 unfold j8 at h ⊢
 split at h
 ·cases h
 rename_i h0
 split at h
 ·cases h
 rename_i h1
 rw [if_neg h0,if_neg h1]
 exact ⟨⟨(jA hr (by simpa using h0)).1,by omega,by omega⟩,rfl⟩
theorem Q3 (g:Gr) (p:Pl):∃b:Bool,(b=true↔(bX g).1=0∧bh g p):=by
 by_cases h:(bX g).1=0∧bh g p
 ·exact ⟨true,by simp [h]⟩
 ·exact ⟨false,by simp [h]⟩
end Go.Ab
end
section
namespace Go.Ab
open Go.Proofs
attribute [local congr] ACall.congr gd.congr Nx.congr
set_option maxRecDepth 20000
set_option maxHeartbeats 8000000
theorem wV (ps:List Edge) (hl:ps.length≤1000000):
 Spec Tryz.prog 97 (Args [.d (sE ps)]) [] (.ref 10000) [(10000, .own 73 2 (ps.map rE))]:=by
 (refine Spec.rH (C:=T.cfg [5,7] []) (rs:= [.t 2]) [(10000,7)] (T.ah _ _) Tryz.func97 rfl rfl Tryz.ntmps97 Tryz.results97 (by simp [AObj.isNest]) (by simp [AObj.isNest]) (by first|(simp [look];done)|(simp [asN];done)|(intro l hl;simp only [asN];repeat (rw [if_neg (fun e=>by subst e;simp [look] at hl)]))) (by first|(simp [look];done)|(simp [asN];done)|(intro l hl;simp only [asN];repeat (rw [if_neg (fun e=>by subst e;simp [look] at hl)]))) (by kernel_rfl) T.mixed fun X hX hP hC aP ck=> ?_)
 repeat' (first|(show cj _ .ret _ _;(try simp only [go_sem,simprocAttr]);refine c8 hX 2 7 (.own 73 2 []) ?_ ?_ (by decide) ⟨73,2,by decide, .inl rfl⟩ ?_;(iterate 2 (focus (simp only [go_sem,simprocAttr];done)));simp only [go_sem,simprocAttr])|refine Rn.p ?_|(with_reducible apply And.intro)|((first|(refine hK _ ?_;clear hK K)|with_reducible intro K hK|refine Rs.p ?_|((with_reducible first|apply oP|apply oQ);exact rfl));try simp only [go_sem,simprocAttr])|((with_reducible refine oD ?_ ?_);kernel_rfl)|((with_reducible intro h);try simp only [go_sem,simprocAttr] at h)|omega|intro h)
 exact h.symm
theorem o6 {g:Gr} :wz g (gE g):=by
 unfold gE
 split
 ·refine ⟨?_,fun i hi=> ?_⟩
  ·unfold z6
   exact List.Pairwise.map _ (fun a b hab=>by omega) (List.nodup_range.filter _)
  ·simp only [z6,List.mem_map,List.mem_filter,List.mem_range] at hi
   obtain ⟨j,⟨h1,_⟩,rfl⟩:=hi
   omega
 ·exact ⟨List.nodup_nil,by simp⟩
theorem Ae (g:Gr) (hl:g.es.length≤1000) (p:Pl) (hp:nN p) (b:Bool) (hr:b=true↔(bX g).1=0∧bh g p) (h0:(bQ b g p).2.1=0) (Hf:uM g=true) (hbig:64<g.n+(gE g).length∨128<g.es.length+(gE g).length):
 Spec Tryz.prog 76 (Args [eG g,ePl p]) [] (.tup [.d (.sc (.pointer none)),eN 10]) []:=by
 have hO:=dQ g hl p hp b hr
 have hI:=mH g hl
 have hT:=Bf g (by omega)
 obtain ⟨hrun,hR⟩:=jA hr h0
 rw [hR] at hO
 simp only at hO
 rw [Hf] at hI
 have hn:=aH (ai hrun.1)
 have Ec:(gE g).length≤1000:=by
  unfold gE
  split
  ·have:=Be (g:=g) (k:=g.es.length);omega
  ·simp
 generalize gE g=bs at hT hbig Ec
 by_cases hA:64<g.n+(bs.length:Int)
 ·have hb1:decide (64<g.n+(bs.length:Int))=true:=decide_eq_true hA
  (refine Spec.hd (C:=T.cfg [] []) (rs:= [.t 4, .t 5]) (T.ah _ _) Tryz.func76 rfl rfl Tryz.ntmps76 Tryz.results76 (by simp [AObj.isNest]) (by simp [AObj.isNest]) (by kernel_rfl) T.mixed fun X hX hP hC aP ck=> ?_)
  repeat' (first|refine Rn.p ?_|(with_reducible apply And.intro)|((first|(refine hK _ ?_;clear hK K)|with_reducible intro K hK|refine Rs.p ?_|((with_reducible first|apply oP|apply oQ);exact rfl)|refine aa hX hC hP (hO) rfl rfl rfl (by simp only [go_sem,simprocAttr,hb1]) rfl ?_|refine aa hX hC hP (hI) rfl rfl rfl (by simp only [go_sem,simprocAttr,hb1]) rfl ?_|refine aa hX hC hP (hT) rfl rfl rfl (by simp only [go_sem,simprocAttr,hb1]) rfl ?_);try simp only [go_sem,simprocAttr,hb1])|((with_reducible refine oD ?_ ?_);kernel_rfl)|((with_reducible intro h);try simp only [go_sem,simprocAttr,hb1] at h)|omega|intro h)
 ·have hb1:decide (64<g.n+(bs.length:Int))=false:=decide_eq_false hA
  have hb2:decide (128<(g.es.length:Int)+(bs.length:Int))=true:=decide_eq_true (by omega)
  (refine Spec.hd (C:=T.cfg [] []) (rs:= [.t 4, .t 5]) (T.ah _ _) Tryz.func76 rfl rfl Tryz.ntmps76 Tryz.results76 (by simp [AObj.isNest]) (by simp [AObj.isNest]) (by kernel_rfl) T.mixed fun X hX hP hC aP ck=> ?_)
  repeat' (first|refine Rn.p ?_|(with_reducible apply And.intro)|((first|(refine hK _ ?_;clear hK K)|with_reducible intro K hK|refine Rs.p ?_|((with_reducible first|apply oP|apply oQ);exact rfl)|refine aa hX hC hP (hO) rfl rfl rfl (by simp only [go_sem,simprocAttr,hb1,hb2]) rfl ?_|refine aa hX hC hP (hI) rfl rfl rfl (by simp only [go_sem,simprocAttr,hb1,hb2]) rfl ?_|refine aa hX hC hP (hT) rfl rfl rfl (by simp only [go_sem,simprocAttr,hb1,hb2]) rfl ?_);try simp only [go_sem,simprocAttr,hb1,hb2])|((with_reducible refine oD ?_ ?_);kernel_rfl)|((with_reducible intro h);try simp only [go_sem,simprocAttr,hb1,hb2] at h)|omega|intro h)
theorem CF (g:Gr) (hl:g.es.length≤1000) (p:Pl) (hp:nN p) (hrun:aU g p) (Hf:uM g=true) (bs:List Int) (Q4:gE g=bs) (hs1:g.n+bs.length≤64) (CP:g.es.length+bs.length≤128):
 Spec Tryz.prog 76 (Args [eG g,ePl p]) [] (.tup [.ptr 10000 0,eN 0]) (iF (g.n+bs.length) (iD g bs) (dI g bs bs.length p.ord) (p.outs++iE g bs.length) (kD g bs bs.length)):=by
 have hO:=dQ g hl p hp true ⟨fun _=>⟨hrun.1,hrun.2.1⟩,fun _=>rfl⟩
 rw [mL ⟨fun _=>⟨hrun.1,hrun.2.1⟩,fun _=>rfl⟩ hrun] at hO
 simp only at hO
 have hI:=mH g hl
 rw [Hf] at hI
 have hT:=Bf g (by omega)
 have zG:=o6 (g:=g)
 rw [Q4] at hT zG
 have hn:=aH (ai hrun.1)
 have cT:=hrun.2.1.1
 have qg:=aI hrun.2.1
 have hb1:decide (64<g.n+(bs.length:Int))=false:=decide_eq_false (by omega)
 have hb2:decide (128<(g.es.length:Int)+(bs.length:Int))=false:=decide_eq_false (by omega)
 have Q5:=wV g.es (by omega)
 have Q6:=wU p.ord (by omega)
 have Q7:∀k,k<p.outs.length→Spec Tryz.prog 71 (Args [.d (sI (p.outs.getD k []))]) [] (.d (sI (p.outs.getD k []))) []:=fun k hk=>iI _ (by
  have h1:=(hrun.2.1.2.2 k (by omega)).length_eq
  have h2:(cg g (k:Int)).length≤g.es.length:=jq
  omega)
 unfold iF
 (refine Spec.rH (C:=T.cfg [51,55,76,75,200] []) (rs:= [.t 4, .t 5]) [(10000,59),(10001,51),(10002,55),(10003,200),(10004,57)] (T.ah _ _) Tryz.func76 rfl rfl Tryz.ntmps76 Tryz.results76 (by simp [AObj.isNest]) (by simp [AObj.isNest]) (by first|(simp [look];done)|(simp [asN];done)|(intro l hl;simp only [asN];repeat (rw [if_neg (fun e=>by subst e;simp [look] at hl)]))) (by first|(simp [look];done)|(simp [asN];done)|(intro l hl;simp only [asN];repeat (rw [if_neg (fun e=>by subst e;simp [look] at hl)]))) (by kernel_rfl) T.mixed fun X hX hP hC aP ck=> ?_)
 repeat' (first|(show cj _ (.seq (.region 8 _ _) _) _ _;(refine jd hX 59 3 200 (.own 31 1 []) rfl rfl rfl (by simp only [go_sem,simprocAttr,hb1,hb2]) (by decide) (by simp [go_sem,simprocAttr,hb1,hb2]) ⟨31,1,by decide, .inl rfl⟩ ?_;simp only [List.set_cons_zero,List.set_cons_succ,go_sem,simprocAttr,hb1,hb2]))|refine Rn.p ?_|(with_reducible apply And.intro)|((first|(refine hK _ ?_;clear hK K)|with_reducible intro K hK|refine Rs.p ?_|((with_reducible first|apply oP|apply oQ);exact rfl)|refine aa hX hC hP (hO) rfl rfl rfl (by simp only [go_sem,simprocAttr,hb1,hb2]) rfl ?_|refine aa hX hC hP (hI) rfl rfl rfl (by simp only [go_sem,simprocAttr,hb1,hb2]) rfl ?_|refine aa hX hC hP (hT) rfl rfl rfl (by simp only [go_sem,simprocAttr,hb1,hb2]) rfl ?_|(refine aj hX hC hP [(10000,51)] (Q5) rfl rfl rfl ?_ ?_ ?_ ?_ ?_ ?_ ?_ ?_ ?_ ?_ ?_ ?_ ?_ ?_;(focus (simp only [go_sem,simprocAttr,hb1,hb2];done));(iterate 12 (focus (simp [go_sem,simprocAttr,hb1,hb2];done)));try simp only [List.map_cons,List.map_nil])|(refine aj hX hC hP [(10000,55)] (Q6) rfl rfl rfl ?_ ?_ ?_ ?_ ?_ ?_ ?_ ?_ ?_ ?_ ?_ ?_ ?_ ?_;(focus (simp only [go_sem,simprocAttr,hb1,hb2];done));(iterate 12 (focus (simp [go_sem,simprocAttr,hb1,hb2];done)));try simp only [List.map_cons,List.map_nil]));try simp only [go_sem,simprocAttr,hb1,hb2])|((with_reducible refine oD ?_ ?_);kernel_rfl)|((with_reducible intro h);try simp only [go_sem,simprocAttr,hb1,hb2] at h)|omega|intro h)
 refine an (fun k:Nat=>k≤p.outs.length) (fun k=>⟨[(4, .d (.sc (.pointer none))),(5,eN 0),(9, .d (sI bs)),(10, .ptr 59 0),(61, .d (.sl 1 (vI p.outs))),(62,eN p.outs.length),(63,eN k)], [(59, .box [eN g.n, .ref 51, .ref 55, .ref 200, .mref 57]),(51, .own 73 2 (g.es.map rE)),(55, .own 3 1 (p.ord.map rI)),(200, .own 31 1 (vI (p.outs.take k))),(57, .mp 0 [])]⟩) (fun k=>p.outs.length - k) 0 (by omega) ?_ ?_
 ·refine Le.of ?_ ?_<;>simp [go_sem,simprocAttr,vI]
 rintro k hk
 rcases Nat.lt_or_ge k p.outs.length with hlt|hge
 ·have hb:decide ((k:Int)<(p.outs.length:Int))=true:=decide_eq_true (by omega)
  have hc:=Q7 k hlt
  have y5:(p.outs.take k).length=k:=by simp;omega
  have hv:vI (p.outs.take k)++ [[D.sl 1 ((p.outs.getD k []).map rI)]]=vI (p.outs.take (k+1)):=by
   rw [List.take_add_one,List.getElem?_eq_getElem hlt,Option.toList_some,IB,List.getD_eq_getElem?_getD,List.getElem?_eq_getElem hlt]
   rfl
  repeat' (first|(show cj _ (.region 12 _ _) _ _;(refine dh hX 59 3 76 200 rfl rfl rfl (by first|exact .inl rfl|exact .inr rfl) (by decide) (by decide) ?_;simp only [List.set_cons_zero,List.set_cons_succ,go_sem,simprocAttr,hb,hv,fc hlt,y5,sI]))|refine Rn.p ?_|(with_reducible apply And.intro)|((first|(refine hK _ ?_;clear hK K)|with_reducible intro K hK|refine Rs.p ?_|((with_reducible first|apply oP|apply oQ);exact rfl)|refine aa hX hC hP (hc) rfl rfl rfl (by simp only [go_sem,simprocAttr,hb,hv,fc hlt,y5,sI]) rfl ?_);try simp only [go_sem,simprocAttr,hb,hv,fc hlt,y5,sI])|((with_reducible refine oD ?_ ?_);kernel_rfl)|((with_reducible intro h);try simp only [go_sem,simprocAttr,hb,hv,fc hlt,y5,sI] at h)|omega|intro h)
  refine ⟨k+1,by omega, ?_,by omega⟩
  refine Le.of ?_ ?_<;>simp [go_sem,simprocAttr,hb,hv,fc hlt,y5,sI]
 ·have hb:decide ((k:Int)<(p.outs.length:Int))=false:=decide_eq_false (by omega)
  obtain rfl:k=p.outs.length:=by omega
  rw [List.take_length]
  repeat' (first|refine Rn.p ?_|(with_reducible apply And.intro)|((first|(refine hK _ ?_;clear hK K)|with_reducible intro K hK|refine Rs.p ?_|((with_reducible first|apply oP|apply oQ);exact rfl));try simp only [go_sem,simprocAttr,hb])|((with_reducible refine oD ?_ ?_);kernel_rfl)|((with_reducible intro h);try simp only [go_sem,simprocAttr,hb] at h)|omega|intro h)
  refine an (fun k:Nat=>k≤bs.length) (fun k=>⟨[(4, .d (.sc (.pointer none))),(5,eN 0),(10, .ptr 59 0),(81, .d (sI bs)),(82,eN bs.length),(83,eN k)], [(59, .box [eN (g.n+(k:Int)), .ref 51, .ref 55, .ref 200, .mref 57]),(51, .own 73 2 ((iD g (bs.take k)).map rE)),(55, .own 3 1 ((dI g bs k p.ord).map rI)),(200, .own 31 1 (vI (p.outs++iE g k))),(57, .mp 0 (kD g bs k))]⟩) (fun k=>bs.length - k) 0 (by omega) ?_ ?_
  ·refine Le.of ?_ ?_<;>simp [go_sem,simprocAttr,Cs,uX,iE,kD]
  rintro k hk
  rcases Nat.lt_or_ge k bs.length with hlt|hge
  ·have hb3:decide ((k:Int)<(bs.length:Int))=true:=decide_eq_true (by omega)
   have hL:=E3 hrun zG hs1 CP hlt
   repeat' (first|(show cj _ (.region 17 _ _) _ _;(refine dh hX 59 1 301 51 rfl rfl rfl (by first|exact .inl rfl|exact .inr rfl) (by decide) (by decide) ?_;simp only [List.set_cons_zero,List.set_cons_succ,go_sem,simprocAttr,hb3,iF,EV]);(refine dh hX 59 2 302 55 rfl rfl rfl (by first|exact .inl rfl|exact .inr rfl) (by decide) (by decide) ?_;simp only [List.set_cons_zero,List.set_cons_succ,go_sem,simprocAttr,hb3,iF,EV]);(refine dh hX 59 3 303 200 rfl rfl rfl (by first|exact .inl rfl|exact .inr rfl) (by decide) (by decide) ?_;simp only [List.set_cons_zero,List.set_cons_succ,go_sem,simprocAttr,hb3,iF,EV]))|refine Rn.p ?_|(with_reducible apply And.intro)|((first|(refine hK _ ?_;clear hK K)|with_reducible intro K hK|refine Rs.p ?_|((with_reducible first|apply oP|apply oQ);exact rfl)|(refine aj hX hC hP [(10000,59),(10001,51),(10002,55),(10003,200),(10004,57),(10011,301),(10012,302),(10013,303)] (hL) rfl rfl rfl ?_ ?_ ?_ ?_ ?_ ?_ ?_ ?_ ?_ ?_ ?_ ?_ ?_ ?_;(focus (simp only [go_sem,simprocAttr,hb3,iF,EV];done));(iterate 12 (focus (simp [go_sem,simprocAttr,hb3,iF,EV];done)));try simp only [List.map_cons,List.map_nil]));try simp only [go_sem,simprocAttr,hb3,iF,EV])|((with_reducible refine oD ?_ ?_);kernel_rfl)|((with_reducible intro h);try simp only [go_sem,simprocAttr,hb3,iF,EV] at h)|omega|intro h)
   refine ⟨k+1,by omega, ?_,by omega⟩
   refine Le.of ?_ ?_<;>simp [go_sem,simprocAttr,hb3,iF,EV]
  ·have hb3:decide ((k:Int)<(bs.length:Int))=false:=decide_eq_false (by omega)
   obtain rfl:k=bs.length:=by omega
   rw [List.take_length]
   repeat' (first|refine Rn.p ?_|(with_reducible apply And.intro)|((first|(refine hK _ ?_;clear hK K)|with_reducible intro K hK|refine Rs.p ?_|((with_reducible first|apply oP|apply oQ);exact rfl));try simp only [go_sem,simprocAttr,hb3])|((with_reducible refine oD ?_ ?_);kernel_rfl)|((with_reducible intro h);try simp only [go_sem,simprocAttr,hb3] at h)|omega|intro h)
end Go.Ab
end
section
namespace Go.Ab
open Go.Proofs
attribute [local congr] ACall.congr gd.congr Nx.congr
set_option maxRecDepth 20000
set_option maxHeartbeats 8000000
noncomputable def Q8 (b:Bool) (g:Gr) (p:Pl):Gr × Pl × Int:=
 if (bQ b g p).2.1=0∧uM g=true then (if 64<g.n+(gE g).length∨128<g.es.length+(gE g).length then (gz,pz,10) else (aM g (gE g),zX g p (gE g),0)) else (gz,pz,1)
end Go.Ab
end
section
namespace Go.Ab
open Go.Proofs
set_option maxRecDepth 10000
def u6 (g:Gr) (both:Bool) (c:Nat→Bool) (a:List Bool):Nat→List Bool
 |0=>a
 |k+1=>if c k&&((u6 g both c a k).getD (tl g k).toNat false||both&&(u6 g both c a k).getD (hd g k).toNat false) then
   ((u6 g both c a k).set (hd g k).toNat true).set (tl g k).toNat (((u6 g both c a k).set (hd g k).toNat true).getD (tl g k).toNat false||both) else u6 g both c a k
def vE (g:Gr) (both:Bool) (c:Nat→Bool) (a:List Bool):Nat→List Bool
 |0=>a
 |r+1=>u6 g both c (vE g both c a r) g.es.length
theorem jG {l:List Bool} {i j:Nat} {a:Bool} (hi:i<l.length):(l.set i a).getD j false=if j=i then a else l.getD j false:=by
 rw [List.getD_eq_getElem?_getD,List.getElem?_set]
 by_cases h:i=j
 ·subst h;simp [hi]
 ·rw [if_neg h,if_neg (fun e=>h e.symm),List.getD_eq_getElem?_getD]
theorem qC {g:Gr} {both:Bool} {c:Nat→Bool} {a:List Bool} :∀ {k:Nat},(u6 g both c a k).length=a.length
 |0=>rfl
 |k+1=>by
  rw [u6]
  split
  ·rw [List.length_set,List.length_set];exact qC
  ·exact qC
theorem fS {g:Gr} {both:Bool} {c:Nat→Bool} {a:List Bool} :∀ {r:Nat},(vE g both c a r).length=a.length
 |0=>rfl
 |r+1=>by rw [vE,qC];exact fS
section
variable {g:Gr} (hm:aK g=true) {both:Bool} {c:Nat→Bool}
include hm
theorem Bg {k:Nat} (hk:k<g.es.length):(tl g k).toNat<g.n.toNat∧(hd g k).toNat<g.n.toNat:=by
 have h1:=aZ hm hk
 have h2:=bn hm hk
 omega
theorem k7 {a:List Bool} (ha:a.length=g.n.toNat) {k:Nat} (hk:k<g.es.length) {y:Nat} :(u6 g both c a (k+1)).getD y false=true↔
 (u6 g both c a k).getD y false=true∨c k=true∧((u6 g both c a k).getD (tl g k).toNat false=true∧(y=(hd g k).toNat)∨both=true∧(u6 g both c a k).getD (hd g k).toNat false=true∧y=(tl g k).toNat):=by
 obtain ⟨ht,hh⟩:=Bg hm hk
 have hl:(u6 g both c a k).length=g.n.toNat:=by rw [qC,ha]
 rw [u6]
 generalize u6 g both c a k=b at hl
 cases hc:c k with
 |false=>simp
 |true=>
  simp only [Bool.true_and]
  by_cases hq:(b.getD (tl g k).toNat false||both&&b.getD (hd g k).toNat false)=true
  ·rw [if_pos hq,jG (by rw [List.length_set,hl];exact ht),jG (by rw [hl];exact hh),jG (by rw [hl];exact hh)]
   by_cases e1:y=(tl g k).toNat
   ·subst e1
    rw [if_pos rfl]
    by_cases e2:(tl g k).toNat=(hd g k).toNat
    ·rw [if_pos e2]
     simp only [Bool.true_or,true_iff]
     cases hb:b.getD (tl g k).toNat false with
     |true=>exact .inl rfl
     |false=>
      rw [hb] at hq
      rw [← e2,hb] at hq
      simp at hq
    ·rw [if_neg e2]
     cases hb:b.getD (tl g k).toNat false with
     |true=>simp
     |false=>
      rw [hb] at hq
      simp only [Bool.false_or,Bool.and_eq_true] at hq
      exact ⟨fun _=> .inr ⟨by simp, .inr ⟨hq.1,hq.2,rfl⟩⟩,fun _=>by rw [hq.1];rfl⟩
   ·rw [if_neg e1]
    by_cases e2:y=(hd g k).toNat
    ·subst e2
     rw [if_pos rfl]
     simp only [true_iff]
     cases hb:b.getD (tl g k).toNat false with
     |true=>exact .inr ⟨by simp, .inl ⟨by simp,by simp⟩⟩
     |false=>
      rw [hb] at hq
      simp only [Bool.false_or,Bool.and_eq_true] at hq
      exact .inl hq.2
    ·rw [if_neg e2]
     constructor
     ·intro h;exact .inl h
     ·rintro (h|⟨_,⟨_,h⟩|⟨_,_,h⟩⟩)
      ·exact h
      ·exact absurd h e2
      ·exact absurd h e1
  ·rw [if_neg hq]
   simp only [Bool.or_eq_true,Bool.and_eq_true,not_or,not_and] at hq
   constructor
   ·intro h;exact .inl h
   ·rintro (h|⟨_,⟨h,_⟩|⟨h1,h2,_⟩⟩)
    ·exact h
    ·exact absurd h hq.1
    ·exact absurd h2 (hq.2 h1)
theorem iy {a:List Bool} (ha:a.length=g.n.toNat) {y:Nat} (hy:a.getD y false=true):∀ {k:Nat},k≤g.es.length→(u6 g both c a k).getD y false=true
 |0,_=>hy
 |k+1,hk=>(k7 hm ha hk).2 (.inl (iy ha hy (by omega)))
theorem Bh {a:List Bool} (ha:a.length=g.n.toNat) {x:Nat} (hs:∀y,a.getD y false=true→mN g both c x y):∀ {k:Nat},k≤g.es.length→∀y,(u6 g both c a k).getD y false=true→mN g both c x y
 |0,_,y,h=>hs y h
 |k+1,hk,y,h=>by
  have ih:=Bh ha hs (k:=k) (by omega)
  rcases (k7 hm ha hk).1 h with h|⟨hc,⟨h1,rfl⟩|⟨h0,h1,rfl⟩⟩
  ·exact ih y h
  ·exact .fwd hk hc (ih _ h1)
  ·exact .Fu hk hc h0 (ih _ h1)
theorem GD {a:List Bool} (ha:a.length=g.n.toNat) (hf:∀y,(u6 g both c a g.es.length).getD y false=true→a.getD y false=true) {x y:Nat} (hx:a.getD x false=true) (h:mN g both c x y):a.getD y false=true:=by
 have up:∀ {j k:Nat},j≤k→k≤g.es.length→∀y,(u6 g both c a j).getD y false=true→(u6 g both c a k).getD y false=true:=by
  intro j k hjk
  induction hjk with
  |refl=>intro _ y h;exact h
  |step _ ih=>intro hk y h;exact (k7 hm ha hk).2 (.inl (ih (by omega) y h))
 induction h with
 |refl=>exact hx
 | @fwd k hk hc _ ih=>exact hf _ (up (show k+1≤g.es.length from hk) (Nat.le_refl _) _ ((k7 hm ha hk).2 (.inr ⟨hc, .inl ⟨iy hm ha ih (by omega),rfl⟩⟩)))
 | @Fu k hk hc NK _ ih=>exact hf _ (up (show k+1≤g.es.length from hk) (Nat.le_refl _) _ ((k7 hm ha hk).2 (.inr ⟨hc, .inr ⟨NK,iy hm ha ih (by omega),rfl⟩⟩)))
theorem Bi {a:List Bool} (ha:a.length=g.n.toNat) {x:Nat} (hs:∀y,a.getD y false=true→mN g both c x y):∀r y,(vE g both c a r).getD y false=true→mN g both c x y
 |0,y,h=>hs y h
 |r+1,y,h=>Bh hm (by rw [fS];exact ha) (Bi ha hs r) (Nat.le_refl _) y h
def nZ (a:List Bool):Nat:=a.countP id
omit hm in
theorem E4:∀ {a b:List Bool},a.length=b.length→(∀y,a.getD y false=true→b.getD y false=true)→(∃y,b.getD y false=true∧a.getD y false=false)→nZ a<nZ b∧True
 | [], [],_,_,⟨y,h,_⟩=>by simp at h
 |p::a,q::b,hl,h,⟨y,h1,h2⟩=>by
  have le:∀ {a b:List Bool},a.length=b.length→(∀y,a.getD y false=true→b.getD y false=true)→nZ a≤nZ b:=by
   intro a
   induction a with
   |nil=>intro b _ _;exact Nat.zero_le _
   |cons p a ih=>
    intro b hl h
    cases b with
    |nil=>simp at hl
    |cons q b=>
     have:=ih (b:=b) (by simpa using hl) fun y=>by simpa using h (y+1)
     have h0:=h 0
     simp only [List.getD_cons_zero] at h0
     unfold nZ at this ⊢
     rw [List.countP_cons,List.countP_cons]
     cases p with
     |false=>simp;omega
     |true=>simp [h0 rfl];omega
  have hl':a.length=b.length:=by simpa using hl
  have h':∀y,a.getD y false=true→b.getD y false=true:=fun y=>by simpa using h (y+1)
  refine ⟨?_,trivial⟩
  have hle:=le hl' h'
  unfold nZ at hle ⊢
  rw [List.countP_cons,List.countP_cons]
  cases y with
  |zero=>
   simp only [List.getD_cons_zero] at h1 h2
   subst h1 h2
   simp;omega
  |succ y=>
   have ih:=(E4 hl' h' ⟨y,by simpa using h1,by simpa using h2⟩).1
   unfold nZ at ih
   have h0:=h 0
   simp only [List.getD_cons_zero] at h0
   cases p with
   |false=>simp;omega
   |true=>simp [h0 rfl];omega
omit hm in
theorem IF (a:List Bool):nZ a≤a.length:=List.countP_le_length
theorem E5 {a:List Bool} (ha:a.length=g.n.toNat) (r:Nat):(∀y,(vE g both c a (r+1)).getD y false=true→(vE g both c a r).getD y false=true)∨nZ (vE g both c a r)<nZ (vE g both c a (r+1)):=by
 by_cases h:∀y,(vE g both c a (r+1)).getD y false=true→(vE g both c a r).getD y false=true
 ·exact .inl h
 ·refine .inr (E4 (fS.trans (fS (r:=r+1)).symm) (fun y hy=>iy hm (by rw [fS];exact ha) hy (Nat.le_refl _)) ?_).1
  simp only [Classical.not_forall] at h
  obtain ⟨y,h1,h2⟩:=h
  exact ⟨y,h1,by simpa using h2⟩
theorem E6 {a:List Bool} (ha:a.length=g.n.toNat) {x:Nat} (hx:a.getD x false=true) (hs:∀y,a.getD y false=true→mN g both c x y) (hc1:0<nZ a) (y:Nat):(vE g both c a g.n.toNat).getD y false=true↔mN g both c x y:=by
 refine ⟨Bi hm ha hs _ y,fun h=> ?_⟩
 have Q9:∀r,(vE g both c a r).getD x false=true:=fun r=>by
  induction r with
  |zero=>exact hx
  |succ r ih=>exact iy hm (by rw [fS];exact ha) ih (Nat.le_refl _)
 have key:∀r,(∀y,mN g both c x y→(vE g both c a r).getD y false=true)∨r<nZ (vE g both c a r):=by
  intro r
  induction r with
  |zero=>exact .inr hc1
  |succ r ih=>
   rcases ih with ih|ih
   ·exact .inl fun y hy=>iy hm (by rw [fS];exact ha) (ih y hy) (Nat.le_refl _)
   ·rcases E5 hm ha r with h|h
    ·exact .inl fun y hy=>iy hm (by rw [fS];exact ha) (GD hm (by rw [fS];exact ha) h (Q9 r) hy) (Nat.le_refl _)
    ·exact .inr (by omega)
 rcases key g.n.toNat with h1|h1
 ·exact h1 y h
 ·have:=IF (vE g both c a g.n.toNat)
  rw [fS,ha] at this
  omega
end
end Go.Ab
end
section
namespace Go.Ab
open Go.Proofs
attribute [local congr] ACall.congr gd.congr Nx.congr
set_option maxRecDepth 20000
set_option maxHeartbeats 8000000
def mM (n x:Nat):List Bool:=(List.replicate n false).set x true
theorem Af {n x:Nat} :(mM n x).length=n:=by simp [mM]
theorem mN.congr {g:Gr} {both:Bool} {c c':Nat→Bool} (h:∀k,k<g.es.length→c k=c' k) {x y:Nat} (hr:mN g both c x y):mN g both c' x y:=by
 induction hr with
 |refl=>exact .refl
 | @fwd i a b _ ih=>exact .fwd a (by rw [← h i a];exact b) ih
 | @Fu i a b d _ ih=>exact .Fu a (by rw [← h i a];exact b) d ih
theorem u7 {n x y:Nat} (hx:x<n):(mM n x).getD y false=true↔y=x:=by
 unfold mM
 rw [jG (by simpa using hx)]
 by_cases h:y=x
 ·rw [if_pos h];simp [h]
 ·rw [if_neg h]
  simp only [h,iff_false,Bool.not_eq_true]
  rw [List.getD_eq_getElem?_getD,List.getElem?_replicate]
  split<;>rfl
theorem Ag {n x:Nat} (hx:x<n):0<nZ (mM n x):=by
 unfold nZ
 rw [List.countP_pos_iff]
 refine ⟨true, ?_,rfl⟩
 unfold mM
 rw [List.mem_iff_getElem?]
 exact ⟨x,by rw [List.getElem?_set_self (by simpa using hx)]⟩
def IG (m i:Nat):List Bool:=(uB m m).set i false
theorem Bj {m i k:Nat} (hi:i<m) (hk:k<m):(IG m i).getD k false=qa i k:=by
 unfold IG qa
 rw [jG (by rw [trueK_length];exact hi)]
 by_cases h:k=i
 ·subst h;simp
 ·rw [if_neg h,uB,List.getD_eq_getElem?_getD,List.getElem?_map,List.getElem?_range hk]
  simp [hk];omega
theorem tI {g:Gr} (hm:aK g=true) {i:Nat} (hi:i<g.es.length):(vE g false (fun k=>(IG g.es.length i).getD k false) (mM g.n.toNat (tl g i).toNat) g.n.toNat).getD (hd g i).toNat false=wT g i:=by
 obtain ⟨ht,hh⟩:=Bg hm hi
 rw [Bool.eq_iff_iff,E6 hm Af ((u7 ht).2 rfl) (fun y hy=>by rw [(u7 ht).1 hy];exact .refl) (Ag ht),wT,wR ht,wS]
 constructor
 ·intro h
  exact ⟨hh,h.congr fun k hk=>Bj hi hk⟩
 ·rintro ⟨_,h⟩
  exact h.congr fun k hk=>(Bj hi hk).symm
end Go.Ab
end
section
namespace Go.Ab
open Go.Proofs
attribute [local congr] ACall.congr gd.congr Nx.congr
set_option maxRecDepth 20000
set_option maxHeartbeats 8000000
end Go.Ab
end
section
namespace Go.Ab
open Go.Proofs
attribute [local congr] ACall.congr gd.congr Nx.congr
set_option maxRecDepth 10000
set_option maxHeartbeats 16000000
end Go.Ab
end
section
namespace Go.Ab
open Go.Proofs
attribute [local congr] ACall.congr gd.congr Nx.congr
set_option maxRecDepth 20000
set_option maxHeartbeats 8000000
end Go.Ab
end
section
namespace Go.Ab
open Go.Proofs
attribute [local congr] ACall.congr gd.congr Nx.congr
set_option maxRecDepth 20000
set_option maxHeartbeats 16000000
end Go.Ab
end
section
namespace Go.Ab
open Go.Proofs
attribute [local congr] ACall.congr gd.congr Nx.congr
set_option maxRecDepth 10000
abbrev Pt:=Int × Int
def eP (p:Pt):AV:= .agg [.d (.sc (.int .i64 p.1)), .d (.sc (.int .i64 p.2))]
def rP (p:Pt):List D:= [.sc (.int .i64 p.1), .sc (.int .i64 p.2)]
attribute [go_sem] eP
def tO (p:Pt):Prop:=(-262144≤p.1∧p.1≤262144)∧(-262144≤p.2∧p.2≤262144)
def yK (a b:Int):Int:=if a<b then -1 else if b<a then 1 else 0
def Bk (a b n:Int):Bool:=decide (min a b≤n)&&decide (n≤max a b)
def tm (a b c d:Pt):Int:=(b.1 - a.1)*(d.2 - c.2) - (b.2 - a.2)*(d.1 - c.1)
def sd (a b c:Pt):Int:=yK (tm a b a c) 0
def GF (a b c:Pt):Bool:=decide (sd a b c=0)&&Bk a.1 b.1 c.1&&Bk a.2 b.2 c.2
end Go.Ab
end
section
namespace Go.Ab
open Go.Proofs
attribute [local congr] ACall.congr gd.congr Nx.congr
set_option maxRecDepth 10000
def Ra (p:Pt):Bool:=decide (262144<max p.1 p.2)||decide (min p.1 p.2< -262144)
theorem getD_rP (ps:List Pt) (i:Nat):(ps.map rP).getD i [.sc (.int .i64 0), .sc (.int .i64 0)]=rP (ps.getD i (0,0)):=by
 simp only [List.getD_eq_getElem?_getD,List.getElem?_map]
 cases ps[i]? <;>rfl
theorem rP_eq (p:Pt):rP p= [.sc (.int .i64 p.1), .sc (.int .i64 p.2)]:=rfl
attribute [go_sem] getD_rP rP_eq Int.toNat_natCast
end Go.Ab
end
section
namespace Go.Ab
open Go.Proofs
attribute [local congr] ACall.congr gd.congr Nx.congr
set_option maxRecDepth 10000
instance (p:Pt):Decidable (tO p):=by unfold tO;infer_instance
def OO (a b c:Pt):Int:=if tO a∧tO b∧tO c then sd a b c else 0
def Rb (a b c:Pt):Bool:=decide (tO a∧tO b∧tO c)&&GF a b c
end Go.Ab
end
section
namespace Go.Ab
open Go.Proofs
attribute [local congr] ACall.congr gd.congr Nx.congr
set_option maxRecDepth 10000
def pN (a b c:Pt):Int:=a.1*b.2 - a.2*b.1+b.1*c.2 - b.2*c.1+c.1*a.2 - c.2*a.1
def o7 (a b p:Pt):Int:=(p.1 - a.1)*(b.1 - a.1)+(p.2 - a.2)*(b.2 - a.2)
def KW (a b c:Pt):Int:=if tO a∧tO b∧tO c then yK (pN a b c) 0 else 0
def E7 (a b c:Pt):Bool:=decide (tO a∧tO b∧tO c)&&(decide (pN a b c=0)&&decide ((a.1 - c.1)*(b.1 - c.1)+(a.2 - c.2)*(b.2 - c.2)≤0))
end Go.Ab
end
section
namespace Go.Ab
open Go.Proofs
attribute [local congr] ACall.congr gd.congr Nx.congr
set_option maxRecDepth 10000
set_option maxHeartbeats 2000000
def Sl:OT:=(.br 0 (.br 1 (.br 2 (.br 3 (.br 4 (.br 5 (.br 6 .nil .nil) .nil) .nil) (.br 4 (.br 3 (.br 5 (.br 6 .nil .nil) .nil) (.br 5 (.br 3 (.br 6 .nil .nil) .nil) .nil)) .nil)) (.br 4 (.br 2 (.br 3 (.br 5 (.br 6 .nil .nil) .nil) (.br 5 (.br 3 (.br 6 .nil .nil) .nil) .nil)) (.br 5 (.br 2 (.br 3 (.br 6 .nil .nil) .nil) .nil) .nil)) .nil)) .nil) (.br 1 (.br 0 (.br 2 (.br 3 (.br 4 (.br 5 (.br 6 .nil .nil) .nil) .nil) (.br 4 (.br 3 (.br 5 (.br 6 .nil .nil) .nil) (.br 5 (.br 3 (.br 6 .nil .nil) .nil) .nil)) .nil)) (.br 4 (.br 2 (.br 3 (.br 5 (.br 6 .nil .nil) .nil) (.br 5 (.br 3 (.br 6 .nil .nil) .nil) .nil)) (.br 5 (.br 2 (.br 3 (.br 6 .nil .nil) .nil) .nil) .nil)) .nil)) .nil) .nil))
def KX (a b c d:Pt):Int:=
 if tO a∧tO b∧tO c∧tO d then
  if a=b then (if E7 c d a=true then 1 else 0)
  else if c=d then (if E7 a b c=true then 1 else 0)
  else if yK (pN a b c) 0=0∧yK (pN a b d) 0=0 then
   let lo:=max (o7 a b a) (min (o7 a b c) (o7 a b d))
   let hi:=min (o7 a b b) (max (o7 a b c) (o7 a b d))
   if hi<lo then 0 else if lo=hi then 1 else 2
  else if yK (pN a b c) 0*yK (pN a b d) 0≤0∧yK (pN c d a) 0*yK (pN c d b) 0≤0 then 1 else 0
 else 0
end Go.Ab
end
section
namespace Go.Ab
open Go.Proofs
attribute [local congr] ACall.congr gd.congr Nx.congr
set_option maxRecDepth 10000
set_option maxHeartbeats 2000000
theorem mval_touch (es:List (List Int × Int)) (k:List Int):ko (dV es k) k=ko es k:=by
 unfold dV
 cases h:bZ es k with
 |some i=>rfl
 |none=>
  have hn:=qR h
  have:bZ (es++ [(k,0)]) k=some es.length:=by
   unfold bZ
   rw [List.findIdx?_eq_some_iff_getElem]
   refine ⟨by simp,by simp,fun j hj=> ?_⟩
   rw [List.getElem_append_left hj]
   have:=hn es[j] (List.getElem_mem hj)
   simpa using fun e=>this e.symm
  simp [ko,h,this]
def Rc (es:List (List Int × Int)) (k:List Int):List (List Int × Int):=pP (dV es k) (iS es k) (ko es k+1)
def GG (p:Pt) (ks:List (List Int)):List (List Int):=if [p.1,p.2]∈ks then ks else ks++ [[p.1,p.2]]
def BE (n:Int) (es:List (List Int × Int)):Prop:=∀p∈es,0≤p.2∧p.2≤n
end Go.Ab
end
section
namespace Go.Ab
open Go.Proofs
attribute [local congr] ACall.congr gd.congr Nx.congr
set_option maxRecDepth 10000
set_option maxHeartbeats 4000000
attribute [go_sem] mval_touch
def K1 (a _b c d:Pt):List (List Int):=if GF c d a=true then GG a [] else []
def K2 (a b c d:Pt):List (List Int):=if GF c d b=true then GG b (K1 a b c d) else K1 a b c d
def K3 (a b c d:Pt):List (List Int):=if GF a b c=true then GG c (K2 a b c d) else K2 a b c d
def K4 (a b c d:Pt):List (List Int):=if GF a b d=true then GG d (K3 a b c d) else K3 a b c d
def OP (a b c d:Pt):Int:=
 if tO a∧tO b∧tO c∧tO d then
  if 0<(K4 a b c d).length then min ((K4 a b c d).length:Int) 2
  else if sd a b c*sd a b d<0∧sd c d a*sd c d b<0 then 1 else 0
 else 0
def RS (A B C:List (List Int)) (p:Nat × List (List Int × Int)) (n:Int):Prop:=
 (p.1=0∧p.2.map (·.1)=A∧BE n p.2)∨(p.1=1∧p.2.map (·.1)=B∧BE (n+1) p.2)∨(p.1=2∧p.2.map (·.1)=C∧BE (n+2) p.2)
def bx (p:Pt):AObj:= .box [.d (.sc (.int .i64 p.1)), .d (.sc (.int .i64 p.2))]
attribute [go_sem] bx
def Sm (a b c d:Pt) (i:Nat × List (List Int × Int)):ASt:=
 ⟨[(9, .mref 21),(4, .ptr 4 0),(5, .ptr 5 0),(6, .ptr 6 0),(7, .ptr 7 0),(24, .agg [eN a.1,eN a.2,eN b.1,eN b.2]),(25,eN i.1)],
   [(4,bx a),(5,bx b),(6,bx c),(7,bx d),(21, .mp 2 i.2)]⟩
def Sn (a b c d:Pt) (i:Nat × List (List Int × Int)):ASt:=
 ⟨[(9, .mref 21),(4, .ptr 4 0),(5, .ptr 5 0),(6, .ptr 6 0),(7, .ptr 7 0),(41, .agg [eN c.1,eN c.2,eN d.1,eN d.2]),(42,eN i.1)],
   [(4,bx a),(5,bx b),(6,bx c),(7,bx d),(21, .mp 2 i.2)]⟩
end Go.Ab
end
section
namespace Go.Ab
open Go.Proofs
attribute [local congr] ACall.congr gd.congr Nx.congr
set_option maxRecDepth 10000
def key (p:Pt):List Int:= [p.1,p.2]
def Sq (a b c d p:Pt):Prop:=(GF c d a=true∧p=a)∨(GF c d b=true∧p=b)∨(GF a b c=true∧p=c)∨(GF a b d=true∧p=d)
def OQ (a b c d:Pt):Int:=if 0<(K4 a b c d).length then min ((K4 a b c d).length:Int) 2 else if sd a b c*sd a b d<0∧sd c d a*sd c d b<0 then 1 else 0
section
variable {a b:Pt}
end
end Go.Ab
end
section
namespace Go.Ab
open Go.Proofs
attribute [local congr] ACall.congr gd.congr Nx.congr
set_option maxRecDepth 10000
abbrev Pc:=Pt × Pt
def rQ (q:Pc):List D:= [.sc (.int .i64 q.1.1), .sc (.int .i64 q.1.2), .sc (.int .i64 q.2.1), .sc (.int .i64 q.2.2)]
def eQ (q:Pc):AV:= .agg [.d (.sc (.int .i64 q.1.1)), .d (.sc (.int .i64 q.1.2)), .d (.sc (.int .i64 q.2.1)), .d (.sc (.int .i64 q.2.2))]
def sQ (qs:List Pc):D:= .sl 4 (qs.map rQ)
def sP (ps:List Pt):D:= .sl 2 (ps.map rP)
def vP (ls:List (List Pt)):List (List D):=ls.map fun l=> [sP l]
def sLn (ls:List (List Pt)):D:= .sl 1 (vP ls)
def eLn (l:List Pt):AV:= .d (sP l)
theorem getD_rQ (ps:List Pc) (i:Nat):(ps.map rQ).getD i [.sc (.int .i64 0), .sc (.int .i64 0), .sc (.int .i64 0), .sc (.int .i64 0)]=rQ (ps.getD i ((0,0),(0,0))):=by
 simp only [List.getD_eq_getElem?_getD,List.getElem?_map]
 cases ps[i]? <;>rfl
theorem rQ_eq (q:Pc):rQ q= [.sc (.int .i64 q.1.1), .sc (.int .i64 q.1.2), .sc (.int .i64 q.2.1), .sc (.int .i64 q.2.2)]:=rfl
theorem vP_length (ls:List (List Pt)):(vP ls).length=ls.length:=by simp [vP]
theorem vP_getD (ls:List (List Pt)) (i:Nat):(vP ls).getD i [.sl 2 []]= [sP (ls.getD i [])]:=by
 simp only [vP,List.getD_eq_getElem?_getD,List.getElem?_map]
 cases ls[i]? <;>rfl
attribute [go_sem] getD_rQ rQ_eq eQ sQ sP sLn eLn vP_length vP_getD
end Go.Ab
end
section
namespace Go.Ab
open Go.Proofs
attribute [local congr] ACall.congr gd.congr Nx.congr
set_option maxRecDepth 10000
structure Dr where
 pts:List Pt
 ls:List (List Pt)
def eDr (d:Dr):AV:= .agg [.d (sP d.pts), .d (sLn d.ls)]
def lkO (g:Gr) (d:Dr):AObj:= .rob [eN g.n, .d (sE g.es), .d (sP d.pts), .d (sLn d.ls)]
attribute [go_sem] eDr lkO
def Re (l:List Pt) (k:Nat):List Pc:=(List.range k).map fun i=>(l.getD i (0,0),l.getD (i+1) (0,0))
def OR (l:List Pt):List Pc:=Re l (l.length - 1)
def robPt (p:Pt):List (Nat × AObj):= [(10000, .rob [eN p.1,eN p.2])]
attribute [go_sem] robPt
def Rg (l:List Pt) (p:Pt):Bool:=(OR l).any fun q=>Rb q.1 q.2 p
def OS (l:List Pt):Bool:= !(OR l).any fun q=>decide (q.2.2≤q.1.2)
structure KY (g:Gr) (d:Dr):Prop where
 may:aK g=true
 np:(d.pts.length:Int)=g.n
 nl:d.ls.length=g.es.length
 pV:∀l∈d.ls,2≤l.length∧l.length≤8
theorem KY.line {g:Gr} {d:Dr} (h:KY g d) {i:Nat} (hi:i<g.es.length):2≤(d.ls.getD i []).length∧(d.ls.getD i []).length≤8:=h.pV _ (aS (by rw [h.nl];exact hi))
def Rh (g:Gr) (d:Dr) (i:Nat):Bool:=decide ((d.ls.getD i []).getD 0 (0,0)=d.pts.getD (g.es.getD i (0,0)).1.toNat (0,0))&&decide ((d.ls.getD i []).getD ((d.ls.getD i []).length - 1) (0,0)=d.pts.getD (g.es.getD i (0,0)).2.toNat (0,0))
def Ri (l:List Pt) (x:Pt):Int:=bL (fun y=>decide (x=y)) l
def NP (d:Dr) (x:Nat):Bool:= !decide (d.pts.getD x (0,0)∈d.pts.take x)
def KZ (g:Gr) (d:Dr) (i k:Nat):Bool:=(List.range k).all fun x=>decide ((x:Int)=(g.es.getD i (0,0)).1)||decide ((x:Int)=(g.es.getD i (0,0)).2)|| !Rg (d.ls.getD i []) (d.pts.getD x (0,0))
def OU (g:Gr) (d:Dr) (i:Nat):Bool:=KZ g d i d.pts.length
end Go.Ab
end
section
namespace Go.Ab
open Go.Proofs
attribute [local congr] ACall.congr gd.congr Nx.congr
set_option maxRecDepth 20000
set_option maxHeartbeats 8000000
def CG (xs ys:List Int) (v:Nat):Pt:=(xs.getD v 0,ys.getD v 0)
def E8 (N:Int) (bs xs ys:List Int) (i:Nat):List Pt:=if (i:Int)∈bs then [CG xs ys (N+(bs.idxOf (i:Int):Nat)).toNat] else []
def I7 (g:Gr) (N:Int) (bs xs ys:List Int) (i:Nat):List Pt:=CG xs ys (tl g i).toNat::(E8 N bs xs ys i++ [CG xs ys (hd g i).toNat])
def qb (xs ys:List Int) (k:Nat):List Pt:=(List.range k).map (CG xs ys)
def tJ (g:Gr) (N:Int) (bs xs ys:List Int) (k:Nat):List (List Pt):=(List.range k).map (I7 g N bs xs ys)
def NQ (g:Gr) (N:Int) (bs xs ys:List Int):Dr:=⟨qb xs ys g.n.toNat,tJ g N bs xs ys g.es.length⟩
theorem E9 {xs ys:List Int} {k:Nat} :qb xs ys (k+1)=qb xs ys k++ [CG xs ys k]:=by simp [qb,List.range_succ]
theorem Bl {xs ys:List Int} {k:Nat} :(qb xs ys k).length=k:=by simp [qb]
theorem Fa {g:Gr} {N:Int} {bs xs ys:List Int} {k:Nat} :tJ g N bs xs ys (k+1)=tJ g N bs xs ys k++ [I7 g N bs xs ys k]:=by simp [tJ,List.range_succ]
theorem GH {g:Gr} {N:Int} {bs xs ys:List Int} {k:Nat} :(tJ g N bs xs ys k).length=k:=by simp [tJ]
def dz:Dr:=⟨[], []⟩
noncomputable def CH (g:Gr) (p:Pl) (rev:Bool):List Int:=fZ (aM (ak g p) (gE (ak g p))) (zX (ak g p) (bD g p) (gE (ak g p))) rev ((ak g p).n+(gE (ak g p)).length).toNat
noncomputable def CI (b:Bool) (g:Gr) (p:Pl):Dr × Int:=
 if (j8 b g p).2.2≠0 then (dz,(j8 b g p).2.2) else if 64<(ak g p).n+(gE (ak g p)).length∨128<(ak g p).es.length+(gE (ak g p)).length then (dz,10) else (NQ g (ak g p).n (gE (ak g p)) (CH g p false) (CH g p true),0)
theorem Fb {g:Gr} {p:Pl} (h:aU g p):p.ord.length≤64∧p.outs.length≤64∧∀l∈p.outs,l.length≤128:=by
 have hn:=aH (ai h.1)
 have h1:=aI h.2.1
 have h2:=h.2.1.1
 refine ⟨by omega,by omega,fun l hl=> ?_⟩
 obtain ⟨k,hk,rfl⟩:=List.mem_iff_getElem.1 hl
 have h3:=(h.2.1.2.2 k (by omega)).length_eq
 rw [List.getD_eq_getElem?_getD,List.getElem?_eq_getElem hk,Option.getD_some] at h3
 have h4:(cg g (k:Int)).length≤g.es.length:=jq
 omega
theorem wW {g:Gr} {p:Pl} (h:aU g p):nN p:=by
 obtain ⟨h1,h2,h3⟩:=Fb h
 exact ⟨by omega,by omega,fun l hl=>by have:=h3 l hl;omega⟩
theorem n0 {g:Gr} {p:Pl} (h:aU g p):(true=true)↔(bX g).1=0∧bh g p:=⟨fun _=>⟨h.1,h.2.1⟩,fun _=>rfl⟩
structure Room (g:Gr) (p:Pl):Prop where
 ok:kj g p
 h1:(ak g p).n+(gE (ak g p)).length≤64
 h2:(ak g p).es.length+(gE (ak g p)).length≤128
theorem Fe {g:Gr} {p:Pl} (h:Room g p):aU (aM (ak g p) (gE (ak g p))) (zX (ak g p) (bD g p) (gE (ak g p))):=Gt (jC h.ok) o6 (Bc (jC h.ok) o6) h.h1 h.h2
theorem GI {g:Gr} {p:Pl} (h:Room g p):uM (aM (ak g p) (gE (ak g p)))=true:=IA (jC h.ok) o6 (Bc (jC h.ok) o6) h.h1 h.h2 (EL h.ok)
theorem Bm {g:Gr} {p:Pl} {rev:Bool} :(CH g p rev).length=((ak g p).n+(gE (ak g p)).length).toNat:=by unfold CH;exact oN
theorem yL {g:Gr} {bs:List Int} (hb:bs.Nodup) {i:Int} :bZ (kD g bs bs.length) [i]=if i∈bs then some (bs.idxOf i) else none:=by
 by_cases h:i∈bs
 ·rw [if_pos h]
  obtain ⟨h1,h2⟩:=th h
  unfold bZ
  rw [List.findIdx?_eq_some_iff_getElem]
  refine ⟨by simp [kD,h1], ?_,fun j hj=> ?_⟩
  ·simp only [kD,List.getElem_map,List.getElem_range,decide_eq_true_eq,h2]
  ·simp only [kD,List.getElem_map,List.getElem_range,decide_eq_true_eq]
   intro e
   have e:i=bs.getD j 0:=by simpa using e
   have:=dK hb (i:=j) (by omega)
   rw [← e] at this
   omega
 ·rw [if_neg h]
  unfold bZ
  rw [List.findIdx?_eq_none_iff]
  intro q hq
  obtain ⟨j,hj,rfl⟩:=k6.1 hq
  rw [decide_eq_false_iff_not]
  intro e
  have e:i=bs.getD j 0:=by simpa using e
  rw [e] at h
  exact h (aS hj)
theorem GJ {g:Gr} {bs:List Int} (hb:bs.Nodup) {i:Int} (h:i∈bs):ko (kD g bs bs.length) [i]=g.n+(bs.idxOf i:Nat):=by
 unfold ko
 rw [yL hb,if_pos h]
 have:=(th h).1
 simp [kD,List.getElem?_range this]
end Go.Ab
end
section
namespace Go.Ab
open Go.Proofs
attribute [local congr] ACall.congr gd.congr Nx.congr
set_option maxRecDepth 20000
set_option maxHeartbeats 8000000
theorem GK (xs ys:List Int) (v:Nat) (h1:v<xs.length) (h2:v<ys.length) (hx:xs.length≤1000) (hy:ys.length≤1000):Spec Tryz.prog 77 (Args [eN v, .ptr 10001 0, .ptr 10002 0]) [(10001, .rob [.d (sI xs)]),(10002, .rob [.d (sI ys)])] (.agg [eN (xs.getD v 0),eN (ys.getD v 0)]) [(10001, .rob [.d (sI xs)]),(10002, .rob [.d (sI ys)])]:=by
 (refine Spec.hd (C:=T.cfg [] []) (rs:= [.c 4 71]) (T.ah _ _) Tryz.func77 rfl rfl Tryz.ntmps77 Tryz.results77 (by simp [AObj.isNest]) (by simp [AObj.isNest]) (by kernel_rfl) T.mixed fun X hX hP hC aP ck=> ?_)
 repeat' (first|refine Rn.p ?_|(with_reducible apply And.intro)|((first|(refine hK _ ?_;clear hK K)|with_reducible intro K hK|refine Rs.p ?_|((with_reducible first|apply oP|apply oQ);exact rfl));try simp only [go_sem,simprocAttr])|((with_reducible refine oD ?_ ?_);kernel_rfl)|((with_reducible intro h);try simp only [go_sem,simprocAttr] at h)|omega|intro h)
end Go.Ab
end
section
namespace Go.Ab
open Go.Proofs
attribute [local congr] ACall.congr gd.congr Nx.congr
set_option maxRecDepth 20000
set_option maxHeartbeats 16000000
theorem u9 (g:Gr) (hl:g.es.length≤1000) (p:Pl) (hp:nN p) (hp1:p.ord.length≤1000) (hp2:p.outs.length≤1000) (Ns:∀l∈p.outs,l.length≤1000) (b:Bool) (hr:b=true↔(bX g).1=0∧bh g p):
 Spec Tryz.prog 33 (Args [eG g,ePl p]) [] (.tup [eDr (CI b g p).1,eN (CI b g p).2]) []:=by
 have LL:=wh g hl p hp hp1 hp2 Ns b hr
 by_cases h0:(j8 b g p).2.2=0
 rotate_left
 ·have K0:CI b g p=(dz,(j8 b g p).2.2):=if_pos h0
  have hb0:decide ((j8 b g p).2.2=0)=false:=decide_eq_false h0
  rw [K0]
  (refine Spec.hd (C:=T.cfg [] []) (rs:= [.c 4 28, .t 5]) (T.ah _ _) Tryz.func33 rfl rfl Tryz.ntmps33 Tryz.results33 (by simp [AObj.isNest]) (by simp [AObj.isNest]) (by kernel_rfl) T.mixed fun X hX hP hC aP ck=> ?_)
  repeat' (first|refine Rn.p ?_|(with_reducible apply And.intro)|((first|(refine hK _ ?_;clear hK K)|with_reducible intro K hK|refine Rs.p ?_|((with_reducible first|apply oP|apply oQ);exact rfl)|refine aa hX hC hP (LL) rfl rfl rfl (by simp only [go_sem,simprocAttr,hb0,dz]) rfl ?_);try simp only [go_sem,simprocAttr,hb0,dz])|((with_reducible refine oD ?_ ?_);kernel_rfl)|((with_reducible intro h);try simp only [go_sem,simprocAttr,hb0,dz] at h)|omega|intro h)
  all_goals rfl
 obtain ⟨hO,hE⟩:=GC hr h0
 rw [hE] at LL
 have I8:=jC hO
 have OV:=EL hO
 have Rj:(bQ true (ak g p) (bD g p)).2.1=0:=by rw [mL (n0 I8) I8]
 by_cases h1:64<(ak g p).n+(gE (ak g p)).length∨128<(ak g p).es.length+(gE (ak g p)).length
 ·have K0:CI b g p=(dz,10):=by unfold CI;rw [if_neg (by rw [h0];simp),if_pos h1]
  have hN:=Ae (ak g p) (by have:=hO.es;omega) (bD g p) (wW I8) true (n0 I8) Rj OV h1
  rw [K0]
  (refine Spec.hd (C:=T.cfg [] []) (rs:= [.c 4 28, .t 5]) (T.ah _ _) Tryz.func33 rfl rfl Tryz.ntmps33 Tryz.results33 (by simp [AObj.isNest]) (by simp [AObj.isNest]) (by kernel_rfl) T.mixed fun X hX hP hC aP ck=> ?_)
  repeat' (first|refine Rn.p ?_|(with_reducible apply And.intro)|((first|(refine hK _ ?_;clear hK K)|with_reducible intro K hK|refine Rs.p ?_|((with_reducible first|apply oP|apply oQ);exact rfl)|refine aa hX hC hP (LL) rfl rfl rfl (by simp only [go_sem,simprocAttr,dz]) rfl ?_|refine aa hX hC hP (hN) rfl rfl rfl (by simp only [go_sem,simprocAttr,dz]) rfl ?_);try simp only [go_sem,simprocAttr,dz])|((with_reducible refine oD ?_ ?_);kernel_rfl)|((with_reducible intro h);try simp only [go_sem,simprocAttr,dz] at h)|omega|intro h)
  all_goals rfl
 have K0:CI b g p=(NQ g (ak g p).n (gE (ak g p)) (CH g p false) (CH g p true),0):=by unfold CI;rw [if_neg (by rw [h0];simp),if_neg h1]
 have OW:Room g p:=⟨hO,by omega,by omega⟩
 rw [K0]
 have hN:=CF (ak g p) (by have:=hO.es;omega) (bD g p) (wW I8) I8 OV (gE (ak g p)) rfl (by omega) (by omega)
 have LM:=Fe OW
 have hk:=Ad (aM (ak g p) (gE (ak g p))) (by rw [fQ];omega) (zX (ak g p) (bD g p) (gE (ak g p))) (wW LM) true (n0 LM)
 have tT:IE true (aM (ak g p) (gE (ak g p))) (zX (ak g p) (bD g p) (gE (ak g p)))=(CH g p false,CH g p true,0):=if_pos ⟨by rw [mL (n0 LM) LM],GI OW⟩
 rw [tT] at hk
 simp only at hk
 have hm:=ai hO.run.1
 have hn:=aH hm
 have QA:=ir (g:=g) (p:=p)
 have lx:(CH g p false).length=((ak g p).n+(gE (ak g p)).length).toNat:=Bm
 have ly:(CH g p true).length=((ak g p).n+(gE (ak g p)).length).toNat:=Bm
 have zG:=o6 (g:=ak g p)
 have hfind:=fun i=>yL (g:=ak g p) zG.nd (i:=i)
 have hval:=fun i hi=>GJ (g:=ak g p) zG.nd (i:=i) hi
 have Nq:∀i∈gE (ak g p),(gE (ak g p)).idxOf i<(gE (ak g p)).length:=fun i hi=>(th hi).1
 generalize CH g p false=xs at*
 generalize CH g p true=ys at*
 generalize gE (ak g p)=bs at*
 have dJ:aM (ak g p) bs=⟨(ak g p).n+bs.length,iD (ak g p) bs⟩:=rfl
 have Ll:zX (ak g p) (bD g p) bs=⟨dI (ak g p) bs bs.length (bD g p).ord,(bD g p).outs++iE (ak g p) bs.length⟩:=rfl
 rw [dJ,Ll] at hk
 have Sr:(ak g p).n≤64:=hO.n
 generalize kD (ak g p) bs bs.length=ag at*
 generalize iD (ak g p) bs=E at*
 generalize dI (ak g p) bs bs.length (bD g p).ord=RO at*
 generalize (bD g p).outs++iE (ak g p) bs.length=RL at*
 generalize bD g p=AP at*
 obtain ⟨AN,yM⟩:∃AN:Nat,(ak g p).n=AN:=⟨(ak g p).n.toNat,by omega⟩
 generalize Ss:ak g p=A at*
 have oc:∀v:Nat,v<AN+bs.length→Spec Tryz.prog 77 (Args [eN v, .ptr 10001 0, .ptr 10002 0]) [(10001, .rob [.d (sI xs)]),(10002, .rob [.d (sI ys)])] (.agg [eN (xs.getD v 0),eN (ys.getD v 0)]) [(10001, .rob [.d (sI xs)]),(10002, .rob [.d (sI ys)])]:=fun v hv=>GK xs ys v (by omega) (by omega) (by omega) (by omega)
 (refine Spec.hd (C:=T.cfg [] []) (rs:= [.c 4 28, .t 5]) (T.ah _ _) Tryz.func33 rfl rfl Tryz.ntmps33 Tryz.results33 (by simp [AObj.isNest]) (by simp [AObj.isNest]) (by kernel_rfl) T.mixed fun X hX hP hC aP ck=> ?_)
 repeat' (first|(show cj _ (.seq (.region 7 _ _) _) _ _;(refine qm hX 301 rfl (.inl rfl) ?_;simp only [go_sem,simprocAttr,iF,yM]);(refine qm hX 302 rfl (.inl rfl) ?_;simp only [go_sem,simprocAttr,iF,yM]);(refine qm hX 303 rfl (.inl rfl) ?_;simp only [go_sem,simprocAttr,iF,yM]))|(show cj _ (.seq (.region 10 _ _) _) _ _;(refine jd hX 14 0 401 (.tip 71 2 []) rfl rfl rfl (by simp only [go_sem,simprocAttr,iF,yM]) (by decide) (by simp [go_sem,simprocAttr,iF,yM]) ⟨71,2,by decide, .inr rfl⟩ ?_;simp only [List.set_cons_zero,List.set_cons_succ,go_sem,simprocAttr,iF,yM]);(refine jd hX 14 1 402 (.tip 25 1 []) rfl rfl rfl (by simp only [go_sem,simprocAttr,iF,yM]) (by decide) (by simp [go_sem,simprocAttr,iF,yM]) ⟨25,1,by decide, .inr rfl⟩ ?_;simp only [List.set_cons_zero,List.set_cons_succ,go_sem,simprocAttr,iF,yM]))|refine Rn.p ?_|(with_reducible apply And.intro)|((first|(refine hK _ ?_;clear hK K)|with_reducible intro K hK|refine Rs.p ?_|((with_reducible first|apply oP|apply oQ);exact rfl)|refine aa hX hC hP (LL) rfl rfl rfl (by simp only [go_sem,simprocAttr,iF,yM]) rfl ?_|(refine aj hX hC hP [(10000,300),(10001,301),(10002,302),(10003,303),(10004,304)] (hN) rfl rfl rfl ?_ ?_ ?_ ?_ ?_ ?_ ?_ ?_ ?_ ?_ ?_ ?_ ?_ ?_;(focus (simp only [go_sem,simprocAttr,iF,yM];done));(iterate 12 (focus (simp [go_sem,simprocAttr,iF,yM];done)));try simp only [List.map_cons,List.map_nil])|(refine cr hX hC hP (hk) rfl rfl rfl ?_ ?_ rfl ?_;iterate 2 (focus (simp only [go_sem,simprocAttr,iF,yM];done))));try simp only [go_sem,simprocAttr,iF,yM])|((with_reducible refine oD ?_ ?_);kernel_rfl)|((with_reducible intro h);try simp only [go_sem,simprocAttr,iF,yM] at h)|omega|intro h)
 refine an (fun k:Nat=>k≤g.n.toNat) (fun k=>⟨[(2, .ptr 2 0),(4, .ptr 4 0),(5,eN 0),(9, .ptr 300 0),(13, .fn 77 [] [.ptr 10 0, .ptr 11 0]),(14, .ptr 14 0),(58,eN g.n),(59,eN k)], [(2, .box [eN g.n, .d (sE g.es)]),(4, .box [.nil 71, .nil 25]),(10, .box [.d (sI xs)]),(11, .box [.d (sI ys)]),(14, .box [.ref 401, .ref 402]),(300, .box [eN ((AN:Int)+(bs.length:Int)), .d (sE E), .d (sI RO), .d (.sl 1 (vI RL)), .mref 304]),(304, .mp 0 ag),(401, .tip 71 2 ((qb xs ys k).map rP)),(402, .tip 25 1 [])]⟩) (fun k=>g.n.toNat - k) 0 (by omega) ?_ ?_
 ·refine Le.of ?_ ?_<;>simp [go_sem,simprocAttr,qb,yM]
 rintro k hk
 rcases Nat.lt_or_ge k g.n.toNat with hlt|hge
 ·have hb:decide ((k:Int)<g.n)=true:=decide_eq_true (by omega)
  have hc:=oc k (by omega)
  have dN:=E9 (xs:=xs) (ys:=ys) (k:=k)
  have cT:=Bl (xs:=xs) (ys:=ys) (k:=k)
  generalize Rk:qb xs ys (k+1)=P2 at dN
  generalize qb xs ys k=P1 at dN cT
  repeat' (first|(show cj _ (.region 14 _ _) _ _;(refine dh hX 14 0 68 401 rfl rfl rfl (by first|exact .inl rfl|exact .inr rfl) (by decide) (by decide) ?_;simp only [List.set_cons_zero,List.set_cons_succ,go_sem,simprocAttr,hb,cT]))|refine Rn.p ?_|(with_reducible apply And.intro)|((first|(refine hK _ ?_;clear hK K)|with_reducible intro K hK|refine Rs.p ?_|((with_reducible first|apply oP|apply oQ);exact rfl)|(refine bt hX hC hP [(10001,10),(10002,11)] (hc) rfl rfl rfl ?_ ?_ ?_ ?_ ?_ ?_ rfl rfl ?_ ?_;(focus (simp only [go_sem,simprocAttr,hb,cT];done));(iterate 6 (focus (simp [go_sem,simprocAttr,hb,cT];done)));try simp only [List.map_cons,List.map_nil]));try simp only [go_sem,simprocAttr,hb,cT])|((with_reducible refine oD ?_ ?_);kernel_rfl)|((with_reducible intro h);try simp only [go_sem,simprocAttr,hb,cT] at h)|omega|intro h)
  refine ⟨k+1,by omega, ?_,by omega⟩
  rw [Rk,dN]
  refine Le.of ?_ ?_<;>simp [go_sem,simprocAttr,hb,cT,CG,rP]
 have hb:decide ((k:Int)<g.n)=false:=decide_eq_false (by omega)
 obtain rfl:k=g.n.toNat:=by omega
 repeat' (first|refine Rn.p ?_|(with_reducible apply And.intro)|((first|(refine hK _ ?_;clear hK K)|with_reducible intro K hK|refine Rs.p ?_|((with_reducible first|apply oP|apply oQ);exact rfl));try simp only [go_sem,simprocAttr,hb])|((with_reducible refine oD ?_ ?_);kernel_rfl)|((with_reducible intro h);try simp only [go_sem,simprocAttr,hb] at h)|omega|intro h)
 have Rl:NQ g (AN:Int) bs xs ys=⟨qb xs ys g.n.toNat,tJ g (AN:Int) bs xs ys g.es.length⟩:=rfl
 have cT:=Bl (xs:=xs) (ys:=ys) (k:=g.n.toNat)
 rw [Rl]
 generalize qb xs ys g.n.toNat=PT at cT
 refine an (fun i:Nat=>i≤g.es.length) (fun i=>⟨[(2, .ptr 2 0),(4, .ptr 4 0),(5,eN 0),(9, .ptr 300 0),(13, .fn 77 [] [.ptr 10 0, .ptr 11 0]),(14, .ptr 14 0),(72, .d (sE g.es)),(73,eN g.es.length),(74,eN i)], [(2, .box [eN g.n, .d (sE g.es)]),(4, .box [.nil 71, .nil 25]),(10, .box [.d (sI xs)]),(11, .box [.d (sI ys)]),(14, .box [.ref 401, .ref 402]),(300, .box [eN ((AN:Int)+(bs.length:Int)), .d (sE E), .d (sI RO), .d (.sl 1 (vI RL)), .mref 304]),(304, .mp 0 ag),(401, .tip 71 2 (PT.map rP)),(402, .tip 25 1 (vP (tJ g (AN:Int) bs xs ys i)))]⟩) (fun i=>g.es.length - i) 0 (by omega) ?_ ?_
 ·refine Le.of ?_ ?_<;>simp [go_sem,simprocAttr,tJ,vP]
 rintro i hi
 rcases Nat.lt_or_ge i g.es.length with hil|Rm
 ·have hb:decide ((i:Int)<(g.es.length:Int))=true:=decide_eq_true (by omega)
  have t1:=aZ hm hil
  have t2:=bn hm hil
  obtain ⟨u,hu⟩:∃u:Nat,(g.es.getD i (0,0)).1=u:=⟨(g.es.getD i (0,0)).1.toNat,by have:=t1.1;unfold tl at this;omega⟩
  obtain ⟨w,hw⟩:∃w:Nat,(g.es.getD i (0,0)).2=w:=⟨(g.es.getD i (0,0)).2.toNat,by have:=t2.1;unfold hd at this;omega⟩
  have OX:tl g i=u:=hu
  have OY:hd g i=w:=hw
  have hc1:=oc u (by omega)
  have AL:=oc w (by omega)
  have dN:=Fa (g:=g) (N:=(AN:Int)) (bs:=bs) (xs:=xs) (ys:=ys) (k:=i)
  have je:=GH (g:=g) (N:=(AN:Int)) (bs:=bs) (xs:=xs) (ys:=ys) (k:=i)
  have OZ:∀l1 l2,vP (l1++ [l2])=vP l1++ [[sP l2]]:=fun l1 l2=>by simp [vP]
  have ua:=hfind (i:Int)
  generalize O0:tJ g (AN:Int) bs xs ys (i+1)=L2 at dN
  generalize tJ g (AN:Int) bs xs ys i=L1 at dN je
  by_cases hin:(i:Int)∈bs
  ·rw [if_pos hin] at ua
   have CJ:=hval (i:Int) hin
   have hq:=Nq (i:Int) hin
   have Ec:I7 g (AN:Int) bs xs ys i= [CG xs ys u,CG xs ys (AN+bs.idxOf (i:Int)),CG xs ys w]:=by
    unfold I7 E8
    rw [if_pos hin,OX,OY,Int.toNat_natCast,Int.toNat_natCast,show ((AN:Int)+(bs.idxOf (i:Int):Nat)).toNat=AN+bs.idxOf (i:Int) by omega]
    rfl
   generalize bs.idxOf (i:Int)=q at ua CJ hq Ec
   rw [yM,show (AN:Int)+(q:Int)=((AN+q:Nat):Int) by omega] at CJ
   have F8:=oc (AN+q) (by omega)
   generalize AN+q=qq at CJ Ec F8
   repeat' (first|(show cj _ (.region 23 _ _) _ _;(refine dh hX 14 1 110 402 rfl rfl rfl (by first|exact .inl rfl|exact .inr rfl) (by decide) (by decide) ?_;simp only [List.set_cons_zero,List.set_cons_succ,go_sem,simprocAttr,hb,hu,hw,ua,CJ,vP_length,je,Option.isSome_some]))|refine Rn.p ?_|(with_reducible apply And.intro)|((first|(refine hK _ ?_;clear hK K)|with_reducible intro K hK|refine Rs.p ?_|((with_reducible first|apply oP|apply oQ);exact rfl)|(refine bt hX hC hP [(10001,10),(10002,11)] (hc1) rfl rfl rfl ?_ ?_ ?_ ?_ ?_ ?_ rfl rfl ?_ ?_;(focus (simp only [go_sem,simprocAttr,hb,hu,hw,ua,CJ,vP_length,je,Option.isSome_some];done));(iterate 6 (focus (simp [go_sem,simprocAttr,hb,hu,hw,ua,CJ,vP_length,je,Option.isSome_some];done)));try simp only [List.map_cons,List.map_nil])|(refine bt hX hC hP [(10001,10),(10002,11)] (AL) rfl rfl rfl ?_ ?_ ?_ ?_ ?_ ?_ rfl rfl ?_ ?_;(focus (simp only [go_sem,simprocAttr,hb,hu,hw,ua,CJ,vP_length,je,Option.isSome_some];done));(iterate 6 (focus (simp [go_sem,simprocAttr,hb,hu,hw,ua,CJ,vP_length,je,Option.isSome_some];done)));try simp only [List.map_cons,List.map_nil])|(refine bt hX hC hP [(10001,10),(10002,11)] (F8) rfl rfl rfl ?_ ?_ ?_ ?_ ?_ ?_ rfl rfl ?_ ?_;(focus (simp only [go_sem,simprocAttr,hb,hu,hw,ua,CJ,vP_length,je,Option.isSome_some];done));(iterate 6 (focus (simp [go_sem,simprocAttr,hb,hu,hw,ua,CJ,vP_length,je,Option.isSome_some];done)));try simp only [List.map_cons,List.map_nil]));try simp only [go_sem,simprocAttr,hb,hu,hw,ua,CJ,vP_length,je,Option.isSome_some])|((with_reducible refine oD ?_ ?_);kernel_rfl)|((with_reducible intro h);try simp only [go_sem,simprocAttr,hb,hu,hw,ua,CJ,vP_length,je,Option.isSome_some] at h)|omega|intro h)
   refine ⟨i+1,by omega, ?_,by omega⟩
   rw [O0,dN,Ec,OZ]
   refine Le.of ?_ ?_<;>simp [go_sem,simprocAttr,hb,hu,hw,ua,CJ,vP_length,je,Option.isSome_some,CG,rP,sP]
  ·rw [if_neg hin] at ua
   have Ec:I7 g (AN:Int) bs xs ys i= [CG xs ys u,CG xs ys w]:=by
    unfold I7 E8
    rw [if_neg hin,OX,OY,Int.toNat_natCast,Int.toNat_natCast]
    rfl
   repeat' (first|(show cj _ (.region 23 _ _) _ _;(refine dh hX 14 1 110 402 rfl rfl rfl (by first|exact .inl rfl|exact .inr rfl) (by decide) (by decide) ?_;simp only [List.set_cons_zero,List.set_cons_succ,go_sem,simprocAttr,hb,hu,hw,ua,vP_length,je,Option.isSome_none]))|refine Rn.p ?_|(with_reducible apply And.intro)|((first|(refine hK _ ?_;clear hK K)|with_reducible intro K hK|refine Rs.p ?_|((with_reducible first|apply oP|apply oQ);exact rfl)|(refine bt hX hC hP [(10001,10),(10002,11)] (hc1) rfl rfl rfl ?_ ?_ ?_ ?_ ?_ ?_ rfl rfl ?_ ?_;(focus (simp only [go_sem,simprocAttr,hb,hu,hw,ua,vP_length,je,Option.isSome_none];done));(iterate 6 (focus (simp [go_sem,simprocAttr,hb,hu,hw,ua,vP_length,je,Option.isSome_none];done)));try simp only [List.map_cons,List.map_nil])|(refine bt hX hC hP [(10001,10),(10002,11)] (AL) rfl rfl rfl ?_ ?_ ?_ ?_ ?_ ?_ rfl rfl ?_ ?_;(focus (simp only [go_sem,simprocAttr,hb,hu,hw,ua,vP_length,je,Option.isSome_none];done));(iterate 6 (focus (simp [go_sem,simprocAttr,hb,hu,hw,ua,vP_length,je,Option.isSome_none];done)));try simp only [List.map_cons,List.map_nil]));try simp only [go_sem,simprocAttr,hb,hu,hw,ua,vP_length,je,Option.isSome_none])|((with_reducible refine oD ?_ ?_);kernel_rfl)|((with_reducible intro h);try simp only [go_sem,simprocAttr,hb,hu,hw,ua,vP_length,je,Option.isSome_none] at h)|omega|intro h)
   refine ⟨i+1,by omega, ?_,by omega⟩
   rw [O0,dN,Ec,OZ]
   refine Le.of ?_ ?_<;>simp [go_sem,simprocAttr,hb,hu,hw,ua,vP_length,je,Option.isSome_none,CG,rP,sP]
 have hb:decide ((i:Int)<(g.es.length:Int))=false:=decide_eq_false (by omega)
 obtain rfl:i=g.es.length:=by omega
 repeat' (first|refine Rn.p ?_|(with_reducible apply And.intro)|((first|(refine hK _ ?_;clear hK K)|with_reducible intro K hK|refine Rs.p ?_|((with_reducible first|apply oP|apply oQ);exact rfl));try simp only [go_sem,simprocAttr,hb])|((with_reducible refine oD ?_ ?_);kernel_rfl)|((with_reducible intro h);try simp only [go_sem,simprocAttr,hb] at h)|omega|intro h)
end Go.Ab
end
section
namespace Go.Ab
open Go.Proofs
set_option maxRecDepth 10000
set_option linter.unusedSectionVars false
section
variable {g:Gr} {bs:List Int} (hm:aK g=true) (hb:wz g bs)
include hm hb
theorem GL {i:Nat} (hi:i<g.es.length):wT g i=true↔mN g false (qa i) (tl g i).toNat (hd g i).toNat:=by
 have t:=aZ hm hi
 have d:=bn hm hi
 unfold wT
 rw [wR (by omega),wS]
 exact ⟨fun h=>h.2,fun h=>⟨by omega,h⟩⟩
end
theorem Ff {i k:Nat} :qa i k=true↔k≠i:=by
 unfold qa
 rw [Bool.not_eq_true',decide_eq_false_iff_not]
 omega
end Go.Ab
end
section
namespace Go.Ab
open Go.Proofs
attribute [local congr] ACall.congr gd.congr Nx.congr
set_option maxRecDepth 20000
set_option maxHeartbeats 8000000
theorem yN (d:Dr) (h1:d.pts.length≤9223372036854775807) (h2:d.ls.length≤9223372036854775807) (h3:∀l∈d.ls,l.length≤9223372036854775807):Spec Tryz.prog 35 (Args [eDr d,eDr d]) [] (eB true) []:=by
 (refine Spec.hd (C:=T.cfg [] []) (rs:= [.t 4]) (T.ah _ _) Tryz.func35 rfl rfl Tryz.ntmps35 Tryz.results35 (by simp [AObj.isNest]) (by simp [AObj.isNest]) (by kernel_rfl) T.mixed fun X hX hP hC aP ck=> ?_)
 repeat' (first|refine Rn.p ?_|(with_reducible apply And.intro)|((first|(refine hK _ ?_;clear hK K)|with_reducible intro K hK|refine Rs.p ?_|((with_reducible first|apply oP|apply oQ);exact rfl));try simp only [go_sem,simprocAttr,decide_true])|((with_reducible refine oD ?_ ?_);kernel_rfl)|((with_reducible intro h);try simp only [go_sem,simprocAttr,decide_true] at h)|omega|intro h)
 refine an (fun k:Nat=>k≤d.pts.length) (fun k=>⟨[(2, .ptr 2 0),(3, .ptr 3 0),(4,eB false),(5,eN k)], [(2, .box [.d (sP d.pts), .d (sLn d.ls)]),(3, .box [.d (sP d.pts), .d (sLn d.ls)])]⟩) (fun k=>d.pts.length - k) 0 (by omega) ?_ ?_
 ·refine Le.of ?_ ?_<;>simp [go_sem,simprocAttr,decide_true]
 rintro k hk
 rcases Nat.lt_or_ge k d.pts.length with hlt|hge
 ·have hb:decide ((k:Int)<(d.pts.length:Int))=true:=decide_eq_true (by omega)
  repeat' (first|refine Rn.p ?_|(with_reducible apply And.intro)|((first|(refine hK _ ?_;clear hK K)|with_reducible intro K hK|refine Rs.p ?_|((with_reducible first|apply oP|apply oQ);exact rfl));try simp only [go_sem,simprocAttr,decide_true,hb])|((with_reducible refine oD ?_ ?_);kernel_rfl)|((with_reducible intro h);try simp only [go_sem,simprocAttr,decide_true,hb] at h)|omega|intro h)
  refine ⟨k+1,by omega, ?_,by omega⟩
  refine Le.of ?_ ?_<;>simp [go_sem,simprocAttr,decide_true,hb]
 have hb:decide ((k:Int)<(d.pts.length:Int))=false:=decide_eq_false (by omega)
 repeat' (first|refine Rn.p ?_|(with_reducible apply And.intro)|((first|(refine hK _ ?_;clear hK K)|with_reducible intro K hK|refine Rs.p ?_|((with_reducible first|apply oP|apply oQ);exact rfl));try simp only [go_sem,simprocAttr,decide_true,hb])|((with_reducible refine oD ?_ ?_);kernel_rfl)|((with_reducible intro h);try simp only [go_sem,simprocAttr,decide_true,hb] at h)|omega|intro h)
 refine an (fun i:Nat=>i≤d.ls.length) (fun i=>⟨[(2, .ptr 2 0),(3, .ptr 3 0),(4,eB false),(6,eN i)], [(2, .box [.d (sP d.pts), .d (sLn d.ls)]),(3, .box [.d (sP d.pts), .d (sLn d.ls)])]⟩) (fun i=>d.ls.length - i) 0 (by omega) ?_ ?_
 ·refine Le.of ?_ ?_<;>simp [go_sem,simprocAttr,decide_true,hb]
 rintro i hi
 rcases Nat.lt_or_ge i d.ls.length with hil|Rm
 ·have hb2:decide ((i:Int)<(d.ls.length:Int))=true:=decide_eq_true (by omega)
  have Om:=vP_getD d.ls i
  have Ro:=h3 _ (aS (d:= []) hil)
  generalize hl:d.ls.getD i []=l at Om Ro
  repeat' (first|refine Rn.p ?_|(with_reducible apply And.intro)|((first|(refine hK _ ?_;clear hK K)|with_reducible intro K hK|refine Rs.p ?_|((with_reducible first|apply oP|apply oQ);exact rfl));try simp only [go_sem,simprocAttr,decide_true,hb2,hl,vP_length])|((with_reducible refine oD ?_ ?_);kernel_rfl)|((with_reducible intro h);try simp only [go_sem,simprocAttr,decide_true,hb2,hl,vP_length] at h)|omega|intro h)
  refine an (fun j:Nat=>j≤l.length) (fun j=>⟨[(2, .ptr 2 0),(3, .ptr 3 0),(4,eB false),(6,eN i),(7,eN j)], [(2, .box [.d (sP d.pts), .d (sLn d.ls)]),(3, .box [.d (sP d.pts), .d (sLn d.ls)])]⟩) (fun j=>l.length - j) 0 (by omega) ?_ ?_
  ·refine Le.of ?_ ?_<;>simp [go_sem,simprocAttr,decide_true,hb2,hl,vP_length]
  rintro j hj
  rcases Nat.lt_or_ge j l.length with hjl|St
  ·have hb3:decide ((j:Int)<(l.length:Int))=true:=decide_eq_true (by omega)
   repeat' (first|refine Rn.p ?_|(with_reducible apply And.intro)|((first|(refine hK _ ?_;clear hK K)|with_reducible intro K hK|refine Rs.p ?_|((with_reducible first|apply oP|apply oQ);exact rfl));try simp only [go_sem,simprocAttr,decide_true,hb2,hl,vP_length,hb3])|((with_reducible refine oD ?_ ?_);kernel_rfl)|((with_reducible intro h);try simp only [go_sem,simprocAttr,decide_true,hb2,hl,vP_length,hb3] at h)|omega|intro h)
   refine ⟨j+1,by omega, ?_,by omega⟩
   refine Le.of ?_ ?_<;>simp [go_sem,simprocAttr,decide_true,hb2,hl,vP_length,hb3]
  have hb3:decide ((j:Int)<(l.length:Int))=false:=decide_eq_false (by omega)
  repeat' (first|refine Rn.p ?_|(with_reducible apply And.intro)|((first|(refine hK _ ?_;clear hK K)|with_reducible intro K hK|refine Rs.p ?_|((with_reducible first|apply oP|apply oQ);exact rfl));try simp only [go_sem,simprocAttr,decide_true,hb2,hl,vP_length,hb3])|((with_reducible refine oD ?_ ?_);kernel_rfl)|((with_reducible intro h);try simp only [go_sem,simprocAttr,decide_true,hb2,hl,vP_length,hb3] at h)|omega|intro h)
  refine ⟨i+1,by omega, ?_,by omega⟩
  refine Le.of ?_ ?_<;>simp [go_sem,simprocAttr,decide_true,hb2,hl,vP_length,hb3]
 have hb2:decide ((i:Int)<(d.ls.length:Int))=false:=decide_eq_false (by omega)
 repeat' (first|refine Rn.p ?_|(with_reducible apply And.intro)|((first|(refine hK _ ?_;clear hK K)|with_reducible intro K hK|refine Rs.p ?_|((with_reducible first|apply oP|apply oQ);exact rfl));try simp only [go_sem,simprocAttr,decide_true,hb2])|((with_reducible refine oD ?_ ?_);kernel_rfl)|((with_reducible intro h);try simp only [go_sem,simprocAttr,decide_true,hb2] at h)|omega|intro h)
def yO:Gr:=⟨3, [(0,1),(1,2),(0,2)]⟩
def Fv:Pl:=⟨[0,1,2], [[0,2], [1], []]⟩
def d21:Dr:=⟨[(0,0),(1,2),(3,3)], [[(0,0),(1,2)], [(1,2),(3,3)], [(0,0),(2,1),(3,3)]]⟩
theorem HR:(true=true)↔(bX yO).1=0∧bh yO Fv:=⟨fun _=>⟨by decide,⟨rfl,by decide,by decide⟩⟩,fun _=>rfl⟩
theorem NR:gE yO= [2]:=by
 have hm:aK yO=true:=by decide
 have h0:wT yO 0=false:=by rw [← tI hm (by decide)];decide
 have h1:wT yO 1=false:=by rw [← tI hm (by decide)];decide
 have h2:wT yO 2=true:=by rw [← tI hm (by decide)];decide
 unfold gE
 rw [if_pos hm]
 show z6 yO 3= [2]
 rw [nW,if_pos h2,nW,if_neg (by rw [h1];decide),nW,if_neg (by rw [h0];decide)]
 rfl
theorem NS:CI true yO Fv=(d21,0):=by
 have a1:j8 true yO Fv=(yO,Fv,0):=rfl
 have a2:ak yO Fv=yO:=rfl
 have a3:bD yO Fv=Fv:=rfl
 unfold CI CH
 rw [a1,a2,a3,NR,if_neg (by simp),if_neg (by decide)]
 rfl
end Go.Ab
end
section
namespace Go.Ab
open Go.Proofs
set_option maxRecDepth 10000
set_option linter.unusedSectionVars false
def ky (t:It):Bool × Int × Int:=(decide (0≤t.1),t.2)
structure Alike (G G':Gr) (P P':Pl):Prop where
 n:G'.n=G.n
 need:∀x,aY G' x=aY G x
 out:∀x,(bY P' x).map (dA G')=(bY P x).map (dA G)
 o1:∀x,∀e∈bY P x,0≤e
 o2:∀x,∀e∈bY P' x,0≤e
structure Su (f f':Fr):Prop where
 row:f'.row.map ky=f.row.map ky
 pl:f'.pl=f.pl
section
variable {G G':Gr} {P P':Pl} (hA:Alike G G' P P')
include hA
end
section
variable {G G':Gr} {P P':Pl} (hA:Alike G G' P P') (hm:aK G=true) (hm':aK G'=true)
include hA hm hm'
end
section
variable {G G':Gr} {P P':Pl} (hA:Alike G G' P P') (h:aU G P) (h':aU G' P')
include hA h h'
end
end Go.Ab
end
section
namespace Go.Ab
open Go.Proofs
set_option maxRecDepth 10000
set_option linter.unusedSectionVars false
theorem NT {g:Gr} {p:Pl} :(ak g p).es.length=g.es.length+(aW g p).length:=by
 show (g.es++aW g p).length=_
 rw [List.length_append]
section
variable {g:Gr} {p:Pl} (h:kj g p)
include h
end
end Go.Ab
end
section
namespace Go.Ab
open Go.Proofs
attribute [local congr] ACall.congr gd.congr Nx.congr
set_option maxRecDepth 10000
set_option maxHeartbeats 8000000
def Sv (rev:Bool) (row:List It) (i:Nat):Int:=((iL rev row).getD i (0,0,0)).2.2
def O2 (g:Gr) (f:Fr) (rev:Bool):Int:=match (iL rev f.row).find? (fun t=>az g f t.2.2) with
 |some t=>t.2.2
 |none=>match (List.range g.n.toNat).find? (fun x:Nat=>az g f (x:Int)) with
  |some x=>(x:Int)
  |none=> -1
end Go.Ab
end
section
namespace Go.Ab
open Go.Proofs
attribute [local congr] ACall.congr gd.congr Nx.congr
set_option maxRecDepth 20000
set_option maxHeartbeats 16000000
end Go.Ab
end
section
namespace Go.Ab
set_option maxRecDepth 10000
set_option linter.unusedSectionVars false
variable {P:PS}
structure PS.Hi (P:PS) (R:Int→Int) (f0 f1:Int) (hi:Int→Int):Prop where
 mid:∀ {x u a b v},P.ins x=u++a::b::v→hi (R a)=x
 h0:hi f0=P.Ki
 h1:hi f1=P.Ki
def PS.Sw (P:PS) (a:Int):Prop:=∃x u b v,P.outs x=u++a::b::v
section
variable (h:P.Ok) {L R:Int→Int} {f0 f1:Int} {low:Int→Int} (F:P.jf L R f0 f1 low)
include h F
theorem PS.Hi.CQ {hi:Int→Int} (H:P.Hi R f0 f1 hi):P.CQ.Hi L f1 f0 hi:=
 {mid:=fun {x u a b v} e=>by
   have e:=gK (show (P.ins x).reverse=_ from e)
   rw [← F.zE e];exact H.mid e
  h0:=H.h1
  h1:=H.h0}
variable {L' R':Int→Int} {Rp Rq:Int} {low':Int→Int} (F':P.jf L' R' Rp Rq low')
include F'
end
section
variable (h:P.Ok) {L R:Int→Int} {f0 f1:Int} {low:Int→Int} (F:P.jf L R f0 f1 low)
include h F
variable {hi:Int→Int} (H:P.Hi R f0 f1 hi)
include H
end
def NU (t h:Int→Int) (l:List Int) (x:Int):Int:=match l.find? (fun i=>decide (t i=x)) with
 |some i=>h i
 |none=>x
def NV (t h:Int→Int) (l:List Int) (x:Int):Nat→Int
 |0=>x
 |k+1=>NU t h l (NV t h l x k)
section
variable (h:P.Ok) {L R:Int→Int} {f0 f1:Int} {low:Int→Int} (F:P.jf L R f0 f1 low) {hi:Int→Int} (H:P.Hi R f0 f1 hi)
include h F H
end
end Go.Ab
end
section
namespace Go.Ab
open Go.Proofs
set_option maxRecDepth 10000
set_option linter.unusedSectionVars false
section
variable (g:Gr) (p:Pl)
def cK:Nat→Nat
 |0=>1
 |k+1=>cK k+((bY p (aD p k)).length - 1)
def LN (e:Int):Nat:=(bY p (dM g e)).findIdx (fun i=>decide (i=e))
def yP (x:Int):Int:=(lS g p x).headD 0
def K5 (x:Int):Int:=(lS g p x).getLastD 0
def LK:Nat→Int→Int
 |0,_=>0
 |k+1,e=>if dM g e=aD p k then (if LN g p e=0 then (if k=0 then 0 else LK k (yP g p (aD p k))) else (cK p k:Int)+LN g p e - 1) else LK k e
def RK (r:Int):Nat→Int→Int
 |0,_=>0
 |k+1,e=>if dM g e=aD p k then (if LN g p e+1<(bY p (aD p k)).length then (cK p k:Int)+LN g p e else (if k=0 then r else RK r k (K5 g p (aD p k)))) else RK r k e
def II:Nat→List Int
 |0=> [aD p 0]
 |k+1=>II k++List.replicate ((bY p (aD p k)).length - 1) (aD p k)
end
section
variable {g:Gr} {p:Pl}
variable (h:aU g p)
include h
def WK (g:Gr) (p:Pl) (k:Nat):List Int:=(eV (fK g p k).row).map (·.1)
end
end Go.Ab
end
section
namespace Go.Ab
open Go.Proofs
attribute [local congr] ACall.congr gd.congr Nx.congr
set_option maxRecDepth 10000
set_option maxHeartbeats 8000000
def Bn (A o:List Int) (f:Nat→Int):Nat→List Int
 |0=>A
 |j+1=>(Bn A o f j).set (o.getD j 0).toNat (f j)
def O3 (A o:List Int) (left:Int) (c:Nat) (j:Nat):List Int:=Bn A o (fun j=>if j=0 then left else (c:Int)+j - 1) j
def O4 (A o:List Int) (right:Int) (c:Nat) (j:Nat):List Int:=Bn A o (fun j=>if j+1<o.length then (c:Int)+j else right) j
def Hg (c k:Nat):List Int:=(List.range k).map fun i:Nat=>((c+i:Nat):Int)
def Sx (left:Int) (c d j:Nat):Int:=if min j (d - 1)=0 then left else (c:Int)+(min j (d - 1):Nat) - 1
def Sy (ed gp:D) (A B lo hi:List Int):List (Nat × AObj):= [(10000, .box [.d ed, .d gp, .ref 10001, .ref 10002, .ref 10003, .ref 10004]),(10001, .own 3 1 (A.map rI)),(10002, .own 3 1 (B.map rI)),(10003, .tip 3 1 (lo.map rI)),(10004, .own 3 1 (hi.map rI))]
def Sz (ed gp:D) (A B lo hi:List Int):List (Nat × AObj):= [(10000, .box [.d ed, .d gp, .ref 10001, .ref 10002, .ref 10005, .ref 10006]),(10001, .own 3 1 (A.map rI)),(10002, .own 3 1 (B.map rI)),(10005, .tip 3 1 (lo.map rI)),(10006, .own 3 1 (hi.map rI))]
end Go.Ab
end
section
namespace Go.Ab
open Go.Proofs
attribute [local congr] ACall.congr gd.congr Nx.congr
set_option maxRecDepth 10000
set_option maxHeartbeats 8000000
def K6 (A fs:List Int) (x:Int) (j:Nat):List Int:=Bn A fs (fun _=>x) j
end Go.Ab
end
section
namespace Go.Ab
open Go.Proofs
set_option maxRecDepth 10000
set_option linter.unusedSectionVars false
def arr (f:Int→Int) (m:Nat):List Int:=(List.range m).map fun i:Nat=>f (i:Int)
section
variable {g:Gr} {p:Pl} (h:aU g p)
include h
end
section
variable (g:Gr) (p:Pl)
def Ah:Nat→List Int
 |0=>bY p (aD p 0)
 |j+1=>if bY p (aD p (j+1))= [] then Ah j else (Ah j).take (fC (Ah j) (yP g p (aD p (j+1)))).toNat++bY p (aD p (j+1))++(Ah j).drop ((fC (Ah j) (yP g p (aD p (j+1)))).toNat+(lS g p (aD p (j+1))).length)
def K7:Nat→List Int
 |0=> [0]++Hg 1 ((bY p (aD p 0)).length - 1)++ [-1]
 |j+1=>(K7 j).take ((fC (Ah g p j) (yP g p (aD p (j+1)))).toNat+1)++Hg (cK p (j+1)) ((bY p (aD p (j+1))).length - 1)++(K7 j).drop ((fC (Ah g p j) (yP g p (aD p (j+1)))).toNat+(lS g p (aD p (j+1))).length)
def K8 (k:Nat):List Int:=((lS g p (aD p k)).dropLast).map (RK g p (-1) k)
def NW:Nat→List Int
 |0=> [aD p (g.n.toNat - 1)]
 |k+1=>K6 (NW k) (K8 g p k) (aD p k) (K8 g p k).length++List.replicate ((bY p (aD p k)).length - 1) 0
end
section
variable {g:Gr} {p:Pl}
variable (h:aU g p)
include h
end
end Go.Ab
end
section
namespace Go.Ab
open Go.Proofs
attribute [local congr] ACall.congr gd.congr Nx.congr
set_option maxRecDepth 60000
set_option maxHeartbeats 8000000
structure Fc where
 L:List Int
 R:List Int
 lo:List Int
 hi:List Int
def NX (g:Gr) (p:Pl) (f:Int):Int:=if f= -1 then (cK p g.n.toNat:Int) else f
def Rr (g:Gr) (p:Pl):Fc:=⟨arr (LK g p g.n.toNat) g.es.length,(arr (RK g p (-1) g.n.toNat) g.es.length).map (NX g p),II p g.n.toNat++ [aD p 0],NW g p g.n.toNat++ [aD p (g.n.toNat - 1)]⟩
def Rt:Fc:=⟨[], [], [], []⟩
def SA (b:Bool) (g:Gr) (p:Pl):Fc × Int:=if ((bQ b g p).2.1=0∧uM g=true)∧0<g.es.length then (Rr g p,0) else (Rt,1)
def SB (f:Fc):AV:= .agg [.d (sI f.L), .d (sI f.R), .d (sI f.lo), .d (sI f.hi)]
def Ru (l:List Int) (f:Int→Int) (j:Nat):List Int:=(l.take j).map f++l.drop j
end Go.Ab
end
section
namespace Go.Ab
open Go.Proofs
set_option maxRecDepth 10000
set_option linter.unusedSectionVars false
section
variable (g:Gr) (p:Pl)
def cN:Nat:=cK p g.n.toNat
def Lf (e:Int):Int:=LK g p g.n.toNat e
def Rf (e:Int):Int:=RK g p (cN g p) g.n.toNat e
def Rv:List Int:=II p g.n.toNat++ [aD p 0]
def Rw:List Int:=NW g p g.n.toNat++ [aD p (g.n.toNat - 1)]
def SC (f:Int):Int:=(Rv g p).getD f.toNat 0
def SD (f:Int):Int:=(Rw g p).getD f.toNat 0
end
section
variable {g:Gr} {p:Pl}
variable (h:aU g p) (hI:uM g=true)
include h hI
end
end Go.Ab
end
section
namespace Go.Ab
open Go.Proofs
set_option maxRecDepth 10000
set_option linter.unusedSectionVars false
def Rx (s:Nat) (x:Int):Bool:=decide (0≤x)&&decide (x<64)&&s.testBit x.toNat
section
variable {P:PS} (h:P.Ok) {L R:Int→Int} {f0 f1:Int} {low:Int→Int} (F:P.jf L R f0 f1 low)
def Ry (P:PS) (R:Int→Int) (f:Int):Nat→Nat
 |0=>0
 |j+1=>if R (P.sh j)=f then j+1 else Ry P R f j
include h F
end
section
variable (g:Gr) (p:Pl)
def SE:Gr:=⟨(cN g p:Int)+1,(List.range g.es.length).map fun i:Nat=>(Lf g p i,Rf g p i)⟩
end
section
variable {g:Gr} {p:Pl}
variable (h:aU g p) (hI:uM g=true)
include h hI
end
end Go.Ab
end
section
namespace Go.Ab
open Go.Proofs
attribute [local congr] ACall.congr gd.congr Nx.congr
set_option maxRecDepth 20000
set_option maxHeartbeats 8000000
end Go.Ab
end
section
namespace Go.Ab
open Go.Proofs
attribute [local congr] ACall.congr gd.congr Nx.congr
set_option maxRecDepth 20000
set_option maxHeartbeats 8000000
def SF (f:Fc) (k:Nat):List Edge:=(List.range k).map fun i:Nat=>(f.L.getD i 0,f.R.getD i 0)
def Rz (b:Bool) (g:Gr) (p:Pl):Bool:= !s4 g p&&uM g&&decide ((bQ b g p).2.1=0)&&decide (0<(g.es.length:Int))&&decide ((g.es.length:Int)≤60)
def SG:Gr:=⟨4, [(0,1),(1,3),(0,2),(2,3)]⟩
def SH:Pl:=⟨[0,1,2,3], [[0,2], [1], [3], []]⟩
end Go.Ab
end
section
namespace Go.Ab
open Go.Proofs
attribute [local congr] ACall.congr gd.congr Nx.congr
set_option maxRecDepth 20000
set_option maxHeartbeats 8000000
theorem fT:Spec Tryz.prog 32 (Args []) [] (eB true) []:=by
 have NY:=u9 yO (by decide) Fv ⟨by decide,by decide,by decide⟩ (by decide) (by decide) (by decide) true HR
 rw [NS] at NY
 simp only at NY
 have RA:=yN d21 (by decide) (by decide) (by decide)
 have e1:yO.es.map rE= [[.sc (.int .i64 0), .sc (.int .i64 1)], [.sc (.int .i64 1), .sc (.int .i64 2)], [.sc (.int .i64 0), .sc (.int .i64 2)]]:=rfl
 have e2:Fv.ord.map rI= [[.sc (.int .i64 0)], [.sc (.int .i64 1)], [.sc (.int .i64 2)]]:=rfl
 have e3:vI Fv.outs= [[.sl 1 [[.sc (.int .i64 0)], [.sc (.int .i64 2)]]], [.sl 1 [[.sc (.int .i64 1)]]], [.sl 1 []]]:=rfl
 have e4:yO.n=3:=rfl
 have e5:d21.pts.map rP= [[.sc (.int .i64 0), .sc (.int .i64 0)], [.sc (.int .i64 1), .sc (.int .i64 2)], [.sc (.int .i64 3), .sc (.int .i64 3)]]:=rfl
 have e6:vP d21.ls= [[.sl 2 [[.sc (.int .i64 0), .sc (.int .i64 0)], [.sc (.int .i64 1), .sc (.int .i64 2)]]], [.sl 2 [[.sc (.int .i64 1), .sc (.int .i64 2)], [.sc (.int .i64 3), .sc (.int .i64 3)]]], [.sl 2 [[.sc (.int .i64 0), .sc (.int .i64 0)], [.sc (.int .i64 2), .sc (.int .i64 1)], [.sc (.int .i64 3), .sc (.int .i64 3)]]]]:=rfl
 (refine Spec.hd (C:=T.cfg [] []) (rs:= [.t 0]) (T.ah _ _) Tryz.func32 rfl rfl Tryz.ntmps32 Tryz.results32 (by simp [AObj.isNest]) (by simp [AObj.isNest]) (by kernel_rfl) T.mixed fun X hX hP hC aP ck=> ?_)
 repeat' (first|refine Rn.p ?_|(with_reducible apply And.intro)|((first|(refine hK _ ?_;clear hK K)|with_reducible intro K hK|refine Rs.p ?_|((with_reducible first|apply oP|apply oQ);exact rfl)|(refine cr hX hC hP (NY) rfl rfl rfl ?_ ?_ rfl ?_;iterate 2 (focus (simp only [go_sem,simprocAttr,e1,e2,e3,e4,e5,e6,List.map_cons,List.map_nil,rI,decide_true];done)))|(refine cr hX hC hP (RA) rfl rfl rfl ?_ ?_ rfl ?_;iterate 2 (focus (simp only [go_sem,simprocAttr,e1,e2,e3,e4,e5,e6,List.map_cons,List.map_nil,rI,decide_true];done))));try simp only [go_sem,simprocAttr,e1,e2,e3,e4,e5,e6,List.map_cons,List.map_nil,rI,decide_true])|((with_reducible refine oD ?_ ?_);kernel_rfl)|((with_reducible intro h);try simp only [go_sem,simprocAttr,e1,e2,e3,e4,e5,e6,List.map_cons,List.map_nil,rI,decide_true] at h)|omega|intro h)
end Go.Ab
end
section
namespace Go.Ab
open Go.Proofs
set_option maxRecDepth 10000
set_option linter.unusedSectionVars false
theorem tK {g:Gr} {p:Pl} (h:aU g p) {k:Nat} (h1:1≤k) (hk:k<g.n.toNat):aY g (aD p k)≠0:=by
 intro e
 have:=iK h.1 (bq h.2.1 (by omega)) (bq h.2.1 hk) (uP h) e
 have bS:=bN h.2.1
 have hl:=aI h.2.1
 have a1:=dK bS (i:=0) (by omega)
 have a2:=dK bS (i:=k) (by omega)
 have e1:p.ord.getD 0 0=p.ord.getD k 0:=this
 rw [e1] at a1
 omega
theorem yQ {g:Gr} {p:Pl} (h:aU g p) (h2:2≤g.n):bY p (aD p 0)≠ []:=by
 have hm:=ai h.1
 intro hs
 obtain ⟨A,X,C,hrw,_,_,hX,_⟩:=bG hm (bP hm h.2.1 (k:=1) (by omega) fun j hj=>h.2.2 j (by omega)).1.tofe (h.2.2 1 (by omega)) (tK h (by omega) (by omega))
 obtain ⟨q,X0,e1,e2⟩:=hX.fst
 have hrow:(fK g p 1).row= [(-1,aD p 0, -1)]:=by
  simp [fK,aA,aJ,hs]
 rw [hrow,e1] at hrw
 have hq:q∈ [((-1:Int),aD p 0,(-1:Int))]:=by rw [hrw];simp
 rw [List.mem_singleton] at hq
 rw [hq] at e2
 have:=(bq h.2.1 (k:=1) (by omega)).1
 have e2:(-1:Int)=aD p 1:=e2
 omega
theorem GM {g:Gr} {p:Pl} (h:aU g p):(aW g p).length≤g.n.toNat∧(2≤g.n→(aW g p).length+1≤g.n.toNat):=by
 obtain ⟨h1,h2⟩:=dU h
 have hn:=aH (ai h.1)
 have uq:(cQ g.n.toNat).length=g.n.toNat:=by simp [cQ]
 have hmem:∀v,v∈cQ g.n.toNat↔0≤v∧v<g.n:=fun v=>by
  simp only [cQ,List.mem_map,List.mem_range]
  constructor
  ·rintro ⟨k,hk,e⟩
   have e:(k:Int)=v:=e
   omega
  ·rintro ⟨h0,h1⟩;exact ⟨v.toNat,by omega,by show ((v.toNat:Nat):Int)=v;omega⟩
 have hr:∀v∈(aW g p).map (·.1),(0≤v∧v<g.n)∧bY p v= []:=fun v hv=>by
  obtain ⟨e,he,rfl⟩:=List.mem_map.1 hv
  exact h2 e he
 constructor
 ·have:=dx h1 (m:=cQ g.n.toNat) fun v hv=>(hmem v).2 (hr v hv).1
  rw [List.length_map,uq] at this
  exact this
 ·intro h3
  have hs:=yQ h h3
  have h4:(aD p 0::(aW g p).map (·.1)).Nodup:=List.nodup_cons.2 ⟨fun hc=>hs (hr _ hc).2,h1⟩
  have:=dx h4 (m:=cQ g.n.toNat) fun v hv=>by
   rcases List.mem_cons.1 hv with rfl|hv
   ·exact (hmem _).2 (bq h.2.1 (by omega))
   ·exact (hmem v).2 (hr v hv).1
  rw [List.length_cons,List.length_map,uq] at this
  exact this
section
variable {g:Gr} {p:Pl} (h:aU g p)
include h
theorem Fg {c:Nat→Bool} {u w:Nat} (hR:mN g false c u w):u=w∨p.ord.idxOf (u:Int)<p.ord.idxOf (w:Int):=by
 have hm:=ai h.1
 induction hR with
 |refl=>exact .inl rfl
 |Fu _ _ hf=>cases hf
 | @fwd i hi KQ _ ih=>
   have:=oX h (e:=(i:Int)) (by omega) (by omega)
   have e1:dM g (i:Int)=tl g i:=rfl
   have e2:dA g (i:Int)=hd g i:=rfl
   have t1:=aZ hm hi
   have t2:=bn hm hi
   rw [e1,e2] at this
   rw [show (((hd g i).toNat:Nat):Int)=hd g i by omega]
   right
   rcases ih with e|ih
   ·rw [show ((u:Nat):Int)=tl g i by omega];exact this
   ·rw [show (((tl g i).toNat:Nat):Int)=tl g i by omega] at ih;omega
theorem yR {x:Int} :∀ {d:Nat} {i:Nat},i<g.es.length→hd g i=x→p.ord.length - p.ord.idxOf (tl g i)≤d→∃j,j<g.es.length∧hd g j=x∧wT g j=false
 |0,i,hi,hx,hd'=>by
  have hm:=ai h.1
  have t1:=aZ hm hi
  obtain ⟨k,hk,e⟩:=fh h.2.1 t1.1 t1.2
  have:=dK (bN h.2.1) (i:=k) (by rw [aI h.2.1];exact hk)
  have e:p.ord.getD k 0=tl g i:=e
  rw [e] at this
  have:=aI h.2.1
  omega
 |d+1,i,hi,hx,hd'=>by
  have hm:=ai h.1
  have hb:wz g []:=⟨List.nodup_nil,by simp⟩
  cases ht:wT g i with
  |false=>exact ⟨i,hi,hx,ht⟩
  |true=>
   have t1:=aZ hm hi
   have t2:=bn hm hi
   have hR:=(GL hm hb hi).1 ht
   have hf:=oX h (e:=(i:Int)) (by omega) (by omega)
   have e1:dM g (i:Int)=tl g i:=rfl
   have e2:dA g (i:Int)=hd g i:=rfl
   rw [e1,e2] at hf
   generalize hw:(hd g i).toNat=w at hR
   cases hR with
   |refl=>rw [show hd g i=tl g i by omega] at hf;omega
   |Fu _ _ hc=>cases hc
   | @fwd j hj RB IZ=>
     have hij:=Ff.1 RB
     have s1:=aZ hm hj
     have s2:=bn hm hj
     have O5:hd g j=hd g i:=by omega
     rcases Fg h IZ with e|hlt
     ·exfalso
      have RC:tl g j=tl g i:=by omega
      refine hij (tu h.1 hj hi ?_)
      exact Prod.ext RC O5
     ·rw [show (((tl g i).toNat:Nat):Int)=tl g i by omega,show (((tl g j).toNat:Nat):Int)=tl g j by omega] at hlt
      have hle:=List.idxOf_le_length (a:=tl g j) (l:=p.ord)
      exact yR (d:=d) hj (O5.trans hx) (by omega)
theorem Fh:(gE g).length+(g.n.toNat - 1)≤g.es.length:=by
 have hm:=ai h.1
 have bS:=bN h.2.1
 have hl:=aI h.2.1
 have h1:(gE g).length=(List.range g.es.length).countP fun i=>wT g i:=by
  unfold gE
  rw [if_pos hm,z6,List.length_map,List.countP_eq_length_filter]
 have h2:=List.length_eq_countP_add_countP (fun i=>wT g i) (l:=List.range g.es.length)
 rw [List.length_range] at h2
 have h3:(p.ord.drop 1).length≤(((List.range g.es.length).filter fun i=>decide ¬wT g i=true).map fun i=>hd g i).length:=by
  refine dx (bS.sublist (List.drop_sublist 1 _)) fun x hx=> ?_
  obtain ⟨k,hk,rfl⟩:=List.mem_iff_getElem.1 hx
  rw [List.length_drop] at hk
  rw [List.getElem_drop]
  have hx2:p.ord[1+k]'(by omega)=aD p (1+k):=by
   unfold aD;rw [List.getD_eq_getElem?_getD,List.getElem?_eq_getElem (by omega)];rfl
  rw [hx2]
  have hnz:=tK h (k:=1+k) (by omega) (by omega)
  obtain ⟨e,he⟩:∃e,e∈aL (·.2) g.es g.es.length (aD p (1+k)):=by
   cases hc:aL (·.2) g.es g.es.length (aD p (1+k)) with
   |nil=>exact absurd (by unfold aY;rw [hc];rfl) hnz
   |cons e l=>exact ⟨e,by simp⟩
  obtain ⟨⟨e0,e1⟩,e2⟩:=bu.1 he
  obtain ⟨j,j1,j2,j3⟩:=yR h (x:=aD p (1+k)) (i:=e.toNat) (by omega) e2 (Nat.le_refl _)
  exact List.mem_map.2 ⟨j,List.mem_filter.2 ⟨List.mem_range.2 j1,by rw [j3];rfl⟩,j2⟩
 rw [List.length_map,List.length_drop,hl, ← List.countP_eq_length_filter] at h3
 rw [h1]
 omega
end
theorem CK {g:Gr} {p:Pl} (h:aU g p) (hn:g.n≤24) (hm:g.es.length≤40):kj g p∧(ak g p).n+(gE (ak g p)).length≤64∧(ak g p).es.length+(gE (ak g p)).length≤128:=by
 obtain ⟨l1,l2⟩:=GM h
 have n1:=ir (g:=g) (p:=p)
 have hl:(ak g p).es.length=g.es.length+(aW g p).length:=NT
 have hA:kj g p:=⟨h,by omega,by omega⟩
 have hc:=Fh (jC hA)
 have hn0:=aH (ai h.1)
 refine ⟨hA, ?_, ?_⟩
 ·by_cases RD:2≤g.n
  ·have:=l2 RD
   omega
  ·omega
 ·omega
end Go.Ab
end
section
namespace Go.Ab
open Go.Proofs
attribute [local congr] ACall.congr gd.congr Nx.congr
set_option maxRecDepth 20000
set_option maxHeartbeats 8000000
def yS (g:Gr):Bool:=aK g&&decide (g.n≤24)&&decide (g.es.length≤40)
theorem CL (g:Gr) (hl:g.es.length≤9223372036854775807):Spec Tryz.prog 36 (Args [eG g]) [] (eB (yS g)) []:=by
 have LO:=xQ g hl
 (refine Spec.hd (C:=T.cfg [] []) (rs:= [.t 2]) (T.ah _ _) Tryz.func36 rfl rfl Tryz.ntmps36 Tryz.results36 (by simp [AObj.isNest]) (by simp [AObj.isNest]) (by kernel_rfl) T.mixed fun X hX hP hC aP ck=> ?_)
 cases hm:aK g with
 |false=>
  rw [hm] at LO
  have hF:yS g=false:=by simp [yS,hm]
  rw [hF]
  repeat' (first|refine Rn.p ?_|(with_reducible apply And.intro)|((first|(refine hK _ ?_;clear hK K)|with_reducible intro K hK|refine Rs.p ?_|((with_reducible first|apply oP|apply oQ);exact rfl)|refine aa hX hC hP (LO) rfl rfl rfl (by simp only [go_sem,simprocAttr]) rfl ?_);try simp only [go_sem,simprocAttr])|((with_reducible refine oD ?_ ?_);kernel_rfl)|((with_reducible intro h);try simp only [go_sem,simprocAttr] at h)|omega|intro h)
 |true=>
  rw [hm] at LO
  have hc:decide ((g.es.length:Int)≤40)=decide (g.es.length≤40):=by rw [decide_eq_decide];omega
  have hF:yS g=(decide (g.n≤24)&&decide (g.es.length≤40)):=by simp [yS,hm]
  rw [hF]
  cases h1:decide (g.n≤24)
  all_goals (repeat' (first|refine Rn.p ?_|(with_reducible apply And.intro)|((first|(refine hK _ ?_;clear hK K)|with_reducible intro K hK|refine Rs.p ?_|((with_reducible first|apply oP|apply oQ);exact rfl)|refine aa hX hC hP (LO) rfl rfl rfl (by simp only [go_sem,simprocAttr,hc,h1,Bool.false_and,Bool.true_and]) rfl ?_);try simp only [go_sem,simprocAttr,hc,h1,Bool.false_and,Bool.true_and])|((with_reducible refine oD ?_ ?_);kernel_rfl)|((with_reducible intro h);try simp only [go_sem,simprocAttr,hc,h1,Bool.false_and,Bool.true_and] at h)|omega|intro h))
theorem GN {b:Bool} {g:Gr} {p:Pl} (hr:b=true↔(bX g).1=0∧bh g p) (hf:yS g=true):(CI b g p).2=if (bQ b g p).2.1=0 then 0 else 1:=by
 unfold yS at hf
 rw [Bool.and_eq_true,Bool.and_eq_true,decide_eq_true_eq,decide_eq_true_eq] at hf
 by_cases h0:(bQ b g p).2.1=0
 ·rw [if_pos h0]
  obtain ⟨hrun,_⟩:=jA hr h0
  obtain ⟨hO,h1,h2⟩:=CK hrun hf.1.2 hf.2
  have ha:j8 b g p=(ak g p,bD g p,0):=by
   unfold j8
   rw [if_neg (by rw [h0];simp),if_neg (by rintro (h|h)<;>have:=hO.n<;>have:=hO.es<;>omega)]
  unfold CI
  rw [if_neg (by rw [ha];simp),if_neg (by omega)]
 ·rw [if_neg h0]
  have ha:j8 b g p=(gz,pz,1):=if_pos h0
  unfold CI
  rw [if_pos (by rw [ha];simp),ha]
theorem uc (g:Gr) (p:Pl) (hl:g.es.length≤9223372036854775807) (hp:EB p):Spec Tryz.prog 8 (Args [eG g,ePl p]) [] (eB true) []:=by
 have hG:=wj g p hl hp
 have I9:=CL g hl
 (refine Spec.hd (C:=T.cfg [] []) (rs:= [.t 4]) (T.ah _ _) Tryz.func8 rfl rfl Tryz.ntmps8 Tryz.results8 (by simp [AObj.isNest]) (by simp [AObj.isNest]) (by kernel_rfl) T.mixed fun X hX hP hC aP ck=> ?_)
 cases hB:s4 g p with
 |true=>
  rw [hB] at hG
  repeat' (first|refine Rn.p ?_|(with_reducible apply And.intro)|((first|(refine hK _ ?_;clear hK K)|with_reducible intro K hK|refine Rs.p ?_|((with_reducible first|apply oP|apply oQ);exact rfl)|refine aa hX hC hP (fT) rfl rfl rfl (by simp only [go_sem,simprocAttr]) rfl ?_|refine aa hX hC hP (hG) rfl rfl rfl (by simp only [go_sem,simprocAttr]) rfl ?_|refine aa hX hC hP (I9) rfl rfl rfl (by simp only [go_sem,simprocAttr]) rfl ?_);try simp only [go_sem,simprocAttr])|((with_reducible refine oD ?_ ?_);kernel_rfl)|((with_reducible intro h);try simp only [go_sem,simprocAttr] at h)|omega|intro h)
 |false=>
 rw [hB] at hG
 cases hF:yS g with
 |false=>
  rw [hF] at I9
  repeat' (first|refine Rn.p ?_|(with_reducible apply And.intro)|((first|(refine hK _ ?_;clear hK K)|with_reducible intro K hK|refine Rs.p ?_|((with_reducible first|apply oP|apply oQ);exact rfl)|refine aa hX hC hP (fT) rfl rfl rfl (by simp only [go_sem,simprocAttr]) rfl ?_|refine aa hX hC hP (hG) rfl rfl rfl (by simp only [go_sem,simprocAttr]) rfl ?_|refine aa hX hC hP (I9) rfl rfl rfl (by simp only [go_sem,simprocAttr]) rfl ?_);try simp only [go_sem,simprocAttr])|((with_reducible refine oD ?_ ?_);kernel_rfl)|((with_reducible intro h);try simp only [go_sem,simprocAttr] at h)|omega|intro h)
 |true=>
 rw [hF] at I9
 obtain ⟨b1,b2,b3,b4⟩:=A2 hB
 obtain ⟨b,hr⟩:=Q3 g p
 have O6:=u9 g (by omega) p (yf hB) (by omega) (by omega) (fun l hl=>by have:=b4 l hl;omega) b hr
 have hS:=dQ g (by omega) p (yf hB) b hr
 have hfit:=GN hr hF
 generalize CI b g p=R at*
 by_cases h0:(bQ b g p).2.1=0
 ·rw [if_pos h0] at hfit
  repeat' (first|refine Rn.p ?_|(with_reducible apply And.intro)|((first|(refine hK _ ?_;clear hK K)|with_reducible intro K hK|refine Rs.p ?_|((with_reducible first|apply oP|apply oQ);exact rfl)|refine aa hX hC hP (fT) rfl rfl rfl (by simp only [go_sem,simprocAttr,h0,hfit]) rfl ?_|refine aa hX hC hP (hG) rfl rfl rfl (by simp only [go_sem,simprocAttr,h0,hfit]) rfl ?_|refine aa hX hC hP (I9) rfl rfl rfl (by simp only [go_sem,simprocAttr,h0,hfit]) rfl ?_|refine aa hX hC hP (hS) rfl rfl rfl (by simp only [go_sem,simprocAttr,h0,hfit]) rfl ?_|refine aa hX hC hP (O6) rfl rfl rfl (by simp only [go_sem,simprocAttr,h0,hfit]) rfl ?_);try simp only [go_sem,simprocAttr,h0,hfit])|((with_reducible refine oD ?_ ?_);kernel_rfl)|((with_reducible intro h);try simp only [go_sem,simprocAttr,h0,hfit] at h)|omega|intro h)
 ·rw [if_neg h0] at hfit
  have IJ:decide ((bQ b g p).2.1=0)=false:=decide_eq_false h0
  repeat' (first|refine Rn.p ?_|(with_reducible apply And.intro)|((first|(refine hK _ ?_;clear hK K)|with_reducible intro K hK|refine Rs.p ?_|((with_reducible first|apply oP|apply oQ);exact rfl)|refine aa hX hC hP (fT) rfl rfl rfl (by simp only [go_sem,simprocAttr,IJ,hfit]) rfl ?_|refine aa hX hC hP (hG) rfl rfl rfl (by simp only [go_sem,simprocAttr,IJ,hfit]) rfl ?_|refine aa hX hC hP (I9) rfl rfl rfl (by simp only [go_sem,simprocAttr,IJ,hfit]) rfl ?_|refine aa hX hC hP (hS) rfl rfl rfl (by simp only [go_sem,simprocAttr,IJ,hfit]) rfl ?_|refine aa hX hC hP (O6) rfl rfl rfl (by simp only [go_sem,simprocAttr,IJ,hfit]) rfl ?_);try simp only [go_sem,simprocAttr,IJ,hfit])|((with_reducible refine oD ?_ ?_);kernel_rfl)|((with_reducible intro h);try simp only [go_sem,simprocAttr,IJ,hfit] at h)|omega|intro h)
end Go.Ab
end
